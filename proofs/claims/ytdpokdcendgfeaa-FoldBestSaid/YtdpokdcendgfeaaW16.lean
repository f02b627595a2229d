/- Several texts in one: The walk of rule.Check. rule.Check tells checkV. The walk of fold.Left. The reference's optimiser: its smallest functions (all, is, fixed, empty, kid, harmless). Conditions: those of each. -/
import Derived.Test.YtdpokdcendgfeaaW2
import Derived.Test.YtdpokdcendgfeaaW15
import Derived.Deep.CutBlock
import Derived.Deep.DeepCutAuto
import Derived.Test.YtdpokdcendgfeaaW13
import Derived.Deep.DeepMust
set_option linter.unusedSimpArgs false
set_option linter.unusedVariables false
set_option maxHeartbeats 80000000
set_option maxRecDepth 100000
namespace Go.Proofs.Ytdpokdcendgfeaa
open Go.RowKit
theorem ZlK (P:Pl) (hrow:∀f,ZdY P f) (w:World) (q:PlV) (rs:List (Option Addr×Nat)) (h:PlMem w q P rs) (hbig:∀l ∈ P.on++[P.ms],l.length≤4398046511104) :
 Calls Try.prog 37 #[q.val] w fun en w'=>en=.returned (.int .i64 (checkV P:Int))∧Below w.heap.size w w':=by
 have HM:=Za h;have HROW:=Za hrow;have HBIG:=Za hbig;clear hbig hrow;obtain ⟨e1,e2,e3,e4,e5,_,_,_,_,_,l1,l2,l3,l4⟩:=h;obtain ⟨ga,va,ta,oa,ma,gl,gc,vl,vc,tl,tc,ol,oc,ml,mc⟩:=q;simp only at e1 e2 e3 e4 e5;subst e1 e2 e3 e4 e5;simp only [PlV.val];unfold maxLen at l1 l2 l3 l4;have HF:=fun (W:World) (y:Int)=>Za (Zdq W y 1 255)
 have hb1:Below w.heap.size w (w.alloc (.cells #[.slice ga P.gh.length gc,.slice va P.vs.length vc,.slice ta P.ts.length tc,.slice oa P.on.length oc,.slice ma P.ms.length mc] 28)):=(Below.refl _ w).alloc lr_ _;have hk1:=Blk.new w 28 #[.slice ga P.gh.length gc,.slice va P.vs.length vc,.slice ta P.ts.length tc,.slice oa P.on.length oc,.slice ma P.ms.length mc];have HB1:=Za hb1;have HK1:=Za hk1;clear hb1 hk1
 by_cases hd:P.gh.length≤16∧P.vs.length≤16∧P.ts.length≤4∧P.on.length=P.gh.length
 · obtain ⟨d1,d2,d3,d4⟩:=hd;have hd1:¬(16:Int)<(P.gh.length:Int):=by omega
   have hd2:¬(16:Int)<(P.vs.length:Int):=by omega
   have hd3:¬(4:Int)<(P.ts.length:Int):=by omega
   rw [d4];rw [d4] at HB1 HK1;go_enter Try.func37,Try.ntmps37;go_wp2_with fail;go_loopw [44] (fun tx W=>∃i:Nat,tx=.int .i64 (i:Int)∧i≤P.vs.length∧(P.vs.take i).all Zci=true∧Below w.heap.size w W∧Blk W w.heap.size 28 #[.slice ga P.gh.length gc,.slice va P.vs.length vc,.slice ta P.ts.length tc,.slice oa P.gh.length oc,.slice ma P.ms.length mc]) (fun tx _=>P.vs.length - (intOf tx).toNat)
   case atStart=>exact ⟨0,rfl,Nat.zero_le _,by simp,HB1.out,HK1.out⟩
   case round =>
    obtain ⟨i,rfl,hi,hall,hB,hk⟩:=hrel;rename World=>W
    have HA:=Za hall;have HB:=Za hB;have HK:=Za hk;have hq1:=IntWalk.i64_in ((i:Int)+1) (by omega)
    by_cases hlt:i<P.vs.length
    · obtain ⟨x,hx⟩:∃x,P.vs[i]? = some x:=⟨_,ge_ hlt⟩;obtain ⟨ad,e,hab,q0,q1,q2⟩:=ZeN (HM.out.below hB).v hx;simp only at e;subst e;obtain ⟨x0,x1,x2⟩:=x;simp only at q0 q1 q2;have HX:=Za hx;have hvo:=Zhm ⟨x0,x1,x2⟩;simp only at hvo;clear hall hB hk hx hab
      by_cases hv:x1≤x0∧x0≤x2 ∧ -1073741824≤x1∧x2≤1073741824
      · have HVT:=Za (hvo.2 hv);obtain ⟨v1,v2,v3,v4⟩:=hv;clear hvo;go_wp2_with fail;go_roundw
        case rel=>exact ⟨i+1,by go_num,by omega,Za7 HX.out HA.out HVT.out,HB.out.alloc HB.out.size _,HK.out.alloc _⟩
        case measure=>simp [intOf];omega
      · have hvf:Zci ⟨x0,x1,x2⟩=false:=by
         cases hq:Zci ⟨x0,x1,x2⟩ with
         | false=>rfl
         | true=>exact (hv (hvo.1 hq)).elim
        have HTF:=Za (ZfZ (ZbW HX.out hvf));have HV:=Za hv;clear hvo hvf hv;go_wp2_with fail
        all_goals
         first
         | (exfalso;have:=HV.out;omega)
         | (
          go_ret
          exact ⟨by rw [HTF.out];rfl,HB.out.alloc HB.out.size _⟩)
    · have he:i=P.vs.length:=by omega
      have HA2:=Za (show P.vs.all Zci=true by rw [he,List.take_of_length_le lr_] at hall;exact hall);have p2:W.cell? ⟨w.heap.size,2,none⟩=some (.slice ta P.ts.length tc):=by rw [hk.cell];rfl
      clear hall hB hk;go_wp2_with fail;go_loopw [74] (fun tx W'=>∃i:Nat,tx=.int .i64 (i:Int)∧i≤P.ts.length∧(P.ts.take i).all (fun t=>Zp t 1 255)=true∧Below w.heap.size w W'∧Blk W' w.heap.size 28 #[.slice ga P.gh.length gc,.slice va P.vs.length vc,.slice ta P.ts.length tc,.slice oa P.gh.length oc,.slice ma P.ms.length mc]) (fun tx _=>P.ts.length - (intOf tx).toNat)
      case atStart=>exact ⟨0,rfl,Nat.zero_le _,by simp,HB.out,HK.out⟩
      case round =>
       clear HA HB HK p2 hlt he hq1;obtain ⟨j,rfl,hj,hall,hB,hk⟩:=hrel;rename World=>W'
       have HA:=Za hall;have HB:=Za hB;have HK:=Za hk;have hq1:=IntWalk.i64_in ((j:Int)+1) (by omega)
       by_cases hlt:j<P.ts.length
       · obtain ⟨x,hx⟩:∃x,P.ts[j]? = some x:=⟨_,ge_ (by omega)⟩;obtain ⟨ad,e,hab,q0⟩:=Za3 (HM.out.below hB).t (i:=j) (v:=.int .i64 x) (by omega) (by simp [Zm,hx]);simp only at e;subst e;have HX:=Za hx;clear hall hB hk hx hab
         cases hv:Zp x 1 255 with
         | true =>
          have HV:=Za hv;go_wp2_with (go_at_call 63;refine (HF _ _).out.mono ?_;rintro en w1 ⟨rfl,rfl⟩);go_roundw
          case rel=>exact ⟨j+1,by go_num,by omega,Za7 HX.out HA.out HV.out,HB.out,HK.out⟩
          case measure=>simp [intOf];omega
         | false =>
          have HTF:=Za (Zf0 (ZbW (p:=fun t=>Zp t 1 255) HX.out hv));go_wp2_with (go_at_call 63;refine (HF _ _).out.mono ?_;rintro en w1 ⟨rfl,rfl⟩);go_ret;exact ⟨by rw [HTF.out];rfl,HB.out⟩
       · have he:j=P.ts.length:=by omega
         have HA3:=Za (show P.ts.all (fun t=>Zp t 1 255)=true by rw [he,List.take_of_length_le lr_] at hall;exact hall);have p3:W'.cell? ⟨w.heap.size,3,none⟩=some (.slice oa P.gh.length oc):=by rw [hk.cell];rfl
         have p4:W'.cell? ⟨w.heap.size,4,none⟩=some (.slice ma P.ms.length mc):=by rw [hk.cell];rfl
         have hbx:w.heap.size<W'.heap.size:=hk.lt;have pa3:∀o,(W'.alloc o).cell? _=_:=fun o=>(World.cell?_alloc_lt W' o _ (by exact hbx)).trans p3
         have pa4:∀o,(W'.alloc o).cell? _=_:=fun o=>(World.cell?_alloc_lt W' o _ (by exact hbx)).trans p4
         obtain ⟨i3,hi3,hz0,hz1,hz2⟩:=ZD Zc2;have HMW:=Za (HM.out.below hB);have hrl:=HMW.out.e.1;simp only [List.length_append,List.length_cons,List.length_nil] at hrl
         have HCL:=Za (fun (W:World) (hb:Below W'.heap.size W' W)=>by
          have:=ZlH W oa P.on.length oc (slv rs P.on) ((HMW.out.o).below hb) (by rw [ZaU _ _ (by omega)];omega) (ZeU _ _) (by omega);rw [d4] at this
          exact this)
         clear hall hB hk hrl he;go_upto_region 16 with fail;go_cut [8] from 82 to 88 (fun s8 wx=>∃v7:Value,s8=v7∧wx.ownsRow W'.heap.size 26 1 v7 (P.gh.length+1) (slv rs P.on++[.slice ma P.ms.length mc])∧Below W'.heap.size W' wx)
         case first =>
          go_region_law (first
           | (
            refine Zet rfl 64 (.tmp 83) 25 rfl Try.f64 Try.func64 (by decide) (by decide) (.slice oa P.gh.length oc) (by simp [Act.eval,Act.put]) (fun v' w'=>w'.ownsRow W'.heap.size 26 1 v' P.gh.length (slv rs P.on)∧Below W'.heap.size W' w') ((HCL.out W'.drew br_.drew).mono (fun e w' hh=>by
             obtain ⟨v',rfl,ho,hb'⟩:=hh
             exact ⟨v',rfl,Zv ho (by simp),(Below.refl _ W').drew.trans hb'⟩)) ?_
            rintro v4 w4 ⟨hown,hb4⟩;have p4:w4.cell? _=_:=(hb4.cell (by exact hbx)).trans p4;have HOWN:=Za hown;have HB4:=Za hb4
            clear hown hb4)
           | (
            refine Zet rfl 64 (.tmp 83) 25 rfl Try.f64 Try.func64 (by decide) (by decide) (.slice oa P.gh.length oc) (by simp [Act.eval,Act.put]) (fun v' w'=>w'.ownsRow (W'.heap.size+1) 26 1 v' P.gh.length (slv rs P.on)∧Below W'.heap.size W' w'∧Blk w' W'.heap.size 26 #[.slice ma P.ms.length mc]) ((HCL.out (W'.alloc (.cells #[.slice ma P.ms.length mc] 26)).drew (br_.alloc lr_ _).drew).mono (fun e w' hh=>by
             obtain ⟨v',rfl,ho,hb'⟩:=hh
             exact ⟨v',rfl,Zv ho (by simp),((Below.refl _ W').alloc lr_ _).drew.trans (hb'.mono (by simp)),(Blk.new W' 26 _).drew.below hb' (by simp)⟩)) ?_
            rintro v4 w4 ⟨hown,hb4,hm4⟩;have p4:w4.cell? _=_:=(hb4.cell (by exact hbx)).trans p4;have HOWN:=Za (Zv hown (Nat.le_succ _));have HB4:=Za hb4;have HM4:=Za hm4
            clear hown hb4 hm4)
           | (
            refine ZfH rfl (.tmp 84) (.tmp 87) 25 rfl W'.heap.size 26 i3 (.slice none 0 0) 1 24 Try.underlying25 hi3 hz0 hz1 hz2 rfl (by decide) v4 P.gh.length (slv rs P.on) (by simp [Act.eval,Act.put]) (by first | exact HOWN.out | exact Zbq HOWN.out (fun k hk=>Below.heap_alloc _ _ k (HOWN.out.lt k hk).2)) ⟨_,0,none⟩ 1 1 [.slice ma P.ms.length mc] (by simp [Act.eval,Act.put];rfl) rfl (by
             intro j u hj;obtain rfl:j=0:=by have:=(gs_ hj).1;simp at this;exact this
             simp at hj;subst hj;show World.cell? _ ⟨_,0,none⟩=_
             first
             | exact (Blk.new w4 26 #[.slice ma P.ms.length mc]).cell 0
             | exact HM4.out.cell 0) (by simp [Value.oneCell']) (by unfold maxLen;omega) (by omega) (by have:=HB4.out.size;simp;omega) ?_
            intro v5 w5 hown5 hgrow;have HOWN5:=Za hown5;have HGR:=Za hgrow
            clear hown5 hgrow))
          all_goals
           simp only [List.getElem_toArray,List.getElem_cons_succ,List.getElem_cons_zero,Act.put,List.setIfInBounds_toArray,List.set_cons_zero,List.set_cons_succ];go_wp2_with fail;go_meet
           case rel=>exact ⟨_,rfl,HOWN5.out,by first | exact HB4.out.trans (Zan HGR.out (fun k hk=>(HOWN.out.lt k hk).1) HB4.out.size) | exact (HB4.out.alloc HB4.out.size _).trans (Zan HGR.out (fun k hk=>(HOWN.out.lt k hk).1) (by have:=HB4.out.size;simp;omega))⟩
         case rest =>
          obtain ⟨v7,rfl,hown,hb5⟩:=hcut;have hrl:rs.length=P.on.length:=by have:=HMW.out.e.1;simpa using this
          have hown2:wc.ownsRow W'.heap.size 26 1 u8 (P.gh.length+1) (slv (rs++[(ma,mc)]) (P.on++[P.ms])):=by rw [ZfK _ _ _ _ hrl];exact hown
          have hem:=HMW.out.e.below hb5;have hgc:=HMW.out.g.below hb5;have hkc:=HK.out.below hb5 hbx;have hbc:=HB.out.trans (hb5.mono HB.out.size);have hn:(P.on++[P.ms]).length=P.gh.length+1:=by simp [d4]
          have HSZ:=Za hb5.size;have HA2O:=HA2;clear hown hb5 hrl p3 p4 pa3 pa4 hi3 hz0 hz1 hz2 HCL HMW HM HA hq1;simp only at hem hgc;obtain ⟨N,hN⟩:∃N,P.gh.length+1=N:=⟨_,rfl⟩;rw [hN] at hown2 hn;have hN0:0<N:=by omega
          have hN9:N≤17:=by omega
          clear hN;obtain ⟨evs,hevs⟩:∃evs,P.on++[P.ms]=evs:=⟨_,rfl⟩;obtain ⟨ers,hers⟩:∃ers,rs++[(ma,mc)]=ers:=⟨_,rfl⟩;rw [hevs,hers] at hown2 hem;rw [hevs] at hn HBIG;have HEVS:=Za hevs;clear hevs hers;obtain ⟨g8,cap8,rfl,_⟩:=Zam hown2 (by omega);have HEM:=Za hem;have HGC:=Za hgc;have HKC:=Za hkc;have HBC:=Za hbc;have HOWN:=Za hown2;have HN:=Za hn;clear hem hgc hkc hbc hown2;go_wp2_with fail;go_loopw [7,91] (fun t7 t91 W=>∃j:Nat,t7=.int .i64 ((Zh (evs.take j):Nat):Int)∧t91=.int .i64 (j:Int)∧j≤N∧Zh (evs.take j)≤131072∧wc=W) (fun _ t91 _=>N - (intOf t91).toNat)
          case atStart=>exact ⟨0,by simp [Zh],rfl,Nat.zero_le _,by simp [Zh],rfl⟩
          case round =>
           obtain ⟨j,rfl,rfl,hj,hsum,rfl⟩:=hrel;have hq2:=IntWalk.i64_in ((j:Int)+1) (by omega)
           by_cases hlt:j<N
           · have hltI:(j:Int)<(N:Int):=by omega
             obtain ⟨l,hl⟩:∃l,evs[j]? = some l:=⟨_,ge_ (by rw [HN.out];exact hlt)⟩;obtain ⟨⟨ra,rc⟩,hr⟩:∃r,ers[j]? = some r:=⟨_,ge_ (by rw [HEM.out.1,HN.out];exact hlt)⟩;have ce:wc.cell? ⟨g8,j,none⟩=some (.slice ra l.length rc):=ZdS HOWN.out j _ (ZaS _ _ j _ _ hr hl);have hbg:=HBIG.out l (List.mem_of_getElem? hl);have hs:=Zby hl;have HS:=Za hs;have HLE:=Za (Zd8 evs (j+1));clear hl hr hs;obtain ⟨sm,hsm⟩:∃sm,Zh (evs.take j)=sm:=⟨_,rfl⟩;rw [hsm] at hsum HS ⊢;clear hsm;have hq3:=IntWalk.i64_in ((sm:Int)+(l.length:Int)) (by omega)
             by_cases h7:sm+l.length≤131072
             · have h7I:¬(131072:Int)<(sm:Int)+(l.length:Int):=by omega
               clear hbg;go_wp2_with fail;go_roundw
               case rel=>exact ⟨j+1,by rw [HS.out];go_num,by go_num,by omega,by rw [HS.out];exact h7,trivial⟩
               case measure =>
                simp only [intOf];omega
             · have h7I:(131072:Int)<(sm:Int)+(l.length:Int):=by omega
               have HTF:=Za (Zf1 (P:=P) (by rw [HEVS.out];have:=HLE.out;have:=HS.out;omega));clear hbg;go_wp2_with fail;go_ret;exact ⟨by rw [HTF.out];rfl,HBC.out⟩
           · have he:j=N:=by omega
             have HRV:=Za (show Zh evs≤131072 by rw [he,←HN.out,List.take_length] at hsum;exact hsum);have hltN:¬(j:Int)<(N:Int):=by omega
             clear hsum hlt;clear he;go_wp2_with fail;go_loopw [104] (fun t104 W=>∃j:Nat,t104=.int .i64 (j:Int)∧j≤N∧(evs.take j).all (Zy P)=true∧Below wc.heap.size wc W) (fun t104 _=>N - (intOf t104).toNat)
             case atStart=>exact ⟨0,rfl,Nat.zero_le _,by simp,Below.refl _ _⟩
             case round =>
              obtain ⟨j,rfl,hj,hall,hb⟩:=hrel;rename World=>W
              have hq4:=IntWalk.i64_in ((j:Int)+1) (by omega);have HALL:=Za hall;have HB6:=Za hb;have HBW:=Za (HBC.out.trans (hb.mono HBC.out.size))
              by_cases hlt:j<N
              · have hltI:(j:Int)<(N:Int):=by omega
                obtain ⟨l,hl⟩:∃l,evs[j]? = some l:=⟨_,ge_ (by rw [HN.out];exact hlt)⟩;obtain ⟨⟨ra,rc⟩,hr⟩:∃r,ers[j]? = some r:=⟨_,ge_ (by rw [HEM.out.1,HN.out];exact hlt)⟩;have ce:W.cell? ⟨g8,j,none⟩=some (.slice ra l.length rc):=ZdS (Zx HOWN.out hb lr_) j _ (ZaS _ _ j _ _ hr hl);obtain ⟨hs1,hs2,hs3⟩:=(HEM.out.below hb).2 j ra rc l hr hl;have hll:l.length≤131072:=Nat.le_trans (ZjM hl) HRV.out;have hkw:=HKC.out.below hb HKC.out.lt;have b0:W.cell? ⟨w.heap.size,0,none⟩=some (.slice ga P.gh.length gc):=by rw [hkw.cell];rfl
                have b1:W.cell? ⟨w.heap.size,1,none⟩=some (.slice va P.vs.length vc):=by rw [hkw.cell];rfl
                have b2:W.cell? ⟨w.heap.size,2,none⟩=some (.slice ta P.ts.length tc):=by rw [hkw.cell];rfl
                have b3:W.cell? ⟨w.heap.size,3,none⟩=some (.slice oa P.gh.length oc):=by rw [hkw.cell];rfl
                have b4:W.cell? ⟨w.heap.size,4,none⟩=some (.slice ma P.ms.length mc):=by rw [hkw.cell];rfl
                have HL:=Za hl
                by_cases hl0:l.length=0
                · have hl0b:((l.length:Int) == 0)=true:=by simp [hl0]
                  have hev:Zy P l=true:=by
                   have:l=[]:=List.length_eq_zero_iff.1 hl0;subst this;rfl
                  have HEV:=Za hev;have HLN:=Za hl0;obtain ⟨ln,hln⟩:∃ln,l.length=ln:=⟨_,rfl⟩;rw [hln] at ce hl0b hl0;clear hl hr hs1 hkw hb hall hev hs2 hll hln;subst hl0;go_wp2_with fail;go_roundw
                  case rel=>exact ⟨j+1,by go_num,by omega,Za7 HL.out HALL.out HEV.out,HB6.out.alloc HB6.out.size _⟩
                  case measure =>
                   simp only [intOf];omega
                · have hl0b:((l.length:Int) == 0)=false:=by simp [hl0]
                  have hl0I:¬(l.length:Int)=0:=by omega
                  have hbn:=(Below.refl W.heap.size W).alloc lr_ (.cells (chk ⟨ga,va,ta,oa,ma,P.gh.length,gc,P.vs.length,vc,P.ts.length,tc,P.gh.length,oc,P.ms.length,mc⟩ ra l.length rc 0) 106);have hsn:=hs1.below hbn
                  have hckr:Ckr (W.alloc (.cells (chk ⟨ga,va,ta,oa,ma,P.gh.length,gc,P.vs.length,vc,P.ts.length,tc,P.gh.length,oc,P.ms.length,mc⟩ ra l.length rc 0) 106)) W.heap.size ⟨ga,va,ta,oa,ma,P.gh.length,gc,P.vs.length,vc,P.ts.length,tc,P.gh.length,oc,P.ms.length,mc⟩ P ra rc l 0 :=
                   ⟨⟨Blk.new _ _ _,rfl,rfl,rfl,(HGC.out.below hb).below hbn,⟨by unfold maxLen;omega,by unfold maxLen;omega,by unfold maxLen;omega⟩⟩,hsn,fun ad e h7=>(by obtain ⟨ad',e',hlt2,_⟩:=hs1 (by omega);rw [e] at e';injection e' with e';subst e';omega),fun h0 ad e h7=>(by obtain ⟨ad',e',hlt2,_⟩:=(HGC.out.below hb) h0;simp only at e;rw [e] at e';injection e' with e';subst e';omega),hs2,hs3,by omega⟩
                  have HROWC:=Za (HROW.out (l.length+1) _ W.heap.size _ ra rc l 0 1 hckr (by omega))
                  have hvE:Zy P l=(match Zo P l (l.length+1) 0 1 with | some (e,_)=>decide (l.length≤e) | none=>false):=by
                   unfold Zy
                   cases l with
                   | nil=>simp at hl0
                   | cons=>rfl
                  simp only [chk] at HROWC;clear hl hr hs1 hkw hb hall hs2 hbn hsn hckr
                  cases hrv:Zo P l (l.length+1) 0 1 with
                  | none =>
                   rw [hrv] at HROWC hvE;have HTF:=Za (ZcV (P:=P) (by rw [HEVS.out];exact ZbW HL.out hvE));clear hrv hvE;go_wp2_with (go_at_call 65;refine HROWC.out.mono ?_;rintro en w5 ⟨ho5,-,hno5⟩;obtain ⟨n5,rfl⟩:=hno5 rfl;have HO5:=Za ho5;clear ho5 hno5);go_ret;exact ⟨by rw [HTF.out];rfl,(HBW.out.alloc HBW.out.size _).trans (HO5.out.below (fun k e=>by have:=HBW.out.size;omega) (by have:=HBW.out.size;simp;omega))⟩
                  | some en =>
                   obtain ⟨e5,n5⟩:=en;rw [hrv] at HROWC hvE;simp only at hvE
                   by_cases h5:l.length≤e5
                   · have h5b:decide (e5<l.length)=false:=by simp;omega
                     have h5I:¬(e5:Int)<(l.length:Int):=by omega
                     have HEV:=Za (show Zy P l=true by rw [hvE];simp [h5]);clear hrv hvE;go_wp2_with (go_at_call 65;refine HROWC.out.mono ?_;rintro en w5 ⟨ho5,hso5,-⟩;obtain ⟨rfl,hc5⟩:=hso5 _ _ rfl;have m6:w5.cell? ⟨W.heap.size,2,none⟩=w5.cell? ⟨W.heap.size,2,none⟩:=rfl;have m7:w5.cell? ⟨W.heap.size,6,none⟩=some (.int .i64 (e5:Int)):=(by rw [hc5.c.k.cell];rfl);have HO5:=Za ho5;clear ho5 hso5 hc5 m6);go_roundw
                     case rel=>exact ⟨j+1,by go_num,by omega,Za7 HL.out HALL.out HEV.out,(HB6.out.alloc HB6.out.size _).trans (HO5.out.below (fun k e=>by have:=HB6.out.size;omega) (by have:=HB6.out.size;simp;omega))⟩
                     case measure =>
                      simp only [intOf];omega
                   · have h5b:decide (e5<l.length)=true:=by simp;omega
                     have h5I:(e5:Int)<(l.length:Int):=by omega
                     have HTF:=Za (ZcV (P:=P) (by rw [HEVS.out];exact ZbW HL.out (by rw [hvE];simp;omega)));clear hrv hvE;go_wp2_with (go_at_call 65;refine HROWC.out.mono ?_;rintro en w5 ⟨ho5,hso5,-⟩;obtain ⟨rfl,hc5⟩:=hso5 _ _ rfl;have m6:w5.cell? ⟨W.heap.size,2,none⟩=w5.cell? ⟨W.heap.size,2,none⟩:=rfl;have m7:w5.cell? ⟨W.heap.size,6,none⟩=some (.int .i64 (e5:Int)):=(by rw [hc5.c.k.cell];rfl);have HO5:=Za ho5;clear ho5 hso5 hc5 m6);go_ret;exact ⟨by rw [HTF.out];rfl,(HBW.out.alloc HBW.out.size _).trans (HO5.out.below (fun k e=>by have:=HBW.out.size;omega) (by have:=HBW.out.size;simp;omega))⟩
              · have he:j=N:=by omega
                have HOK:=Za (ZhY (P:=P) d1 d2 d3 d4 HA2O.out HA3.out (by rw [HEVS.out];exact HRV.out) (by rw [HEVS.out];rw [he,←HN.out,List.take_length] at hall;exact hall));have hltN2:¬(j:Int)<(N:Int):=by omega
                clear hall hb hlt;clear he;go_wp2_with fail;go_ret;exact ⟨by rw [HOK.out];rfl,HBW.out⟩
 · have HTF:=Za (Zcc hd)
   by_cases d1:P.gh.length≤16
   · have hd1:¬(16:Int)<(P.gh.length:Int):=by omega
     by_cases d2:P.vs.length≤16
     · have hd2:¬(16:Int)<(P.vs.length:Int):=by omega
       by_cases d3:P.ts.length≤4
       · have hd3:¬(4:Int)<(P.ts.length:Int):=by omega
         have hne:P.on.length≠P.gh.length:=fun e=>hd ⟨d1,d2,d3,e⟩
         have hneb:((P.on.length:Int) != (P.gh.length:Int))=true:=by simp;omega
         clear hd;go_enter Try.func37,Try.ntmps37;go_wp2_with fail;go_ret;exact ⟨by rw [HTF.out];rfl,HB1.out⟩
       · have hd3:(4:Int)<(P.ts.length:Int):=by omega
         clear hd;go_enter Try.func37,Try.ntmps37;go_wp2_with fail;go_ret;exact ⟨by rw [HTF.out];rfl,HB1.out⟩
     · have hd2:(16:Int)<(P.vs.length:Int):=by omega
       clear hd;go_enter Try.func37,Try.ntmps37;go_wp2_with fail;go_ret;exact ⟨by rw [HTF.out];rfl,HB1.out⟩
   · have hd1:(16:Int)<(P.gh.length:Int):=by omega
     clear hd;go_enter Try.func37,Try.ntmps37;go_wp2_with fail;go_ret;exact ⟨by rw [HTF.out];rfl,HB1.out⟩
theorem Zk1 (P:Pl):ZdY P 0:=by
 intro w g q ra rc l i what h hf;have c5:w.cell? ⟨g,5,none⟩=some (.slice ra l.length rc):=by rw [h.c.k.cell];rfl
 have c6:w.cell? ⟨g,6,none⟩=some (.int .i64 (i:Int)):=by rw [h.c.k.cell];rfl
 have hed:decide (l.length≤i)=true:=by simp;omega
 have hil2:(l.length:Int)≤(i:Int):=by omega
 have hrv:Zo P l 0 i what=none:=rfl;rw [hrv];clear h hrv;go_enter Try.func65,Try.ntmps65;go_wp2_with fail;go_quiet (fail);go_wp2_with fail;go_ret2;refine ⟨(Only.refl _ w).drewN _,fun e n h0=>?_,fun _=>⟨_,rfl⟩⟩
 cases h0
theorem Zgc (P:Pl):∀f,ZdY P f
 | 0=>Zk1 P
 | f+1=>row_of (Zgc P f) (ZlM (Zgc P f))
theorem Zgr (w:World) (q:PlV) (P:Pl) (rs:List (Option Addr×Nat)) (h:PlMem w q P rs) (hbig:∀l ∈ P.on++[P.ms],l.length≤4398046511104) :
 Calls Try.prog 37 #[q.val] w fun en w'=>en=.returned (.int .i64 (checkV P:Int))∧Below w.heap.size w w' :=
 ZlK P (Zgc P) w q rs h hbig
def evP (P:Pl) (k:Nat):List Ac:=(P.on++[P.ms])[k]?.getD []
def evN (P:Pl) (k:Nat):Int:=if k<P.on.length then (k:Int) else -1
def Zb9 (P:Pl):Option (Int×Fd):=(List.range (P.on.length+1)).findSome? fun k=>(Z6 (evP P k)).map fun f=>(evN P k,f)
structure EvOk (l:List Ac):Prop where
 s:Z7 l
 le:l.length≤131072
 k:∀i,i<l.length→LkOk l i
def evQ (oo:Option Addr) (n gp k:Nat):Option Addr:=if k<n then oo.map (·.add k) else some ⟨gp,4,none⟩
theorem ZiK (oo:Option Addr) (j:Nat):∀n,j<n→(evL oo n)[j*2]? = some (.int .i64 (j:Int))∧(evL oo n)[j*2+1]? = some (.pointer (oo.map (·.add j)))
 | 0,h=>absurd h (Nat.not_lt_zero _)
 | n+1,h=>by
  rcases Nat.lt_or_ge j n with h1 | h1
  · obtain ⟨a,b⟩:=ZiK oo j n h1;rw [evL,List.getElem?_append_left (by rw [Zbu];omega),List.getElem?_append_left (by rw [Zbu];omega)];exact ⟨a,b⟩
  · obtain rfl:j=n:=by omega
    rw [evL,List.getElem?_append_right (by rw [Zbu];omega),List.getElem?_append_right (by rw [Zbu];omega),Zbu];rw [show j*2 - j*2=0 by omega,show j*2+1 - j*2=1 by omega];exact ⟨rfl,rfl⟩
theorem Zgo (oo:Option Addr) (n gp k:Nat) (h:k≤n):(evs oo n gp)[k*2]? = some (.int .i64 (if k<n then (k:Int) else -1))∧(evs oo n gp)[k*2+1]? = some (.pointer (evQ oo n gp k)):=by
 unfold evs evQ
 by_cases hk:k<n
 · rw [if_pos hk,if_pos hk,List.getElem?_append_left (by rw [Zbu];omega),List.getElem?_append_left (by rw [Zbu];omega)];exact ZiK oo k n hk
 · obtain rfl:k=n:=by omega
   rw [if_neg hk,if_neg hk,List.getElem?_append_right (by rw [Zbu];omega),List.getElem?_append_right (by rw [Zbu];omega),Zbu];rw [show k*2 - k*2=0 by omega,show k*2+1 - k*2=1 by omega];exact ⟨rfl,rfl⟩
theorem Zmq {w:World} {q:PlV} {P:Pl} {rs:List (Option Addr×Nat)} (h:PlMem w q P rs) {gp:Nat} {a0 a1 a2 a3:Value} (hb:Blk w gp 28 #[a0,a1,a2,a3,.slice q.ma q.ml q.mc]) {k:Nat} (hk:k≤P.on.length) :
 ∃p oa c,evQ q.oa P.on.length gp k=some p∧p.block<w.heap.size∧w.cell? p=some (.slice oa (evP P k).length c)∧Src w oa (evP P k).length (acs (evP P k))∧(evP P k).length≤c∧c≤maxLen:=by
 have hlen:(P.on++[P.ms]).length=P.on.length+1:=by simp
 obtain ⟨l,hl⟩:∃l,(P.on++[P.ms])[k]? = some l:=⟨_,ge_ (by omega)⟩;have he:evP P k=l:=by unfold evP;rw [hl];rfl
 rw [he];obtain ⟨⟨oa,c⟩,hr⟩:∃r,(rs++[(q.ma,q.mc)])[k]? = some r:=⟨_,ge_ (by rw [h.e.1];omega)⟩;obtain ⟨h1,h2,h3⟩:=h.e.2 k oa c l hr hl;have hrl:rs.length=P.on.length:=by have:=h.e.1;simpa using this
 unfold evQ
 by_cases hk2:k<P.on.length
 · rw [List.getElem?_append_left (by omega)] at hr;rw [List.getElem?_append_left hk2] at hl;obtain ⟨ad,e,hb2,hx⟩:=h.o (by omega);rw [if_pos hk2,e];exact ⟨ad.add k,oa,c,rfl,by rw [Zl];exact hb2,hx k _ (ZaS rs P.on k _ l hr hl),h1,h2,h3⟩
 · obtain rfl:k=P.on.length:=by omega
   rw [if_neg hk2];rw [List.getElem?_append_right (by omega),hrl,Nat.sub_self] at hr;rw [List.getElem?_append_right lr_,Nat.sub_self] at hl;simp only [List.getElem?_cons_zero,Option.some.injEq,Prod.mk.injEq] at hr hl;obtain ⟨rfl,rfl⟩:=hr;refine ⟨_,q.ma,q.mc,rfl,hb.lt,?_,h1,h2,h3⟩;rw [hb.cell];subst hl;simp [h.ml]
def ZhG:Option (Int×Fd)→Int×Int×Int×Bool
 | none=>(0,0,0,false)
 | some (n,f)=>(n,(f.frm:Int),(f.what:Int),true)
def ZaD (P:Pl):Int×Int×Int×Bool:=if checkV P=0 then ZhG (Zb9 P) else (0,0,0,false)
theorem ZeX (w:World) (q:PlV) (P:Pl) (rs:List (Option Addr×Nat)) (h:PlMem w q P rs) (hbig:∀l ∈ P.on++[P.ms],l.length≤4398046511104) (hok:checkV P=0→P.on.length≤16∧∀k,EvOk (evP P k)) :
 Calls Try.prog 28 #[q.val] w fun en w'=>en=.returned (.tuple #[.int .i64 (ZaD P).1,.int .i64 (ZaD P).2.1,.int .i64 (ZaD P).2.2.1,.bool (ZaD P).2.2.2])∧Below w.heap.size w w':=by
 have HB0:=Za ((Below.refl w.heap.size w).alloc lr_ (.cells #[.slice q.ga q.gl q.gc,.slice q.va q.vl q.vc,.slice q.ta q.tl q.tc,.slice q.oa q.ol q.oc,.slice q.ma q.ml q.mc] 28));have HP0:=Za (Blk.new w 28 #[.slice q.ga q.gl q.gc,.slice q.va q.vl q.vc,.slice q.ta q.tl q.tc,.slice q.oa q.ol q.oc,.slice q.ma q.ml q.mc]);have HM:=Za (h.below HB0.out);have HOK:=Za hok;have HBIG:=Za hbig;have HRES:=Za (show Try.f28.results=#[.tmp 2,.tmp 3,.tmp 4,.tmp 5] by rfl);have hck:=Zgr (w.alloc (.cells #[.slice q.ga q.gl q.gc,.slice q.va q.vl q.vc,.slice q.ta q.tl q.tc,.slice q.oa q.ol q.oc,.slice q.ma q.ml q.mc] 28)) q P rs HM.out hbig;simp only [PlV.val] at hck ⊢;have HCK:=Za hck;have HOL:=Za h.ol;clear h hck hok hbig;go_enter Try.func28,Try.ntmps28;go_upto_region 1 with fail;generalize w.alloc (.cells #[.slice q.ga q.gl q.gc,.slice q.va q.vl q.vc,.slice q.ta q.tl q.tc,.slice q.oa q.ol q.oc,.slice q.ma q.ml q.mc] 28)=W1 at HB0 HP0 HM HCK ⊢;obtain ⟨gp,hgp⟩:∃g,w.heap.size=g:=⟨_,rfl⟩;rw [hgp] at HP0;simp only [hgp];have HG:=Za hgp;clear hgp;have hgl:=HP0.out.lt;have b0:W1.cell? ⟨gp,0,none⟩=_:=HP0.out.cell 0;have b1:W1.cell? ⟨gp,1,none⟩=_:=HP0.out.cell 1;have b2:W1.cell? ⟨gp,2,none⟩=_:=HP0.out.cell 2;have b3:W1.cell? ⟨gp,3,none⟩=_:=HP0.out.cell 3;have b4:W1.cell? ⟨gp,4,none⟩=_:=HP0.out.cell 4;simp only [List.getElem?_toArray,List.getElem?_cons_succ,List.getElem?_cons_zero] at b0 b1 b2 b3 b4
 by_cases hc0:checkV P=0
 · have hcb:((checkV P:Int) != 0)=false:=by simp [hc0]
   have HE:=Za (show ZaD P=ZhG (Zb9 P) by unfold ZaD;rw [if_pos hc0]);obtain ⟨k4,hke⟩:=HOK.out hc0;have HKE:=Za hke;have hno:P.on.length≤131072:=by omega
   clear hc0 hke;obtain ⟨no,hnn⟩:∃n,P.on.length=n:=⟨_,rfl⟩;have HNN:=Za hnn;have hol:=HOL.out;rw [hnn] at hol k4 hno;rw [hol] at b3 HCK;clear hnn hol;have HEVT:=Za (fun (W:World) (hb:Below W1.heap.size W1 W)=>Zfv W gp no q.oc q.oa ((hb.cell (p:=⟨gp,3,none⟩) hgl).trans b3) (Nat.lt_of_lt_of_le hgl hb.size) (fun h0=>by have h9:=HM.out.o (by have:=HNN.out;omega);obtain ⟨ad,e,_⟩:=h9;exact ⟨ad,e⟩) hno);go_upto_region 3 with (go_at_call 37;with_reducible refine HCK.out.mono ?_;rintro en W2 ⟨rfl,hb2⟩;have HB2:=Za hb2;clear hb2);have HEV2:=Za (HEVT.out W2 HB2.out);go_upto_region 4 with (go_at_call 51;go_must (with_reducible refine HEV2.out.mono ?_;rintro en W3 ⟨v3,rfl,ho3,hb3⟩;obtain ⟨ge,ce,e3,hce,hcm⟩:=Zam ho3 (by omega);subst e3;have HO3:=Za ho3;have HB3:=Za (HB2.out.trans (hb3.mono HB2.out.size));clear ho3 hb3));clear b0 b1 b2 b3 b4;obtain ⟨NE,hNE⟩:∃n,no+1=n:=⟨_,rfl⟩;rw [hNE] at HO3;simp only [hNE];have HNE:=Za hNE;rw [hNE] at hce;go_loopw [15] (fun t15 W=>∃k:Nat,t15=.int .i64 (k:Int)∧k≤NE∧Hid (∀i,i<k→Z6 (evP P i)=none)∧Below W3.heap.size W3 W) (fun t15 _=>NE - (intOf t15).toNat)
   case atStart=>exact ⟨0,rfl,Nat.zero_le _,Za (fun i hi=>absurd hi (Nat.not_lt_zero _)),Below.refl _ _⟩
   case round =>
    obtain ⟨k,rfl,hk,HF,hb⟩:=hrel;have HB:=Za hb;have HBT:=Za (HB3.out.trans (hb.mono HB3.out.size));clear hb;have hq:=IntWalk.i64_in ((k:Int)+1) (by omega)
    by_cases hkn:k<NE
    · have hkI:(k:Int)<(NE:Int):=by omega
      have hk0:(0:Int)≤(k:Int):=by omega
      have HKN:=Za hkn;obtain ⟨adq,e9,hgb,hcells⟩:=Zak HO3.out (by omega);injection e9 with e9;subst e9;obtain ⟨g0,g1⟩:=Zgo q.oa no gp k (by omega);have c0:=(HB.out.cell (p:=(⟨ge,0,none⟩:Addr).add (k*2)) (by rw [Zl];exact hgb)).trans (hcells _ _ g0);have c1:=(HB.out.cell (p:=(⟨ge,0,none⟩:Addr).add (k*2+1)) (by rw [Zl];exact hgb)).trans (hcells _ _ g1);rw [show (⟨ge,0,none⟩:Addr).add (k*2)=⟨ge,k*2,none⟩ by cases k <;> simp [Addr.add]] at c0;rw [show (⟨ge,0,none⟩:Addr).add (k*2+1)=⟨ge,k*2+1,none⟩ by simp [Addr.add]] at c1;have hgw:ge<wr.heap.size:=Nat.lt_of_lt_of_le hgb HB.out.size;obtain ⟨p,oa,c,hp,hpb,hpc,hsr,hlc,hlm⟩:=Zmq (HM.out.below HBT.out) (HP0.out.below HBT.out HP0.out.lt) (k:=k) (by have:=HNN.out;omega);rw [HNN.out] at hp;rw [hp] at c1;have hev:=HKE.out k;obtain ⟨n9,hn9⟩:∃n:Int,(if k<no then (k:Int) else -1)=n:=⟨_,rfl⟩;rw [hn9] at c0;have HN9:=Za (show evN P k=n9 by unfold evN;rw [HNN.out];exact hn9);obtain ⟨N,hN⟩:∃n,(evP P k).length=n:=⟨_,rfl⟩;have HBX:=Za ((Below.refl wr.heap.size wr).alloc lr_ (.cells #[.int .i64 n9,.pointer (some p)] 88));have hle:=ZfS (wr.alloc (.cells #[.int .i64 n9,.pointer (some p)] 88)) oa c (evP P k) (hsr.below HBX.out) hlc hlm hev.s hev.le hev.k;rw [hN] at hle hpc;have HLE:=Za hle;have hpc2:=(HBX.out.cell (p:=p) hpb).trans hpc;have hbx0:(wr.alloc (.cells #[.int .i64 n9,.pointer (some p)] 88)).cell? ⟨wr.heap.size,1,none⟩=some (.pointer (some p)):=(Blk.new wr 88 #[.int .i64 n9,.pointer (some p)]).cell 1;have HBX0:=Za (Blk.new wr 88 #[.int .i64 n9,.pointer (some p)]);clear hkn hgb hcells g0 g1 hp hsr hlc hlm hev hn9 hN hle
      cases hlf:Z6 (evP P k) with
      | none =>
       rw [hlf] at HLE;have HNX:=Za (show ∀i,i<k+1→Z6 (evP P i)=none from fun i hi=>by rcases Nat.lt_or_ge i k with h1 | h1;exact HF.out i h1;rw [show i=k by omega];exact hlf);clear hlf;go_upto_region 7 with (go_at_call 52;with_reducible refine HLE.out.mono ?_;rintro en W5 ⟨hr5,hb5⟩;simp only [Zep] at hr5;obtain ⟨m0,m1,m2,oa3,nn3,cc3,m4,m5,e5⟩:=hr5;subst e5;have HB5:=Za (HBX.out.trans (hb5.mono HBX.out.size));clear hb5);go_wp2_with fail;go_roundw
       case rel=>exact ⟨k+1,by go_num,by have:=HKN.out;omega,Za HNX.out,HB.out.trans ((HB5.out.alloc HB5.out.size _).mono HB.out.size)⟩
       case measure =>
        simp only [intOf];have:=HKN.out;omega
      | some f =>
       rw [hlf] at HLE;have HE2:=Za (show Zb9 P=some (n9,f) from Zb7 (j:=k) (by have:=HNN.out;have:=HKN.out;omega) (fun i hi=>by rw [HF.out i hi];rfl) (by rw [hlf,Option.map_some,HN9.out]));clear hlf;go_upto_region 7 with (go_at_call 52;with_reducible refine HLE.out.mono ?_;rintro en W5 ⟨hr5,hb5⟩;simp only [Zep,FdV] at hr5;obtain ⟨v5,e5,u5,e6,hr6⟩:=hr5;subst e5;subst e6;obtain ⟨oa3,nn3,cc3,e6⟩:=Zdm hr6;subst e6;have HB5:=Za (HBX.out.trans (hb5.mono HBX.out.size));have HX5:=Za (HBX0.out.below hb5 HBX0.out.lt);clear hb5 hr6);have HX6:=Za (HX5.out.alloc (.cells #[.int .i64 (f.what:Int),.int .i64 (f.frm:Int),.int .i64 (f.to_:Int),.slice oa3 nn3 cc3,.int .i64 f.parts,.int .i64 f.gone] 90));have HF6:=Za (Blk.new W5 90 #[.int .i64 (f.what:Int),.int .i64 (f.frm:Int),.int .i64 (f.to_:Int),.slice oa3 nn3 cc3,.int .i64 f.parts,.int .i64 f.gone]);have HB6:=Za (HB5.out.alloc HB5.out.size (.cells #[.int .i64 (f.what:Int),.int .i64 (f.frm:Int),.int .i64 (f.to_:Int),.slice oa3 nn3 cc3,.int .i64 f.parts,.int .i64 f.gone] 90));generalize W5.alloc (.cells #[.int .i64 (f.what:Int),.int .i64 (f.frm:Int),.int .i64 (f.to_:Int),.slice oa3 nn3 cc3,.int .i64 f.parts,.int .i64 f.gone] 90)=W6 at HX6 HF6 HB6 ⊢;have x0:W6.cell? ⟨wr.heap.size,0,none⟩=some (.int .i64 n9):=HX6.out.cell 0;obtain ⟨f0,f1,f2,f3,f4,f5,_⟩:=Zk HF6.out;go_upto_region 8 with fail;go_quiet (fail);go_wp2_with fail;refine bodyPost_ret (v:=.tuple #[.int .i64 n9,.int .i64 (f.frm:Int),.int .i64 (f.what:Int),.bool true]) ?_ rfl ?_
       · simp only [results,HRES.out];go_simp
       refine ⟨by rw [HE.out,HE2.out];rfl,?_⟩;exact HB0.out.trans ((HBT.out.trans ((Zc HB6.out _).mono HBT.out.size)).mono HB0.out.size)
    · have hkI:¬(k:Int)<(NE:Int):=by omega
      have HE2:=Za (show Zb9 P=none from ZdG (fun i hi=>by rw [HF.out i (by have:=HNN.out;omega)];rfl));clear hkn;go_wp2_with fail;refine bodyPost_ret (v:=.tuple #[.int .i64 0,.int .i64 0,.int .i64 0,.bool false]) ?_ rfl ?_
      · simp only [results,HRES.out];go_simp
      refine ⟨by rw [HE.out,HE2.out];rfl,?_⟩;exact HB0.out.trans (HBT.out.mono HB0.out.size)
 · have hcb:((checkV P:Int) != 0)=true:=by simp;omega
   have HE:=Za (show ZaD P=(0,0,0,false) by unfold ZaD;rw [if_neg hc0]);clear hc0;go_wp2_with (go_at_call 37;with_reducible refine HCK.out.mono ?_;rintro en W2 ⟨rfl,hb2⟩;have HB2:=Za hb2;clear hb2);refine bodyPost_ret (v:=.tuple #[.int .i64 0,.int .i64 0,.int .i64 0,.bool false]) ?_ rfl ?_
   · simp only [results,HRES.out];go_simp
   refine ⟨by rw [HE.out],?_⟩;exact HB0.out.trans (HB2.out.mono HB0.out.size)
def ZnI (l:List Ac):List Int:=(List.range l.length).map fun j=>((endL l j:Nat):Int)
structure Rs (W:World) (ad:Addr) (c ge:Nat) (l:List Ac):Prop where
 r:Ro W ad c l
 e:Blk W ge 3 (Zm (ZnI l)).toArray
theorem Rs.below {W W':World} {ad:Addr} {c ge:Nat} {l:List Ac} (h:Rs W ad c ge l) (hb:Below W.heap.size W W'):Rs W' ad c ge l:=⟨h.r.below hb,h.e.below hb h.e.lt⟩
def ZU (l:List Ac) (i:Nat):Nat→Nat
 | 0=>i+1
 | k+1=>endL l (ZU l i k)
end Go.Proofs.Ytdpokdcendgfeaa
