/- Several texts in one: The walks of law 13's All and Far. Vars compared. The walk of law 13's Kept, where what was lent is as it was (under way). Conditions: those of each. -/
import Derived.Test.YtdpokdcendgfeaaW23
set_option linter.unusedSimpArgs false
set_option linter.unusedVariables false
set_option maxHeartbeats 80000000
set_option maxRecDepth 100000
namespace Go.Proofs.Ytdpokdcendgfeaa
open Go.RowKit
theorem ZjN (ls:List (List Ac)) (i:Nat):Zh (ls.take i)≤Zh ls:=by
 unfold Zh;rw [←List.take_append_drop i ls,List.map_append,List.sum_append]
 simp
def sizeA (P:Pl):Nat:=P.ms.length+Zh P.on
theorem ZiO (w:World) (q:PlV) (P:Pl) (rs:List (Option Addr×Nat)) (h:PlMem w q P rs) (hbig:∀l ∈ P.on++[P.ms],l.length≤4398046511104) (hon:P.on.length≤8796093022208) :
 Calls Try.prog 32 #[q.val] w fun en w'=>∃s:Nat,en=.returned (.int .i64 (s:Int))∧(decide (262144<s)=decide (262144<sizeA P))∧(s≤262144→s=sizeA P)∧Below w.heap.size w w':=by
 have HM0:=Za h;have hrl:=h.e.1;simp only [List.length_append,List.length_cons,List.length_nil] at hrl;obtain ⟨e1,e2,e3,e4,e5,_,_,_,_,_,_⟩:=h;obtain ⟨ga,va,ta,oa,ma,gl,gc,vl,vc,tl,tc,ol,oc,ml,mc⟩:=q;simp only at e1 e2 e3 e4 e5;subst e1 e2 e3 e4 e5;simp only [PlV.val];have hms:=hbig P.ms (by simp);have HBIG:=Za (fun (l:List Ac) (hl:l ∈ P.on)=>hbig l (List.mem_append_left _ hl));obtain ⟨N,hN⟩:∃N,P.on.length=N:=⟨_,rfl⟩;obtain ⟨M,hM⟩:∃M,P.ms.length=M:=⟨_,rfl⟩;rw [hN] at hon hrl;rw [hM] at hms;have HN:=Za hN;have HMS:=Za hM;have HRL:=Za (show rs.length=N by omega);have HW1:=Za (show Below w.heap.size w (w.alloc (.cells #[.slice ga P.gh.length gc,.slice va P.vs.length vc,.slice ta P.ts.length tc,.slice oa N oc,.slice ma M mc] 28)) from (Below.refl _ w).alloc lr_ _);have HP1:=Za (Blk.new w 28 #[.slice ga P.gh.length gc,.slice va P.vs.length vc,.slice ta P.ts.length tc,.slice oa N oc,.slice ma M mc]);rw [hN,hM];clear hrl hN hM hbig;go_enter Try.func32,Try.ntmps32;go_upto_region 1 with fail;generalize w.alloc (.cells #[.slice ga P.gh.length gc,.slice va P.vs.length vc,.slice ta P.ts.length tc,.slice oa N oc,.slice ma M mc] 28)=W1 at HW1 HP1;obtain ⟨p0,p1,p2,p3,p4,_⟩:=ZM HP1.out;go_wp2_with fail;go_loopw [3,4] (fun t3 t4 Wi=>∃i:Nat,t3=.int .i64 (((M+Zh (P.on.take i):Nat)):Int)∧t4=.int .i64 (i:Int)∧i≤N∧M+Zh (P.on.take i)≤17592186044416∧Below W1.heap.size W1 Wi) (fun _ t4 _=>N - (intOf t4).toNat)
 case atStart=>exact ⟨0,by simp [Zh],rfl,Nat.zero_le _,by simp [Zh];omega,Below.refl _ _⟩
 case round =>
  obtain ⟨i,rfl,rfl,hi,hs,hb⟩:=hrel;rename World=>Wi
  have HB:=Za hb;have hq2:=IntWalk.i64_in ((i:Int)+1) (by omega);have hpi:=HP1.out.below hb HP1.out.lt;obtain ⟨p0,p1,p2,p3,p4,_⟩:=ZM hpi;obtain ⟨s,hse⟩:∃s,M+Zh (P.on.take i)=s:=⟨_,rfl⟩;have HSE:=Za hse;rw [hse] at hs ⊢;clear hb hpi hse
  by_cases hlt:i<N
  · have hltI:(i:Int)<(N:Int):=by omega
    obtain ⟨l,hl⟩:∃l,P.on[i]? = some l:=⟨_,ge_ (by rw [HN.out];exact hlt)⟩;obtain ⟨⟨ra,rc⟩,hr⟩:∃r,rs[i]? = some r:=⟨_,ge_ (by rw [HRL.out];exact hlt)⟩;obtain ⟨ad,e,hab,q0⟩:=Za3 ((HM0.out.below (HW1.out.trans (HB.out.mono HW1.out.size))).o) (i:=i) (v:=.slice ra l.length rc) (by rw [HN.out];omega) (ZaS _ _ i _ _ hr hl);simp only at e;subst e;have hll:=HBIG.out l (List.mem_of_getElem? hl);have HSS:=Za (Zby hl)
    by_cases h7:s≤262144
    · have h7I:(s:Int)≤262144:=by omega
      have u2:=IntWalk.i64_in ((s:Int)+(l.length:Int)) (by omega);clear hl hr hab;go_wp2_with fail;go_roundw
      case rel=>exact ⟨i+1,by have h8:=HSS.out;have h9:=HSE.out;go_num,by go_num,by omega,by have h8:=HSS.out;have h9:=HSE.out;omega,HB.out⟩
      case measure =>
       simp only [intOf];omega
    · have h7I:¬(s:Int)≤262144:=by omega
      have h7J:(262144:Int)<(s:Int):=by omega
      have HF:=Za (show 262144<sizeA P from by
       have h8:=HSE.out;have h9:=ZjN P.on i;have h10:=HN.out;have h11:=HMS.out;unfold sizeA
       omega)
      have HG7:=Za h7;clear hl hr hab;go_wp2_with fail;go_ret;exact ⟨s,rfl,⟨fun _=>HF.out,fun _=>by have:=HG7.out;omega⟩,fun h=>absurd h HG7.out,HW1.out.trans (HB.out.mono HW1.out.size)⟩
  · have hie:i=N:=by omega
    have hltI:¬(i:Int)<(N:Int):=by omega
    have HF:=Za (show s=sizeA P from by
     have h8:=HSE.out;rw [hie,List.take_of_length_le (by rw [HN.out];exact lr_)] at h8;have h10:=HN.out;have h11:=HMS.out;unfold sizeA
     omega)
    clear hie hlt;go_wp2_with fail;go_ret;exact ⟨s,rfl,by rw [HF.out],fun _=>HF.out,HW1.out.trans (HB.out.mono HW1.out.size)⟩
def Zc3 (P:Pl):Bool:=decide (100<P.on.length)||(decide (100<P.gh.length)||(decide (100<P.vs.length)||(decide (100<P.ts.length)||decide (262144<sizeA P))))
theorem ZnH (w:World) (q:PlV) (P:Pl) (rs:List (Option Addr×Nat)) (h:PlMem w q P rs) (hbig:∀l ∈ P.on++[P.ms],l.length≤4398046511104) (hon:P.on.length≤8796093022208) :
 Calls Try.prog 26 #[q.val] w fun en w'=>en=.returned (.bool (Zc3 P))∧Below w.heap.size w w':=by
 have HW1:=Za (show Below w.heap.size w (w.alloc (.cells #[.slice q.ga q.gl q.gc,.slice q.va q.vl q.vc,.slice q.ta q.tl q.tc,.slice q.oa q.ol q.oc,.slice q.ma q.ml q.mc] 28)) from (Below.refl _ w).alloc lr_ _);have HP1:=Za (Blk.new w 28 #[.slice q.ga q.gl q.gc,.slice q.va q.vl q.vc,.slice q.ta q.tl q.tc,.slice q.oa q.ol q.oc,.slice q.ma q.ml q.mc]);have HA:=Za (ZiO (w.alloc (.cells #[.slice q.ga q.gl q.gc,.slice q.va q.vl q.vc,.slice q.ta q.tl q.tc,.slice q.oa q.ol q.oc,.slice q.ma q.ml q.mc] 28)) q P rs (h.below HW1.out) hbig hon);have HL:=Za (And.intro h.gl (And.intro h.vl (And.intro h.tl h.ol)));simp only [PlV.val] at HA ⊢;obtain ⟨r,hr⟩:∃r,Zc3 P=r:=⟨_,rfl⟩;have HR:=Za hr;rw [hr];clear h hbig hon hr;go_enter Try.func26,Try.ntmps26;go_upto_region 1 with fail;generalize w.alloc (.cells #[.slice q.ga q.gl q.gc,.slice q.va q.vl q.vc,.slice q.ta q.tl q.tc,.slice q.oa q.ol q.oc,.slice q.ma q.ml q.mc] 28)=W1 at HW1 HP1 HA ⊢;obtain ⟨p0,p1,p2,p3,p4,_⟩:=ZM HP1.out
 by_cases c3:100<q.ol
 · have c3I:(100:Int)<(q.ol:Int):=by omega
   have HF:=Za (show r=true from by rw [←HR.out];unfold Zc3;have:=HL.out;simp;omega);clear c3;go_wp2_with fail;go_ret;exact ⟨by rw [HF.out];first | done | rfl,HW1.out⟩
 · have c3I:¬(100:Int)<(q.ol:Int):=by omega
   have H3:=Za c3;clear c3
   by_cases c0:100<q.gl
   · have c0I:(100:Int)<(q.gl:Int):=by omega
     have HF:=Za (show r=true from by rw [←HR.out];unfold Zc3;have:=HL.out;simp;omega);clear c0;go_wp2_with fail;go_ret;exact ⟨by rw [HF.out];first | done | rfl,HW1.out⟩
   · have c0I:¬(100:Int)<(q.gl:Int):=by omega
     have H0:=Za c0;clear c0
     by_cases c1:100<q.vl
     · have c1I:(100:Int)<(q.vl:Int):=by omega
       have HF:=Za (show r=true from by rw [←HR.out];unfold Zc3;have:=HL.out;simp;omega);clear c1;go_wp2_with fail;go_ret;exact ⟨by rw [HF.out];first | done | rfl,HW1.out⟩
     · have c1I:¬(100:Int)<(q.vl:Int):=by omega
       have H1:=Za c1;clear c1
       by_cases c2:100<q.tl
       · have c2I:(100:Int)<(q.tl:Int):=by omega
         have HF:=Za (show r=true from by rw [←HR.out];unfold Zc3;have:=HL.out;simp;omega);clear c2;go_wp2_with fail;go_ret;exact ⟨by rw [HF.out];first | done | rfl,HW1.out⟩
       · have c2I:¬(100:Int)<(q.tl:Int):=by omega
         have H2:=Za c2;clear c2;go_upto_region 2 with (go_at_call 32;(with_reducible refine HA.out.mono ?_);rintro en w3 ⟨s,rfl,hs1,hs2,hb3⟩;have HB3:=Za hb3;have HS1:=Za hs1;clear hb3 hs1 hs2);go_wp2_with fail;go_ret;have h3:=H3.out;have h0:=H0.out;have h1:=H1.out;have h2:=H2.out;obtain ⟨l0,l1,l2,l3⟩:=HL.out;refine ⟨?_,HW1.out.trans (HB3.out.mono HW1.out.size)⟩
         have e:Zc3 P=decide (262144<sizeA P):=by
          unfold Zc3;rw [decide_eq_false (show ¬ 100<P.on.length by omega),decide_eq_false (show ¬ 100<P.gh.length by omega),decide_eq_false (show ¬ 100<P.vs.length by omega),decide_eq_false (show ¬ 100<P.ts.length by omega)];rfl
         have e2:decide ((262144:Int)<(s:Int))=decide (262144<s):=by
          by_cases h9:262144<s
          · rw [decide_eq_true h9,decide_eq_true (by omega)]
          · rw [decide_eq_false h9,decide_eq_false (by omega)]
         rw [←HR.out,e,←HS1.out,←e2]
         first | done | rfl
structure LentNe (B N:Nat) (es:List Nat) (gg gv gt go gm:Nat):Prop where
 lg:B≤gg∧gg<N
 lv:B≤gv∧gv<N
 lt:B≤gt∧gt<N
 lo:B≤go∧go<N
 lm:B≤gm∧gm<N
 le:∀e ∈ es,B≤e∧e<N
 eg:gg ∉ es
 ev:gv ∉ es
 et:gt ∉ es
 eo:go ∉ es
 em:gm ∉ es
 vg:gv≠gg
 tg:gt≠gg
 og:go≠gg
 mg:gm≠gg
 tv:gt≠gv
 ov:go≠gv
 mv:gm≠gv
 ot:go≠gt
 mt:gm≠gt
 mo:gm≠go
theorem Za4 {w:World} {B B':Nat} {t t':TypeId} {sz sz' n n' a a' c c' g g':Nat} {xs xs':List Value} (h:w.ownsRow B t sz (.slice (some ⟨g,0,none⟩) a c) n xs) (h':w.ownsRow B' t' sz' (.slice (some ⟨g',0,none⟩) a' c') n' xs') (ht:t≠t'):g≠g' :=
 fun e=>ZbC h h' ht g rfl (by rw [e];rfl)
theorem LentQ.apart {w:World} {B gg gv gt go gm cg cv ct co cm:Nat} {es:List Nat} {us:List Value} {P:Pl} (h:LentQ w B gg gv gt go gm cg cv ct co cm es us P):LentNe B w.heap.size es gg gv gt go gm:=by
 have hes:∀e ∈ es,∃n c xs,LentR w B 49 6 e n c xs:=fun e he=>by
  obtain ⟨j,hj⟩:=List.getElem?_of_mem he;have hjl:=(gs_ hj).1;obtain ⟨l,hl⟩:∃l,P.on[j]? = some l:=⟨_,ge_ (by have:=h.l;omega)⟩;obtain ⟨e',c,h1,h2,h3⟩:=h.r j l hl;rw [hj] at h1;injection h1 with h1;subst h1;exact ⟨_,_,_,h3⟩
 refine ⟨h.g.lt,h.v.lt,h.t.lt,h.o.lt go rfl,h.m.lt,fun e he=>?_,fun he=>?_,fun he=>?_,fun he=>?_,fun he=>?_,fun he=>h.nm _ he rfl,Za4 h.v.o h.g.o (by decide),Za4 h.t.o h.g.o (by decide),Za4 h.o h.g.o (by decide),Za4 h.m.o h.g.o (by decide),Za4 h.t.o h.v.o (by decide),Za4 h.o h.v.o (by decide),Za4 h.m.o h.v.o (by decide),Za4 h.o h.t.o (by decide),Za4 h.m.o h.t.o (by decide),Za4 h.m.o h.o (by decide)⟩
 · obtain ⟨_,_,_,h3⟩:=hes e he;exact h3.lt
 · obtain ⟨_,_,_,h3⟩:=hes _ he;exact Za4 h3.o h.g.o (by decide) rfl
 · obtain ⟨_,_,_,h3⟩:=hes _ he;exact Za4 h3.o h.v.o (by decide) rfl
 · obtain ⟨_,_,_,h3⟩:=hes _ he;exact Za4 h3.o h.t.o (by decide) rfl
 · obtain ⟨_,_,_,h3⟩:=hes _ he;exact Za4 h3.o h.o (by decide) rfl
end Go.Proofs.Ytdpokdcendgfeaa
