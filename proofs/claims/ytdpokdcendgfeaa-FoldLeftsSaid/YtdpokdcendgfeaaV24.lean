/- Several texts in one: The walks of law 13's All and Far. Vars compared. The walk of law 13's Kept, where what was lent is as it was (under way). Conditions: those of each. -/
import Derived.Test.YtdpokdcendgfeaaV23
set_option linter.unusedSimpArgs false
set_option linter.unusedVariables false
set_option maxHeartbeats 80000000
set_option maxRecDepth 100000
namespace Go.Proofs.Ytdpokdcendgfeaa
open Go.RowKit
theorem Zjf (ls:List (List Ac)) (i:Nat):Zj (ls.take i)≤Zj ls:=by
 unfold Zj;rw [←List.take_append_drop i ls,List.map_append,List.sum_append]
 simp
def ZcQ (P:Pl):Nat:=P.ms.length+Zj P.on
theorem Zmu (w:World) (q:PlV) (P:Pl) (rs:List (Option Addr×Nat)) (h:PlMem w q P rs) (hbig:∀l ∈ P.on++[P.ms],l.length≤4398046511104) (hon:P.on.length≤8796093022208) :
 Calls Try.prog 32 #[q.val] w fun en w'=>∃s:Nat,en=.returned (.int .i64 (s:Int))∧(decide (262144<s)=decide (262144<ZcQ P))∧(s≤262144→s=ZcQ P)∧Below w.heap.size w w':=by
 have HM0:=Za h;have hrl:=h.e.1;simp only [List.length_append,List.length_cons,List.length_nil] at hrl;obtain ⟨e1,e2,e3,e4,e5,_,_,_,_,_,_⟩:=h;obtain ⟨ga,va,ta,oa,ma,gl,gc,vl,vc,tl,tc,ol,oc,ml,mc⟩:=q;simp only at e1 e2 e3 e4 e5;subst e1 e2 e3 e4 e5;simp only [PlV.val];have hms:=hbig P.ms (by simp);have HBIG:=Za (fun (l:List Ac) (hl:l ∈ P.on)=>hbig l (List.mem_append_left _ hl));obtain ⟨N,hN⟩:∃N,P.on.length=N:=⟨_,rfl⟩;obtain ⟨M,hM⟩:∃M,P.ms.length=M:=⟨_,rfl⟩;rw [hN] at hon hrl;rw [hM] at hms;have HN:=Za hN;have HMS:=Za hM;have HRL:=Za (show rs.length=N by omega);have HW1:=Za (show Below w.heap.size w (w.alloc (.cells #[.slice ga P.gh.length gc,.slice va P.vs.length vc,.slice ta P.ts.length tc,.slice oa N oc,.slice ma M mc] 28)) from (Below.refl _ w).alloc lr_ _);have HP1:=Za (Blk.new w 28 #[.slice ga P.gh.length gc,.slice va P.vs.length vc,.slice ta P.ts.length tc,.slice oa N oc,.slice ma M mc]);rw [hN,hM];clear hrl hN hM hbig;go_enter Try.func32,Try.ntmps32;go_upto_region 1 with fail;generalize w.alloc (.cells #[.slice ga P.gh.length gc,.slice va P.vs.length vc,.slice ta P.ts.length tc,.slice oa N oc,.slice ma M mc] 28)=W1 at HW1 HP1;obtain ⟨p0,p1,p2,p3,p4,_⟩:=Zab HP1.out;go_wp2_with fail;go_loopw [3,4] (fun t3 t4 Wi=>∃i:Nat,t3=.int .i64 (((M+Zj (P.on.take i):Nat)):Int)∧t4=.int .i64 (i:Int)∧i≤N∧M+Zj (P.on.take i)≤17592186044416∧Below W1.heap.size W1 Wi) (fun _ t4 _=>N - (intOf t4).toNat)
 case atStart=>exact ⟨0,by simp [Zj],rfl,Nat.zero_le _,by simp [Zj];omega,Below.refl _ _⟩
 case round =>
  obtain ⟨i,rfl,rfl,hi,hs,hb⟩:=hrel;rename World=>Wi
  have HB:=Za hb;have hq2:=IntWalk.i64_in ((i:Int)+1) (by omega);have hpi:=HP1.out.below hb HP1.out.lt;obtain ⟨p0,p1,p2,p3,p4,_⟩:=Zab hpi;obtain ⟨s,hse⟩:∃s,M+Zj (P.on.take i)=s:=⟨_,rfl⟩;have HSE:=Za hse;rw [hse] at hs ⊢;clear hb hpi hse
  by_cases hlt:i<N
  · have hltI:(i:Int)<(N:Int):=by omega
    obtain ⟨l,hl⟩:∃l,P.on[i]? = some l:=⟨_,ge_ (by rw [HN.out];exact hlt)⟩;obtain ⟨⟨ra,rc⟩,hr⟩:∃r,rs[i]? = some r:=⟨_,ge_ (by rw [HRL.out];exact hlt)⟩;obtain ⟨ad,e,hab,q0⟩:=ZbK ((HM0.out.below (HW1.out.trans (HB.out.mono HW1.out.size))).o) (i:=i) (v:=.slice ra l.length rc) (by rw [HN.out];omega) (Zbp _ _ i _ _ hr hl);simp only at e;subst e;have hll:=HBIG.out l (List.mem_of_getElem? hl);have HSS:=Za (ZbE hl)
    by_cases h7:s≤262144
    · have h7I:(s:Int)≤262144:=by omega
      have u2:=IntWalk.i64_in ((s:Int)+(l.length:Int)) (by omega);clear hl hr hab;go_wp2_with fail;go_roundw
      case rel=>exact ⟨i+1,by have h8:=HSS.out;have h9:=HSE.out;go_num,by go_num,by omega,by have h8:=HSS.out;have h9:=HSE.out;omega,HB.out⟩
      case measure =>
       simp only [intOf];omega
    · have h7I:¬(s:Int)≤262144:=by omega
      have h7J:(262144:Int)<(s:Int):=by omega
      have HF:=Za (show 262144<ZcQ P from by
       have h8:=HSE.out;have h9:=Zjf P.on i;have h10:=HN.out;have h11:=HMS.out;unfold ZcQ
       omega)
      have HG7:=Za h7;clear hl hr hab;go_wp2_with fail;go_ret;exact ⟨s,rfl,⟨fun _=>HF.out,fun _=>by have:=HG7.out;omega⟩,fun h=>absurd h HG7.out,HW1.out.trans (HB.out.mono HW1.out.size)⟩
  · have hie:i=N:=by omega
    have hltI:¬(i:Int)<(N:Int):=by omega
    have HF:=Za (show s=ZcQ P from by
     have h8:=HSE.out;rw [hie,List.take_of_length_le (by rw [HN.out];exact lr_)] at h8;have h10:=HN.out;have h11:=HMS.out;unfold ZcQ
     omega)
    clear hie hlt;go_wp2_with fail;go_ret;exact ⟨s,rfl,by rw [HF.out],fun _=>HF.out,HW1.out.trans (HB.out.mono HW1.out.size)⟩
def Zdh (P:Pl):Bool:=decide (100<P.on.length)||(decide (100<P.gh.length)||(decide (100<P.vs.length)||(decide (100<P.ts.length)||decide (262144<ZcQ P))))
theorem Zns (w:World) (q:PlV) (P:Pl) (rs:List (Option Addr×Nat)) (h:PlMem w q P rs) (hbig:∀l ∈ P.on++[P.ms],l.length≤4398046511104) (hon:P.on.length≤8796093022208) :
 Calls Try.prog 26 #[q.val] w fun en w'=>en=.returned (.bool (Zdh P))∧Below w.heap.size w w':=by
 have HW1:=Za (show Below w.heap.size w (w.alloc (.cells #[.slice q.ga q.gl q.gc,.slice q.va q.vl q.vc,.slice q.ta q.tl q.tc,.slice q.oa q.ol q.oc,.slice q.ma q.ml q.mc] 28)) from (Below.refl _ w).alloc lr_ _);have HP1:=Za (Blk.new w 28 #[.slice q.ga q.gl q.gc,.slice q.va q.vl q.vc,.slice q.ta q.tl q.tc,.slice q.oa q.ol q.oc,.slice q.ma q.ml q.mc]);have HA:=Za (Zmu (w.alloc (.cells #[.slice q.ga q.gl q.gc,.slice q.va q.vl q.vc,.slice q.ta q.tl q.tc,.slice q.oa q.ol q.oc,.slice q.ma q.ml q.mc] 28)) q P rs (h.below HW1.out) hbig hon);have HL:=Za (And.intro h.gl (And.intro h.vl (And.intro h.tl h.ol)));simp only [PlV.val] at HA ⊢;obtain ⟨r,hr⟩:∃r,Zdh P=r:=⟨_,rfl⟩;have HR:=Za hr;rw [hr];clear h hbig hon hr;go_enter Try.func26,Try.ntmps26;go_upto_region 1 with fail;generalize w.alloc (.cells #[.slice q.ga q.gl q.gc,.slice q.va q.vl q.vc,.slice q.ta q.tl q.tc,.slice q.oa q.ol q.oc,.slice q.ma q.ml q.mc] 28)=W1 at HW1 HP1 HA ⊢;obtain ⟨p0,p1,p2,p3,p4,_⟩:=Zab HP1.out
 by_cases c3:100<q.ol
 · have c3I:(100:Int)<(q.ol:Int):=by omega
   have HF:=Za (show r=true from by rw [←HR.out];unfold Zdh;have:=HL.out;simp;omega);clear c3;go_wp2_with fail;go_ret;exact ⟨by rw [HF.out];first | done | rfl,HW1.out⟩
 · have c3I:¬(100:Int)<(q.ol:Int):=by omega
   have H3:=Za c3;clear c3
   by_cases c0:100<q.gl
   · have c0I:(100:Int)<(q.gl:Int):=by omega
     have HF:=Za (show r=true from by rw [←HR.out];unfold Zdh;have:=HL.out;simp;omega);clear c0;go_wp2_with fail;go_ret;exact ⟨by rw [HF.out];first | done | rfl,HW1.out⟩
   · have c0I:¬(100:Int)<(q.gl:Int):=by omega
     have H0:=Za c0;clear c0
     by_cases c1:100<q.vl
     · have c1I:(100:Int)<(q.vl:Int):=by omega
       have HF:=Za (show r=true from by rw [←HR.out];unfold Zdh;have:=HL.out;simp;omega);clear c1;go_wp2_with fail;go_ret;exact ⟨by rw [HF.out];first | done | rfl,HW1.out⟩
     · have c1I:¬(100:Int)<(q.vl:Int):=by omega
       have H1:=Za c1;clear c1
       by_cases c2:100<q.tl
       · have c2I:(100:Int)<(q.tl:Int):=by omega
         have HF:=Za (show r=true from by rw [←HR.out];unfold Zdh;have:=HL.out;simp;omega);clear c2;go_wp2_with fail;go_ret;exact ⟨by rw [HF.out];first | done | rfl,HW1.out⟩
       · have c2I:¬(100:Int)<(q.tl:Int):=by omega
         have H2:=Za c2;clear c2;go_upto_region 2 with (go_at_call 32;(with_reducible refine HA.out.mono ?_);rintro en w3 ⟨s,rfl,hs1,hs2,hb3⟩;have HB3:=Za hb3;have HS1:=Za hs1;clear hb3 hs1 hs2);go_wp2_with fail;go_ret;have h3:=H3.out;have h0:=H0.out;have h1:=H1.out;have h2:=H2.out;obtain ⟨l0,l1,l2,l3⟩:=HL.out;refine ⟨?_,HW1.out.trans (HB3.out.mono HW1.out.size)⟩
         have e:Zdh P=decide (262144<ZcQ P):=by
          unfold Zdh;rw [decide_eq_false (show ¬ 100<P.on.length by omega),decide_eq_false (show ¬ 100<P.gh.length by omega),decide_eq_false (show ¬ 100<P.vs.length by omega),decide_eq_false (show ¬ 100<P.ts.length by omega)];rfl
         have e2:decide ((262144:Int)<(s:Int))=decide (262144<s):=by
          by_cases h9:262144<s
          · rw [decide_eq_true h9,decide_eq_true (by omega)]
          · rw [decide_eq_false h9,decide_eq_false (by omega)]
         rw [←HR.out,e,←HS1.out,←e2]
         first | done | rfl
theorem fV : (Try.prog.fieldsOf 51).toList.map (fun f => (f.name == "_", f.type, f.offset)) = [(false, 3, 0), (false, 3, 1), (false, 3, 2)] := by kernel_rfl
theorem uV:Try.prog.underlying 51=some (.struct (Try.prog.fieldsOf 51)):=by kernel_rfl
theorem sV:Try.prog.stoodInHeld 51=false:=by kernel_rfl
theorem ZnD:Try.prog.eqGuardType Try.prog.depth 51=false:=by kernel_rfl
theorem Zi2 (w:World) (x0 x1 x2:Int):(binOp .eql 51 (.agg #[.int .i64 x0,.int .i64 x1,.int .i64 x2]) (.agg #[.int .i64 x0,.int .i64 x1,.int .i64 x2])).run Try.prog w=.ok (.bool true) w:=by
 have h1:=run_equalIn_agg (P:=Try.prog) w 9999 51 #[.int .i64 x0,.int .i64 x1,.int .i64 x2] #[.int .i64 x0,.int .i64 x1,.int .i64 x2] uV sV;have h2:=Zco (P:=Try.prog) (w:=w) (d:=9998) (t:=3) (k:=.i64) Try.underlying3 #[.int .i64 x0,.int .i64 x1,.int .i64 x2] #[.int .i64 x0,.int .i64 x1,.int .i64 x2] (Try.prog.fieldsOf 51).toList [(x0,0),(x1,1),(x2,2)] [(x0,0),(x1,1),(x2,2)] fV rfl (by simp) (by simp);rw [run_eql_struct,h1,h2]
 simp
structure LentNe (B N:Nat) (es:List Nat) (gg gv gt go gm:Nat):Prop where
 lg:B≤gg∧gg<N
 lv:B≤gv∧gv<N
 lt:B≤gt∧gt<N
 lo:B≤go∧go<N
 lm:B≤gm∧gm<N
 le:∀e ∈ es,B≤e∧e<N
 eg:gg ∉ es
 ev:gv ∉ es
 et:gt ∉ es
 eo:go ∉ es
 em:gm ∉ es
 vg:gv≠gg
 tg:gt≠gg
 og:go≠gg
 mg:gm≠gg
 tv:gt≠gv
 ov:go≠gv
 mv:gm≠gv
 ot:go≠gt
 mt:gm≠gt
 mo:gm≠go
theorem Za1 {w:World} {B B':Nat} {t t':TypeId} {sz sz' n n' a a' c c' g g':Nat} {xs xs':List Value} (h:w.ownsRow B t sz (.slice (some ⟨g,0,none⟩) a c) n xs) (h':w.ownsRow B' t' sz' (.slice (some ⟨g',0,none⟩) a' c') n' xs') (ht:t≠t'):g≠g' :=
 fun e=>ZcR h h' ht g rfl (by rw [e];rfl)
theorem LentQ.apart {w:World} {B gg gv gt go gm cg cv ct co cm:Nat} {es:List Nat} {us:List Value} {P:Pl} (h:LentQ w B gg gv gt go gm cg cv ct co cm es us P):LentNe B w.heap.size es gg gv gt go gm:=by
 have hes:∀e ∈ es,∃n c xs,LentR w B 49 6 e n c xs:=fun e he=>by
  obtain ⟨j,hj⟩:=List.getElem?_of_mem he;have hjl:=(gs_ hj).1;obtain ⟨l,hl⟩:∃l,P.on[j]? = some l:=⟨_,ge_ (by have:=h.l;omega)⟩;obtain ⟨e',c,h1,h2,h3⟩:=h.r j l hl;rw [hj] at h1;injection h1 with h1;subst h1;exact ⟨_,_,_,h3⟩
 refine ⟨h.g.lt,h.v.lt,h.t.lt,h.o.lt go rfl,h.m.lt,fun e he=>?_,fun he=>?_,fun he=>?_,fun he=>?_,fun he=>?_,fun he=>h.nm _ he rfl,Za1 h.v.o h.g.o (by decide),Za1 h.t.o h.g.o (by decide),Za1 h.o h.g.o (by decide),Za1 h.m.o h.g.o (by decide),Za1 h.t.o h.v.o (by decide),Za1 h.o h.v.o (by decide),Za1 h.m.o h.v.o (by decide),Za1 h.o h.t.o (by decide),Za1 h.m.o h.t.o (by decide),Za1 h.m.o h.o (by decide)⟩
 · obtain ⟨_,_,_,h3⟩:=hes e he;exact h3.lt
 · obtain ⟨_,_,_,h3⟩:=hes _ he;exact Za1 h3.o h.g.o (by decide) rfl
 · obtain ⟨_,_,_,h3⟩:=hes _ he;exact Za1 h3.o h.v.o (by decide) rfl
 · obtain ⟨_,_,_,h3⟩:=hes _ he;exact Za1 h3.o h.t.o (by decide) rfl
 · obtain ⟨_,_,_,h3⟩:=hes _ he;exact Za1 h3.o h.o (by decide) rfl
theorem Zka (l:List Bool) (i:Nat) (b:Bool):(ZY l).set i (.bool b)=ZY (l.set i b):=by
 unfold ZY;rw [List.map_set]
theorem ZmJ {w:World} {q:PlV} {P:Pl} {rs:List (Option Addr×Nat)} (h:PlMem w q P rs):Src w q.ma P.ms.length (acs P.ms):=by
 have hrl:=h.e.1;simp only [List.length_append,List.length_cons,List.length_nil] at hrl;exact (h.e.2 P.on.length q.ma q.mc P.ms (by rw [List.getElem?_append_right (by omega),show P.on.length - rs.length=0 by omega];rfl) (by rw [List.getElem?_append_right lr_,Nat.sub_self];rfl)).1
theorem ZmX (w0 w:World) (q:PlV) (P:Pl) (rs:List (Option Addr×Nat)) (gg gv gt go gm cg cv ct co cm:Nat) (es:List Nat) (us:List Value) (h:PlMem w0 q P rs) (hb:Below w0.heap.size w0 w) (hL:LentQ w w0.heap.size gg gv gt go gm cg cv ct co cm es us P) (hsz:P.gh.length≤100∧P.vs.length≤100∧P.ts.length≤100∧P.on.length≤100) (hrow:∀l ∈ P.on++[P.ms],l.length≤262144) :
 Calls Try.prog 29 #[.agg #[.slice (some ⟨gg,0,none⟩) P.gh.length cg,.slice (some ⟨gv,0,none⟩) P.vs.length cv,.slice (some ⟨gt,0,none⟩) P.ts.length ct,.slice (some ⟨go,0,none⟩) P.on.length co,.slice (some ⟨gm,0,none⟩) P.ms.length cm],q.val] w fun en w'=>en=.returned (.bool true)∧Below w0.heap.size w0 w':=by
 have HM:=Za h;have HROW:=Za hrow;have HL:=Za hL;have HNE0:=Za hL.apart;have HB0:=Za hb;obtain ⟨e1,e2,e3,e4,e5,_,_,_,_,_,_⟩:=h;obtain ⟨ga,va,ta,oa,ma,gl,gc,vl,vc,tl,tc,ol,oc,ml,mc⟩:=q;simp only at e1 e2 e3 e4 e5;subst e1 e2 e3 e4 e5;simp only [PlV.val];obtain ⟨ng,hng⟩:∃n,P.gh.length=n:=⟨_,rfl⟩;obtain ⟨nv,hnv⟩:∃n,P.vs.length=n:=⟨_,rfl⟩;obtain ⟨nt,hnt⟩:∃n,P.ts.length=n:=⟨_,rfl⟩;obtain ⟨no,hno⟩:∃n,P.on.length=n:=⟨_,rfl⟩;obtain ⟨nm,hnm⟩:∃n,P.ms.length=n:=⟨_,rfl⟩;have hcg:=hL.g.c;have hcv:=hL.v.c;have hgx:=hL.g.lt;have hvx:=hL.v.lt;have HMG:=Za (Zbh hL.g.o ng (.bool true) (by rw [List.getElem?_append_right (by simp [ZY,hng]),ZfH,hng];simp));have HMV:=Za (Zbh hL.v.o (nv*3) (.int .i64 (-77)) (by rw [List.getElem?_append_right (by rw [Ze5,hnv];exact lr_),Ze5,hnv];simp));rw [hng,hnv,hnt,hno] at hsz;rw [hng] at hcg;rw [hnv] at hcv;rw [hng,hnv,hnt,hno,hnm];have HNG:=Za hng;have HNV:=Za hnv;have HNT:=Za hnt;have HNO:=Za hno;have HNM:=Za hnm;obtain ⟨hs1,hs2,hs3,hs4⟩:=hsz;have i1:=IntWalk.i64_in ((ng:Int)+1) (by omega);have i2:=IntWalk.i64_in ((nv:Int)+1) (by omega);have b1:(0:Int)≤(ng:Int)+1:=by omega
 have b2:(ng:Int)+1≤(cg:Int):=by omega
 have b3:(0:Int)≤(nv:Int)+1:=by omega
 have b4:(nv:Int)+1≤(cv:Int):=by omega
 have b5:(ng:Int)<(ng:Int)+1:=by omega
 have b6:(nv:Int)<(nv:Int)+1:=by omega
 have b7:(0:Int)≤(ng:Int):=by omega
 have b8:(0:Int)≤(nv:Int):=by omega
 have HB1:=Za ((Below.refl w.heap.size w).alloc lr_ (.cells #[.slice (some ⟨gg,0,none⟩) ng cg,.slice (some ⟨gv,0,none⟩) nv cv,.slice (some ⟨gt,0,none⟩) nt ct,.slice (some ⟨go,0,none⟩) no co,.slice (some ⟨gm,0,none⟩) nm cm] 28));have HP1:=Za (Blk.new w 28 #[.slice (some ⟨gg,0,none⟩) ng cg,.slice (some ⟨gv,0,none⟩) nv cv,.slice (some ⟨gt,0,none⟩) nt ct,.slice (some ⟨go,0,none⟩) no co,.slice (some ⟨gm,0,none⟩) nm cm]);have heq:=Zi2;have hgd:=ZnD;clear hng hnv hnt hno hnm hrow hL hb;go_enter Try.func29,Try.ntmps29;go_upto_region 1 with fail;have hsz1:(w.alloc (.cells #[.slice (some ⟨gg,0,none⟩) ng cg,.slice (some ⟨gv,0,none⟩) nv cv,.slice (some ⟨gt,0,none⟩) nt ct,.slice (some ⟨go,0,none⟩) no co,.slice (some ⟨gm,0,none⟩) nm cm] 28)).heap.size=w.heap.size+1:=Array.size_push _;have HB2:=Za (HB1.out.alloc HB1.out.size (.cells #[.slice ga ng gc,.slice va nv vc,.slice ta nt tc,.slice oa no oc,.slice ma nm mc] 28));have HP2:=Za (HP1.out.alloc (.cells #[.slice ga ng gc,.slice va nv vc,.slice ta nt tc,.slice oa no oc,.slice ma nm mc] 28));have HQ2:=Za (Blk.new (w.alloc (.cells #[.slice (some ⟨gg,0,none⟩) ng cg,.slice (some ⟨gv,0,none⟩) nv cv,.slice (some ⟨gt,0,none⟩) nt ct,.slice (some ⟨go,0,none⟩) no co,.slice (some ⟨gm,0,none⟩) nm cm] 28)) 28 #[.slice ga ng gc,.slice va nv vc,.slice ta nt tc,.slice oa no oc,.slice ma nm mc]);rw [hsz1] at HQ2;generalize (w.alloc (.cells #[.slice (some ⟨gg,0,none⟩) ng cg,.slice (some ⟨gv,0,none⟩) nv cv,.slice (some ⟨gt,0,none⟩) nt ct,.slice (some ⟨go,0,none⟩) no co,.slice (some ⟨gm,0,none⟩) nm cm] 28)).alloc (.cells #[.slice ga ng gc,.slice va nv vc,.slice ta nt tc,.slice oa no oc,.slice ma nm mc] 28)=W2 at HB2 HP2 HQ2 ⊢;obtain ⟨g2,hg2⟩:∃g,w.heap.size=g:=⟨_,rfl⟩;rw [hg2] at HP2 HQ2
 try simp only [hg2]
 have HG2:=Za hg2;have HNE:=Za (show LentNe w0.heap.size g2 es gg gv gt go gm from by have h:=HNE0.out;rw [hg2] at h;exact h);clear hg2 hsz1;obtain ⟨x0,x1,x2,x3,x4,hx⟩:=Zab HP2.out;obtain ⟨y0,y1,y2,y3,y4,hy⟩:=Zab HQ2.out;have cg1:=(HB2.out.cell (p:=⟨gg,ng,none⟩) hgx.2).trans HMG.out;have cv1:=(HB2.out.cell (p:=⟨gv,nv*3,none⟩) hvx.2).trans HMV.out;have hX:=hx;have hY:=hy;go_upto_region 2 with fail;go_quiet (fail);have HPM:=Za (fun (W:World) (hb:Below W2.heap.size W2 W)=>HM.out.below ((HB0.out.trans (HB2.out.mono HB0.out.size)).trans (hb.mono (HB0.out.trans (HB2.out.mono HB0.out.size)).size)));have HW0:=Za (show Below w0.heap.size w0 W2 from HB0.out.trans (HB2.out.mono HB0.out.size));have HXA:=Za (fun (X:World) (ho:Only (fun k=>w0.heap.size≤k∧k<g2) W2 X)=>(⟨HP2.out.only ho (fun h=>by omega),HQ2.out.only ho (fun h=>by omega),HM.out.below (HW0.out.trans (ho.below (fun k hk=>hk.1) HW0.out.size)),HW0.out.trans (ho.below (fun k hk=>hk.1) HW0.out.size)⟩:Blk X g2 28 #[.slice (some ⟨gg,0,none⟩) ng cg,.slice (some ⟨gv,0,none⟩) nv cv,.slice (some ⟨gt,0,none⟩) nt ct,.slice (some ⟨go,0,none⟩) no co,.slice (some ⟨gm,0,none⟩) nm cm]∧Blk X (g2+1) 28 #[.slice ga ng gc,.slice va nv vc,.slice ta nt tc,.slice oa no oc,.slice ma nm mc]∧PlMem X ⟨ga,va,ta,oa,ma,P.gh.length,gc,P.vs.length,vc,P.ts.length,tc,P.on.length,oc,P.ms.length,mc⟩ P rs∧Below w0.heap.size w0 X));clear cg1 cv1 x0 x1 x2 x3 x4 y0 y1 y2 y3 y4;go_wp2_with fail;go_loopw [5,6] (fun t5 t6 W=>∃i:Nat,t5=.bool true∧t6=.int .i64 (i:Int)∧i≤ng∧Below W2.heap.size W2 W) (fun _ t6 _=>ng - (intOf t6).toNat)
 case atStart=>exact ⟨0,rfl,rfl,Nat.zero_le _,Zc br_ _⟩
 case round =>
  obtain ⟨i,rfl,rfl,hi,hw⟩:=hrel;rename World=>W
  have HW:=Za hw;have u1:=IntWalk.i64_in ((i:Int)+1) (by omega);have hi0:(0:Int)≤(i:Int):=by omega
  obtain ⟨x0,x1,-,-,-,-⟩:=Zab (HP2.out.below hw hx);obtain ⟨y0,y1,-,-,-,-⟩:=Zab (HQ2.out.below hw hy)
  by_cases hlt:i<ng
  · have hltI:(i:Int)<(ng:Int):=by omega
    obtain ⟨b,hbb⟩:∃b,P.gh[i]? = some b:=⟨_,ge_ (by rw [HNG.out];exact hlt)⟩;have hcl:(ZY P.gh)[i]? = some (.bool b):=by simp [ZY,hbb]
    have c1:=Zbh (Zq (HL.out.g).o (HB2.out.trans (hw.mono HB2.out.size)) lr_) i (.bool b) (by rw [List.getElem?_append_left (gs_ hcl).1];exact hcl);obtain ⟨ad,e,hab,c2⟩:=ZbK (HPM.out W hw).g (i:=i) (v:=.bool b) (by rw [HNG.out];omega) hcl;simp only at e;subst e;clear hw hbb hcl hab;go_wp2_with fail;go_quiet (fail);go_wp2_with fail;go_roundw
    case rel=>exact ⟨i+1,by cases b <;> rfl,by go_num,by omega,Zc HW.out _⟩
    case measure=>simp [intOf];omega
  · have hltI:¬(i:Int)<(ng:Int):=by omega
    clear hw hlt hi;go_wp2_with fail;have HV1:=Za (HW.out);go_loopw [5,7] (fun t5 t7 X=>∃i:Nat,t5=.bool true∧t7=.int .i64 (i:Int)∧i≤nv∧Below W2.heap.size W2 X) (fun _ t7 _=>nv - (intOf t7).toNat)
    case atStart=>exact ⟨0,rfl,rfl,Nat.zero_le _,HW.out⟩
    case round =>
     obtain ⟨k,rfl,rfl,hk,hx⟩:=hrel;rename World=>X
     have HX:=Za hx;have u2:=IntWalk.i64_in ((k:Int)+1) (by omega);have hk0:(0:Int)≤(k:Int):=by omega
     obtain ⟨-,x1,-,-,-,-⟩:=Zab (HP2.out.below hx hX);obtain ⟨-,y1,-,-,-,-⟩:=Zab (HQ2.out.below hx hY)
     by_cases hkt:k<nv
     · have hktI:(k:Int)<(nv:Int):=by omega
       obtain ⟨v,hvv⟩:∃v,P.vs[k]? = some v:=⟨_,ge_ (by rw [HNV.out];exact hkt)⟩;obtain ⟨ad,e,hab,q0,q1,q2⟩:=ZfO (HPM.out X hx).v hvv
       try simp only at e
       subst e;have hcell:∀j u,j<3→v.cells[j]? = some u→X.cell? ⟨gv,k*3+j,none⟩=some u:=fun j u hj hu=>Zbh (Zq (HL.out.v).o (HB2.out.trans (hx.mono HB2.out.size)) lr_) (k*3+j) u (by rw [List.getElem?_append_left (gs_ ((Zem _ k j v hvv hj).trans hu)).1];exact (Zem _ k j v hvv hj).trans hu)
       have p0:=hcell 0 _ (by omega) rfl;have p1:=hcell 1 _ (by omega) rfl;have p2:=hcell 2 _ (by omega) rfl;rw [Nat.add_zero] at p0;clear hx hcell hvv hab;go_wp2_with fail;go_quiet (fail);go_wp2_with fail;go_roundw
       case rel=>exact ⟨k+1,rfl,by go_num,by omega,Zc HX.out _⟩
       case measure=>simp [intOf];omega
     · have hktI:¬(k:Int)<(nv:Int):=by omega
       clear hx hkt hk;go_wp2_with fail;go_loopw [5,8] (fun t5 t8 Y=>∃i:Nat,t5=.bool true∧t8=.int .i64 (i:Int)∧i≤no∧Only (fun k=>∃j,j<i∧es[j]? = some k) W2 Y) (fun _ t8 _=>no - (intOf t8).toNat)
       case atStart=>exact ⟨0,rfl,rfl,Nat.zero_le _,Only.of_new HX.out⟩
       case round =>
        obtain ⟨i,rfl,rfl,hi,ho⟩:=hrel;rename World=>Y
        have HO:=Za ho;obtain ⟨bp,bq,hpm,-⟩:=HXA.out Y (ho.mono (fun k hk=>by obtain ⟨j,_,hj⟩:=hk;exact .inl (HNE.out.le k (List.mem_of_getElem? hj))));have u3:=IntWalk.i64_in ((i:Int)+1) (by omega);have hi0:(0:Int)≤(i:Int):=by omega
        obtain ⟨-,-,-,x3,-,-⟩:=Zab bp;obtain ⟨-,-,-,y3,-,-⟩:=Zab bq
        by_cases hin:i<no
        · have hinI:(i:Int)<(no:Int):=by omega
          obtain ⟨l,hl⟩:∃l,P.on[i]? = some l:=⟨_,ge_ (by rw [HNO.out];exact hin)⟩;obtain ⟨e,c,he,hu,hLR⟩:=HL.out.r i l hl;have hLY:=(hLR.below HB2.out).only ho (fun h=>by obtain ⟨j,hj,hj2⟩:=h;have:=HL.out.ne j i e hj2 he;omega);have hoY:=Zaj (Zq HL.out.o HB2.out lr_) ho (fun k hk h=>by obtain ⟨j,_,hj⟩:=h;injection hk with hk;rw [←hk] at hj;exact HNE.out.eo (List.mem_of_getElem? hj));have c1:=Zfd hoY i _ hu;obtain ⟨oae,ce,hs,ad,hoe,hab,c2⟩:=Zjl hpm hl;simp only at hoe;subst hoe;have HKA:=Za (Zh7 Y.drew w0.heap.size e l.length c l oae ce (hLY.below (Below.refl _ Y).drew) (hs.below (Below.refl _ Y).drew) rfl (HROW.out l (List.mem_append_left _ (List.mem_of_getElem? hl))));have HE:=Za he;clear hl he hu hLR hLY hoY hs hab hpm bp bq ho;go_upto_region 14 with fail;go_still_tail 10,(by kernel_rfl);change wpList _ _ _ _ _ Y.drew;go_wp2_with fail;go_at_call 53;with_reducible refine HKA.out.mono ?_
          rintro en Y6 ⟨rfl,ho6⟩;have HO6:=Za (show Only (fun k=>k=e) Y Y6 from (Only.refl _ Y).drew.trans ho6);clear ho6;go_wp2_with fail;go_roundw
          case rel=>exact ⟨i+1,rfl,by go_num,by omega,(HO.out.mono (fun k h=>by obtain ⟨j,hj,h⟩:=h;exact .inl ⟨j,by omega,h⟩)).trans2 HO6.out (fun k hk=>.inl ⟨i,Nat.lt_succ_self _,by rw [hk];exact HE.out⟩)⟩
          case measure=>simp [intOf];omega
        · have hinI:¬(i:Int)<(no:Int):=by omega
          clear hin hi hpm bp bq ho;go_wp2_with fail;have HY4:=Za (show Only (fun k=>k ∈ es∨k=gg) W2 Y from HO.out.mono (fun k h=>by obtain ⟨j,_,h⟩:=h;exact .inl (.inl (List.mem_of_getElem? h))));have hg4:=Zaj (Zq HL.out.g.o HB2.out lr_) HO.out (fun k hk h=>by obtain ⟨j,_,hj⟩:=h;injection hk with hk;rw [←hk] at hj;exact HNE.out.eg (List.mem_of_getElem? hj));rw [HNG.out,show ZY P.gh++[Value.bool true]=ZY (P.gh++[true]) by simp [ZY]] at hg4;have HG4:=Za hg4;clear hg4 x3 y3;go_loopw [9] (fun t9 Z=>∃i:Nat,t9=.int .i64 (i:Int)∧i≤ng∧Only (fun k=>k ∈ es∨k=gg) W2 Z∧∃l:List Bool,Z.ownsRow w0.heap.size 4 1 (.slice (some ⟨gg,0,none⟩) (ng+1) cg) (ng+1) (ZY l)) (fun t9 _=>ng - (intOf t9).toNat)
          case atStart=>exact ⟨0,rfl,Nat.zero_le _,HY4.out,_,HG4.out⟩
          case round =>
           obtain ⟨i,rfl,hi,ho,l,hg⟩:=hrel;rename World=>Z
           have HO4:=Za ho;have HGZ:=Za hg;obtain ⟨bp,-,-,-⟩:=HXA.out Z (ho.mono (fun k hk=>.inl (by rcases hk with hk | rfl;exact HNE.out.le k hk;exact HNE.out.lg)));have u4:=IntWalk.i64_in ((i:Int)+1) (by omega);have hi0:(0:Int)≤(i:Int):=by omega
           obtain ⟨x0,-,-,-,-,-⟩:=Zab bp
           by_cases hin:i<ng
           · have hinI:(i:Int)<(ng:Int):=by omega
             have hgl:=hg.1;obtain ⟨b,hbb⟩:∃b,l[i]? = some b:=⟨_,ge_ (by simp [ZY] at hgl;omega)⟩;have c0:=Zbh hg i (.bool b) (by simp [ZY,hbb]);have f0:=hg.frozenAt i;clear hg hgl hbb ho bp;go_upto_region 18 with fail;go_still_tail 10,(by kernel_rfl);change wpList _ _ _ _ _ Z.drew;go_wp2_with fail;go_roundw
             case rel=>exact ⟨i+1,by go_num,by omega,ZN HO4.out.drew (.inr rfl),l.set i (!b),by
              have h9:=(World.ownsRow.stored (Zq HGZ.out (Below.refl _ Z).drew lr_) i (.bool (!b))).1;rw [Zka] at h9
              exact h9⟩
             case measure=>simp [intOf];omega
           · have hinI:¬(i:Int)<(ng:Int):=by omega
             clear hin hi ho hg bp;go_wp2_with fail;have HZ5:=Za (show Only (fun k=>(k ∈ es∨k=gg)∨k=gv) W2 Z from HO4.out.mono (fun k h=>.inl (.inl h)));have hv5:=Zaj (Zq HL.out.v.o HB2.out lr_) HO4.out (fun k hk h=>by injection hk with hk;rw [←hk] at h;rcases h with h | h;exact HNE.out.ev h;exact HNE.out.vg h);rw [HNV.out] at hv5;have HV5:=Za hv5;clear hv5 x0;go_loopw [10] (fun t10 Z=>∃i:Nat,t10=.int .i64 (i:Int)∧i≤nv∧Only (fun k=>(k ∈ es∨k=gg)∨k=gv) W2 Z∧∃xs,Z.ownsRow w0.heap.size 51 3 (.slice (some ⟨gv,0,none⟩) (nv+1) cv) (nv+1) xs) (fun t10 _=>nv - (intOf t10).toNat)
             case atStart=>exact ⟨0,rfl,Nat.zero_le _,HZ5.out,_,HV5.out⟩
             case round =>
              obtain ⟨i,rfl,hi,ho,xs,hg⟩:=hrel;rename World=>V
              have HO5:=Za ho;have HVZ:=Za hg;have hsa:Only (fun k=>w0.heap.size≤k∧k<g2) W2 V:=ho.mono (fun k hk=>.inl (by rcases hk with (hk | rfl) | rfl;exact HNE.out.le k hk;exact HNE.out.lg;exact HNE.out.lv));have HSA:=Za hsa;obtain ⟨bp,bq,hpm,-⟩:=HXA.out V hsa;have u5:=IntWalk.i64_in ((i:Int)+1) (by omega);have hi0:(0:Int)≤(i:Int):=by omega
              by_cases hin:i<nv
              · have hinI:(i:Int)<(nv:Int):=by omega
                obtain ⟨-,x1,-,-,-,-⟩:=Zab bp;have hxl:=hg.1
                have hcell:∀j,j<3→∃v,V.cell? ⟨gv,i*3+j,none⟩=some v:=fun j hj=>by
                 obtain ⟨v,hv⟩:∃v,xs[i*3+j]? = some v:=⟨_,ge_ (by omega)⟩;exact ⟨v,Zbh hg _ v hv⟩
                obtain ⟨v0,p0⟩:=hcell 0 (by omega);obtain ⟨v1,p1⟩:=hcell 1 (by omega);obtain ⟨v2,p2⟩:=hcell 2 (by omega);rw [Nat.add_zero] at p0;have f0:=hg.frozenAt (i*3);have f1:=hg.frozenAt (i*3+1);have f2:=hg.frozenAt (i*3+2);clear ho hg hxl hcell hsa bp bq hpm;go_wp2_with fail;go_roundw
                case rel=>exact ⟨i+1,by go_num,by omega,ZN (ZN (ZN HO5.out (.inr rfl)) (.inr rfl)) (.inr rfl),_,(World.ownsRow.stored (World.ownsRow.stored (World.ownsRow.stored HVZ.out (i*3) _).1 (i*3+1) _).1 (i*3+2) _).1⟩
                case measure=>simp [intOf];omega
              · have hinI:¬(i:Int)<(nv:Int):=by omega
                obtain ⟨-,x1,-,-,x4,-⟩:=Zab bp;obtain ⟨-,-,-,-,y4,-⟩:=Zab bq;have hm5:=(HL.out.m.below HB2.out).only ho (fun h=>by rcases h with (h | h) | h;exact HNE.out.em h;exact HNE.out.mg h;exact HNE.out.mv h);have hsm:=ZmJ hpm;simp only [HNM.out] at hm5 hsm;have HKM:=Za (Zh7 V w0.heap.size gm nm cm P.ms ma mc hm5 hsm HNM.out (by have:=HROW.out P.ms (by simp);rw [HNM.out] at this;exact this));clear hin hi ho hg bp bq hpm hsa hm5 hsm;go_upto_region 23 with fail;clear x1;go_upto_region 24 with (go_at_call 53;with_reducible refine HKM.out.mono ?_;rintro en V6 ⟨rfl,ho6⟩;have HO6:=Za ho6;clear ho6);have HSA6:=Za (show Only (fun k=>w0.heap.size≤k∧k<g2) W2 V6 from HSA.out.trans2 HO6.out (fun k hk=>.inl (by rw [hk];exact HNE.out.lm)));obtain ⟨bp,bq,hpm,-⟩:=HXA.out V6 HSA6.out;have ht6:=((HL.out.t.below HB2.out).only HO5.out (fun h=>by rcases h with (h | h) | h;exact HNE.out.et h;exact HNE.out.tg h;exact HNE.out.tv h)).only HO6.out (fun h=>HNE.out.mt h.symm);have hst:=hpm.t;simp only [HNT.out] at ht6 hst;have HKI:=Za (Zme V6 w0.heap.size gt nt ct P.ts ta tc ht6 hst HNT.out (by omega));clear x4 y4;obtain ⟨-,-,x2,-,-,-⟩:=Zab bp;obtain ⟨-,-,y2,-,-,-⟩:=Zab bq;clear bp bq hpm ht6 hst;go_upto_region 25 with (go_at_call 54;with_reducible refine HKI.out.mono ?_;rintro en V7 ⟨rfl,ho7⟩;have HO7:=Za ho7;clear ho7);have HSA7:=Za (show Only (fun k=>w0.heap.size≤k∧k<g2) W2 V7 from HSA6.out.trans2 HO7.out (fun k hk=>.inl (by rw [hk];exact HNE.out.lt)));have ho7:=Zaj (Zaj (Zaj (Zq HL.out.o HB2.out lr_) HO5.out (fun k hk h=>by injection hk with hk;rw [←hk] at h;rcases h with (h | h) | h;exact HNE.out.eo h;exact HNE.out.og h;exact HNE.out.ov h)) HO6.out (fun k hk h=>by injection hk with hk;exact HNE.out.mo (h.symm.trans hk.symm))) HO7.out (fun k hk h=>by injection hk with hk;exact HNE.out.ot (hk.trans h));rw [HNO.out] at ho7;have HON7:=Za ho7;clear ho7 x2 y2;go_wp2_with fail;go_loopw [13] (fun t13 Z=>∃i:Nat,t13=.int .i64 (i:Int)∧i≤no∧Only (fun k=>w0.heap.size≤k∧k<g2) W2 Z∧∃xs,Z.ownsRow w0.heap.size 26 1 (.slice (some ⟨go,0,none⟩) no co) no xs) (fun t13 _=>no - (intOf t13).toNat)
                case atStart=>exact ⟨0,rfl,Nat.zero_le _,HSA7.out,_,HON7.out⟩
                case round =>
                 obtain ⟨i,rfl,hi,ho,xs,hg⟩:=hrel;rename World=>Z
                 have HOZ:=Za ho;have HGZ:=Za hg;obtain ⟨bp,-,-,hbl⟩:=HXA.out Z ho;have HBL:=Za hbl;have u6:=IntWalk.i64_in ((i:Int)+1) (by omega);have hi0:(0:Int)≤(i:Int):=by omega
                 obtain ⟨-,-,-,x3,-,-⟩:=Zab bp
                 by_cases hin:i<no
                 · have hinI:(i:Int)<(no:Int):=by omega
                   have hxl:=hg.1;obtain ⟨v,hv⟩:∃v,xs[i]? = some v:=⟨_,ge_ (by omega)⟩;have c0:=Zfd hg i v hv;have f0:=hg.frozenAt i;clear ho hg hxl hv bp hbl;go_wp2_with fail;go_roundw
                   case rel=>exact ⟨i+1,by go_num,by omega,ZN HOZ.out HNE.out.lo,_,(World.ownsRow.stored HGZ.out i _).1⟩
                   case measure=>simp [intOf];omega
                 · have hinI:¬(i:Int)<(no:Int):=by omega
                   clear ho hg bp hbl;go_wp2_with fail;go_ret;exact ⟨rfl,HBL.out⟩
end Go.Proofs.Ytdpokdcendgfeaa
