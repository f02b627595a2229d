/- Several texts in one: The walk of law 13's FoldLefts: it tells true of every plan. How a law's arguments read behind the call. A plan that was handed in, as lists. How long a plan's lists are that was handed in. Conditions: those of each. -/
import Derived.Test.YtdpokdcendgfeaaV29
import Derived.Test.YtdpokdcendgfeaaV37
import Derived.Test.YtdpokdcendgfeaaV35
import Derived.Test.YtdpokdcendgfeaaV1
import Derived.Test.YtdpokdcendgfeaaRows
import Derived.WalkKit
import Derived.ProofKit
import Derived.OpenShut
import Derived.JoinedCond
import Derived.Deep.Slices
import Derived.Deep.Fields
import Derived.ChangeSame
import Derived.Carry
import Derived.Test.YtdpokdcendgfeaaV2
import Derived.SizedLaws
set_option linter.unusedSimpArgs false
set_option linter.unusedVariables false
set_option maxHeartbeats 80000000
set_option maxRecDepth 100000
namespace Go.Proofs.Ytdpokdcendgfeaa
open Go.RowKit
theorem Zmn {P:Pl} (hc:checkV P=0):P.on.length≤16∧∀k,EvOk (evP P k):=by
 obtain ⟨h1,h2⟩:=Ze1 hc;refine ⟨h1,fun k=>?_⟩
 by_cases hk:k≤P.on.length
 · obtain ⟨h3,h4⟩:=h2 k hk;exact ⟨Zdi h3 h4,h4,ZlE h3 h4⟩
 · have e:evP P k=[]:=by
    unfold evP;rw [List.getElem?_eq_none (by simp;omega)];rfl
   rw [e];exact ⟨⟨by simp,fun x hx=>by cases hx⟩,by simp,fun i hi=>by simp at hi⟩
theorem ZiO {P:Pl} {k i:Nat} {n:Int} {l':List Ac} (h:Zde P=some (k,i,n,l')):0<n:=by
 unfold Zde at h;obtain ⟨k',_,h1⟩:=List.exists_of_findSome?_eq_some h;obtain ⟨r,h2,h3⟩:=Option.map_eq_some_iff.1 h1;unfold ZcT at h2;obtain ⟨i',_,h4⟩:=List.exists_of_findSome?_eq_some h2;obtain ⟨s,h5,h6⟩:=Option.map_eq_some_iff.1 h4;have h7:=Zes h5;subst h6;simp only [Prod.mk.injEq] at h3;omega
theorem ZhP (w:World) (q:PlV) (P:Pl) (rs:List (Option Addr×Nat)) (h:PlMem w q P rs) (hbig:∀l ∈ P.on++[P.ms],l.length≤4398046511104) (hon:P.on.length≤8796093022208) :
 Calls Try.prog 8 #[q.val] w fun en w'=>en=.returned (.bool true)∧Below w.heap.size w w':=by
 have HB1:=Za ((Below.refl w.heap.size w).alloc lr_ (.cells #[.slice q.ga q.gl q.gc,.slice q.va q.vl q.vc,.slice q.ta q.tl q.tc,.slice q.oa q.ol q.oc,.slice q.ma q.ml q.mc] 28));have HP1:=Za (Blk.new w 28 #[.slice q.ga q.gl q.gc,.slice q.va q.vl q.vc,.slice q.ta q.tl q.tc,.slice q.oa q.ol q.oc,.slice q.ma q.ml q.mc]);have HM1:=Za (h.below HB1.out);have HFAR:=Za (Zns (w.alloc (.cells #[.slice q.ga q.gl q.gc,.slice q.va q.vl q.vc,.slice q.ta q.tl q.tc,.slice q.oa q.ol q.oc,.slice q.ma q.ml q.mc] 28)) q P rs HM1.out hbig hon);have HHD:=Za (fun (W:World)=>Zmg W);simp only [PlV.val] at HFAR ⊢;obtain ⟨r,hr⟩:∃r,Zdh P=r:=⟨_,rfl⟩;rw [hr] at HFAR;have HR:=Za hr;clear h hbig hon hr;go_enter Try.func8,Try.ntmps8;go_upto_region 1 with fail;generalize w.alloc (.cells #[.slice q.ga q.gl q.gc,.slice q.va q.vl q.vc,.slice q.ta q.tl q.tc,.slice q.oa q.ol q.oc,.slice q.ma q.ml q.mc] 28)=W1 at HB1 HP1 HM1 HFAR ⊢;obtain ⟨p0,p1,p2,p3,p4,_⟩:=Zab HP1.out
 cases r with
 | true =>
  go_wp2_with (first
   | (go_at_call 26;(with_reducible refine HFAR.out.mono ?_);rintro en w3 ⟨rfl,hb3⟩;have HB3:=Za hb3;clear hb3)
   | (go_at_call 25;(with_reducible refine (HHD.out _).mono ?_);rintro en w4 ⟨rfl,hb4⟩;have HB4:=Za hb4;clear hb4))
  go_ret;exact ⟨rfl,HB1.out.trans ((HB3.out.trans (HB4.out.mono HB3.out.size)).mono HB1.out.size)⟩
 | false =>
  obtain ⟨hsz,hrow⟩:=ZjS HR.out;have HSZ:=Za hsz;have HROW:=Za hrow;clear hsz hrow;go_upto_region 3 with (go_at_call 26;(with_reducible refine HFAR.out.mono ?_);rintro en w3 ⟨rfl,hb3⟩;have HB3:=Za hb3;clear hb3);have HM3:=Za (HM1.out.below HB3.out);have HP3:=Za (HP1.out.below HB3.out HP1.out.lt);have HW3:=Za (HB1.out.trans (HB3.out.mono HB1.out.size));have HLE:=Za (Zl9 w3 q P rs HM3.out HSZ.out HROW.out);simp only [PlV.val] at HLE;clear p0 p1 p2 p3 p4;obtain ⟨p0,p1,p2,p3,p4,_⟩:=Zab HP3.out;go_upto_region 4 with (go_at_call 27;(with_reducible refine HLE.out.mono ?_);rintro en w4 ⟨gg,gv,gt,go,gm,cg,cv,ct,co,cm,es,us,rfl,hlq,hb4⟩;have HLQ:=Za hlq;have HB4:=Za hb4;clear hlq hb4);clear p0 p1 p2 p3 p4;have HB5:=Za ((Below.refl w4.heap.size w4).alloc lr_ (.cells #[.slice (some ⟨gg,0,none⟩) P.gh.length cg,.slice (some ⟨gv,0,none⟩) P.vs.length cv,.slice (some ⟨gt,0,none⟩) P.ts.length ct,.slice (some ⟨go,0,none⟩) P.on.length co,.slice (some ⟨gm,0,none⟩) P.ms.length cm] 28));have HP5:=Za (Blk.new w4 28 #[.slice (some ⟨gg,0,none⟩) P.gh.length cg,.slice (some ⟨gv,0,none⟩) P.vs.length cv,.slice (some ⟨gt,0,none⟩) P.ts.length ct,.slice (some ⟨go,0,none⟩) P.on.length co,.slice (some ⟨gm,0,none⟩) P.ms.length cm]);generalize w4.alloc (.cells #[.slice (some ⟨gg,0,none⟩) P.gh.length cg,.slice (some ⟨gv,0,none⟩) P.vs.length cv,.slice (some ⟨gt,0,none⟩) P.ts.length ct,.slice (some ⟨go,0,none⟩) P.on.length co,.slice (some ⟨gm,0,none⟩) P.ms.length cm] 28)=W5 at HB5 HP5 ⊢;have HLQ5:=Za (HLQ.out.below HB5.out);have HW5:=Za (HB4.out.trans (HB5.out.mono HB4.out.size));have HLEFT:=Za (Zh5 W5 _ P _ HLQ5.out.plan (fun l hl=>Nat.le_trans (HROW.out l hl) (by decide)) Zmn);simp only [PlV.val] at HLEFT;obtain ⟨⟨ra,rb,rc,rt⟩,hres⟩:∃x,Za2 P=x:=⟨_,rfl⟩;rw [hres] at HLEFT;simp only at HLEFT;have HRES:=Za hres;clear hres;obtain ⟨p0,p1,p2,p3,p4,_⟩:=Zab HP5.out;go_upto_region 5 with (go_at_call 28;(with_reducible refine HLEFT.out.mono ?_);rintro en w6 ⟨rfl,hb6⟩;have HB6:=Za hb6;clear hb6);have HLQ6:=Za (HLQ5.out.below HB6.out);have HW6:=Za (HW5.out.trans (HB6.out.mono HW5.out.size));have HKP:=Za (ZmX w3 w6 q P rs gg gv gt go gm cg cv ct co cm es us HM3.out HW6.out HLQ6.out HSZ.out HROW.out);simp only [PlV.val] at HKP;have HP6:=Za (HP5.out.below HB6.out HP5.out.lt);have HP6b:=Za (HP3.out.below HW6.out HP3.out.lt);clear p0 p1 p2 p3 p4;obtain ⟨p0,p1,p2,p3,p4,_⟩:=Zab HP6.out;obtain ⟨a0,a1,a2,a3,a4,_⟩:=Zab HP6b.out;go_upto_region 7 with (go_at_call 29;(with_reducible refine HKP.out.mono ?_);rintro en w7 ⟨rfl,hb7⟩;have HB7:=Za hb7;clear hb7);clear p0 p1 p2 p3 p4 a0 a1 a2 a3 a4;have HM7:=Za (HM3.out.below HB7.out);have HP7:=Za (HP3.out.below HB7.out HP3.out.lt);have HCK:=Za (Zlh w7 q P rs HM7.out (fun l hl=>Nat.le_trans (HROW.out l hl) (by decide)) (by have:=HSZ.out;omega));simp only [PlV.val] at HCK;have HW7:=Za (HW3.out.trans (HB7.out.mono HW3.out.size));obtain ⟨p0,p1,p2,p3,p4,_⟩:=Zab HP7.out
  by_cases hc:checkV P=0
  · rw [hc] at HCK;obtain ⟨h1,h2⟩:=Ze1 hc;have hpl:=ZjB h2;have HLP:Za2 P=Zet (Zb5 P):=by unfold Za2;rw [if_pos hc]
    have HLPH:=Za HLP;have HHP:=Za hpl;have HCP:=Za (And.intro h1 h2);clear hc h1 h2 hpl HLP;go_upto_region 9 with (go_at_call 30;(with_reducible refine HCK.out.mono ?_);rintro en w8 ⟨rfl,hb8⟩;have HB8:=Za hb8;clear hb8);have HM8:=Za (HM7.out.below HB8.out);have HP8:=Za (HP7.out.below HB8.out HP7.out.lt);have HW8:=Za (HW7.out.trans (HB8.out.mono HW7.out.size));have HRL:=Za (Zmb w8 q P rs HM8.out HCP.out.1 HCP.out.2);simp only [PlV.val] at HRL;clear p0 p1 p2 p3 p4;obtain ⟨p0,p1,p2,p3,p4,_⟩:=Zab HP8.out;obtain ⟨o,ho⟩:∃o,Zde P=o:=⟨_,rfl⟩;have HO:=Za ho;rw [ho] at HRL
    cases o with
    | none =>
     obtain ⟨rfl,rfl,rfl,rfl⟩:ra=0∧rb=0∧rc=0∧rt=false:=by
      have h9:=HHP.out;rw [HO.out] at h9;have h8:Zb5 P=none:=by simpa using h9
      have h7:=HLPH.out;rw [HRES.out,h8] at h7;simpa [Zet] using h7
     clear ho
     go_wp2_with (first
      | (go_at_call 31;(with_reducible refine HRL.out.mono ?_);rintro en w9 hn9;obtain ⟨rfl,hb9⟩:=hn9;have HB9:=Za hb9;clear hb9)
      | (go_at_call 25;(with_reducible refine (HHD.out _).mono ?_);rintro en w4 ⟨rfl,hb4⟩;have HB10:=Za hb4;clear hb4))
     go_ret;exact ⟨rfl,HW8.out.trans ((HB9.out.trans (HB10.out.mono HB9.out.size)).mono HW8.out.size)⟩
    | some o =>
     obtain ⟨k,i,n,l'⟩:=o
     obtain ⟨rfl,rfl,rfl,rfl⟩:ra=evN P k∧rb=(i:Int)∧rc=n∧rt=true:=by
      have h9:=HHP.out;rw [HO.out] at h9;simp only [Option.map_some] at h9;have h7:=HLPH.out;rw [HRES.out] at h7
      cases h8:Zb5 P with
      | none=>rw [h8] at h9;cases h9
      | some r =>
       obtain ⟨r1,r2⟩:=r;rw [h8] at h9 h7;simp only [Option.map_some,Option.some.injEq,Prod.mk.injEq] at h9;simp only [Zet,Prod.mk.injEq] at h7;obtain ⟨e1,e2,e3⟩:=h9;obtain ⟨f1,f2,f3,f4⟩:=h7;exact ⟨by rw [f1,e1],by rw [f2,e2],by rw [f3,e3],f4⟩
     have hn0:(rc != 0)=true:=by
      have:=ZiO HO.out
      simp
      omega
     obtain ⟨ev,hev⟩:∃e,evN P k=e:=⟨_,rfl⟩;clear ho;have HEV:=Za hev;clear hev
     go_wp2_with (first
      | (go_at_call 31;(with_reducible refine HRL.out.mono ?_);rintro en w9 hn9;obtain ⟨u9,rfl,ho9,hb9⟩:=hn9;have HB9:=Za hb9;clear hb9 ho9)
      | (go_at_call 25;(with_reducible refine (HHD.out _).mono ?_);rintro en w4 ⟨rfl,hb4⟩;have HB10:=Za hb4;clear hb4))
     go_ret;exact ⟨rfl,HW8.out.trans ((HB9.out.trans (HB10.out.mono HB9.out.size)).mono HW8.out.size)⟩
  · have h71:=Zih hc;rw [h71] at HCK
    obtain ⟨rfl,rfl,rfl,rfl⟩:ra=0∧rb=0∧rc=0∧rt=false:=by
     have h9:=HRES.out;unfold Za2 at h9;rw [if_neg hc] at h9;simpa [eq_comm] using h9
    clear hc h71
    go_wp2_with (first
     | (go_at_call 30;(with_reducible refine HCK.out.mono ?_);rintro en w8 ⟨rfl,hb8⟩;have HB8:=Za hb8;clear hb8)
     | (go_at_call 25;(with_reducible refine (HHD.out _).mono ?_);rintro en w4 ⟨rfl,hb4⟩;have HB10:=Za hb4;clear hb4))
    go_ret;exact ⟨rfl,HW7.out.trans ((HB8.out.trans (HB10.out.mono HB8.out.size)).mono HW7.out.size)⟩
section
namespace Go.Proofs.Ytdpokdcendgfeaa.opened
open Go.ChangeShapes Go.WideShapes Go.ChangeAt Go.RowKit Go.Deep
section
variable {H:Type} {enc:TypeId×Value→H} {P:Program} {w:World} {base:Nat} {spare:Nat→Bool} {held:Bool}
theorem ZcL {t e:TypeId} {fs:Array Field} {fuel:Nat} {cs:List Value} {x:DataW H×List MemPlace} (ht:P.underlying t=some (.slice e)) (he:P.underlying e=some (.struct fs))
 (hone:oneCellFields P fs=true) (hC:P.cellsOf e=fs.size) (h:DataW.trod enc P w base spare held fuel t cs=some x) :
 (cs=[.slice none 0 0]∧x=(.nil,[])) ∨
 ∃(a:Addr) (len cap m:Nat) (D:Nat→DataW H) (Pl:Nat→List MemPlace),cs=[.slice (some a) len cap]∧base≤a.block∧len≤cap∧cap≤maxLen∧m=(if spare a.block then cap else len) ∧
  x=(.slice ((List.range len).map D) ((List.range (m - len)).map fun j=>D (len+j)),MemPlace.row a (m*fs.size)++(List.range m).flatMap Pl) ∧
  ∀i,i<m→∃(ys:List (DataW H×List MemPlace)) (n:Nat),D i=.agg (ys.map (·.1))∧Pl i=ys.flatMap (·.2)∧ys.length=fs.size ∧
   ∀(j:Nat) (f:Field),fs[j]? = some f→∃(v:Value) (y:DataW H×List MemPlace),w.cell? (a.add (i*fs.size+j))=some v∧ys[j]? = some y∧DataW.trod enc P w base spare held n f.type [v]=some y:=by
 rcases open_slice ht h with h0 | ⟨a,len,cap,m,n,D,Pl,hcs,hb,hl,hm,hmm,hx,hi⟩
 · exact .inl h0
 · refine .inr ⟨a,len,cap,m,D,Pl,hcs,hb,hl,hm,hmm,by rw [hC] at hx;exact hx,fun i him=>?_⟩;obtain ⟨cs',hc,ht'⟩:=hi i him;rw [hC] at hc;obtain ⟨ys,n',hn',hy,hlen,hyl,hf⟩:=DataW.trod_struct he ht';obtain ⟨_,hcl,hat⟩:=World.cells?_some hc;simp only [Prod.mk.injEq] at hy;refine ⟨ys,n',hy.1,hy.2,hyl,fun j f hj=>?_⟩;obtain ⟨ho,hk⟩:=hone_of hone j f hj;have hjl:j<fs.size:=(Array.getElem?_eq_some_iff.1 hj).1;have hcell:=hat j hjl;have hv:cs'[j]? = some (cs'[j]'(by omega)):=ge_ (by omega);have h1:=hf j f hj;rw [ho,hk] at h1
   have hone':(cs'.drop j).take 1=[cs'[j]'(by omega)]:=by
    rw [List.drop_eq_getElem_cons (by omega)];rfl
   rw [hone'] at h1;have hys:ys[j]? = some (ys[j]'(by omega)):=ge_ (by omega);refine ⟨_,_,?_,hys,h1.trans hys⟩;rw [←Go.Deep.add_add,hcell,hv]
end
section
variable {H:Type} {enc:TypeId×Value→H} {P:Program}
theorem ZgF {f:Func} {s:ChangeSpec} {apart fresh handsOn again:Bool} {W W':World} {args:Array Value} {v:Value} {ds gs:List (DataW H)} {before pa pv:List MemPlace}
 (hW:DataW.Whole enc P f.params.toList s.vars apart W args.toList ds gs before)
 (hres:∀(b:Nat) (sp:Nat→Bool) (hd:Bool),DataW.TrodAll enc P W' b sp hd f.resultTypes.toList (v.resultList f.resultTypes.size) (s.fn H (ds++gs)).results [])
 (hargs:∀sp:Nat→Bool,(∀p ∈ before,sp p.block=true)→DataW.TrodAll enc P W' 0 sp true f.params.toList args.toList (s.fn H (ds++gs)).args pa)
 (hvars:∀sp:Nat→Bool,(∀p ∈ before,sp p.block=true)→DataW.TrodVars enc P W' sp s.vars (s.fn H (ds++gs)).vars pv)
 (hps:before=pa++pv) (hb:Below W.heap.size W W')
 (hok:∀(j:Nat) (t:TypeId) (r:Value),f.resultTypes[j]? = some t→(v.resultList f.resultTypes.size)[j]? = some r→Value.okWide P W' .any 0 t r) :
 s.post enc P f apart fresh handsOn again W args v W':=by
 have hlt:∀p ∈ before,p.block<W.heap.size:=fun p hp=>hW.lt p hp
 have hold:∀p ∈ before,(fun b=>decide (b<W.heap.size)) p.block=true:=fun p hp=>by simpa using hlt p hp
 refine ⟨ds,gs,before,[],pa,pv,hW,hres _ _ _,hargs _ hold,hvars _ hold,World.keptBut_mono (fun p hp=>⟨hp,?_⟩) (hb.frame (· ∈ before)),fun _=>?_⟩
 · rw [hps,List.mem_append] at hp;exact Or.inr hp
 · obtain ⟨_,_,_,_,_,hz,hn⟩:=hW;refine ⟨hok,_,_,([]++pa)++pv,⟨[]++pa,pv,trodAll_append (hargs _ (fun _ _=>rfl)) (hres _ _ _),hvars _ (fun _ _=>rfl),rfl,?_,?_⟩,?_⟩
   · intro b off hp;have hin:MemPlace.cell b off ∈ before:=by rw [hps];simpa using hp
     rw [hb.frozen (hlt _ hin)];exact hz b off hin
   · intro ha;have:=hn ha;rw [hps] at this;simpa using this
   · intro p hp _;rw [hps];simpa using hp
end
theorem ZcS {w:World} {a:Addr} {v:Value} (h:w.cell? a=some v):a.block<w.heap.size:=by
 rcases Nat.lt_or_ge a.block w.heap.size with h1 | h1
 · exact h1
 · simp [World.cell?,Array.getElem?_eq_none h1] at h
theorem ZnB:laidOutB Try.prog=true:=by kernel_rfl
theorem Zgi {H:Type} {enc:TypeId×Value→H} {W W':World} {sp:Nat→Bool} (hb:Below W.heap.size W W') :
 ∀ {ts:List TypeId} {vs:List Value} {ds:List (DataW H)} {ps:List MemPlace},(∀t ∈ ts,Try.prog.readableRec t=true∧t<Try.prog.types.size) →
  DataW.TrodAll enc Try.prog W 0 (fun _=>true) true ts vs ds ps→(∀x ∈ ps,x.block<W.heap.size)→(∀p ∈ ps,sp p.block=true)→DataW.TrodAll enc Try.prog W' 0 sp true ts vs ds ps
 | [],[],[],_,_,h,_,_=>h
 | [],_::_,_,_,_,h,_,_=>h.elim
 | [],[],_::_,_,_,h,_,_=>h.elim
 | t::ts,vs,ds,ps,hr,h,hlt,hs=>by
  obtain ⟨v,vs',d,ds',p,q,rfl,rfl,rfl,h0,h1⟩:=trodAll_cons h;have hr0:=hr t (List.mem_cons_self ..)
  exact trodAll_cons_mk (WideElems.Trod_stays ZnB hr0.1 hr0.2 h0 (fun x hx=>hb.same (hlt x (List.mem_append_left _ hx))) (fun x hx=>hs x (List.mem_append_left _ hx)))
   (Zgi hb (fun t ht=>hr t (List.mem_cons_of_mem _ ht)) h1 (fun x hx=>hlt x (List.mem_append_right _ hx)) (fun x hx=>hs x (List.mem_append_right _ hx)))
end Go.Proofs.Ytdpokdcendgfeaa.opened
end
section
namespace Go.Proofs.Ytdpokdcendgfeaa.opened
open Go.ChangeShapes Go.WideShapes Go.ChangeAt Go.RowKit Go.Deep
def Zb7 {H:Type} (d:DataW H) (n:Nat):Prop:=(d=.nil∧n=0)∨∃es sp,d=.slice es sp∧es.length=n
section
variable {H:Type} {enc:TypeId×Value→H} {w:World} {base:Nat} {held:Bool}
theorem Zfr {α : Type} [Inhabited α] {t e:TypeId} {fuel:Nat} {c:Value} {x:DataW H×List MemPlace} (ht:Try.prog.underlying t=some (.slice e)) (hc:Try.prog.cellsOf e=1)
 (h:DataW.trod enc Try.prog w base (fun _=>true) held fuel t [c]=some x) (f:α → Value) (kind:∀(V:Value) (n:Nat) (y:DataW H×List MemPlace),DataW.trod enc Try.prog w base (fun _=>true) held n e [V]=some y→∃u,V=f u) :
 ∃oa cap,∃l:List α,c=.slice oa l.length cap∧Src w oa l.length (l.map f)∧l.length≤cap∧cap≤maxLen∧Zb7 x.1 l.length:=by
 rcases open_slice1 ht hc h with ⟨h0,h1⟩ | ⟨a,len,cap,m,n,V,D,Pl,h0,hb,hl,hm,hmm,h1,hx⟩
 · injection h0 with h0;exact ⟨none,0,[],h0,fun h=>absurd h (by simp),lr_,Nat.zero_le _,.inl ⟨by rw [h1],rfl⟩⟩
 · injection h0 with h0;simp only [if_true] at hmm;obtain ⟨U,hU⟩:=choose_lt (α:=α) (p:=fun i u=>V i=f u) (n:=len) (fun i hi=>kind _ _ _ (hx i (by omega)).2);refine ⟨some a,cap,(List.range len).map U,by rw [h0];simp,fun hp=>?_,by simpa using hl,hm,.inr ⟨_,_,by rw [h1],by simp⟩⟩;have hp:0<len:=by simpa using hp
   refine ⟨a,rfl,?_,fun j v hj=>?_⟩
   · have:=ZcS (hx 0 (by omega)).1;rwa [Zm] at this
   · have hjl:j<len:=by have:=(gs_ hj).1;simpa using this
     rw [(hx j (by omega)).1,hU j hjl];simpa [hjl] using hj
theorem Zjb {fuel:Nat} {c:Value} {x:DataW H×List MemPlace} (h:DataW.trod enc Try.prog w base (fun _=>true) held fuel 22 [c]=some x) :
 ∃oa cap,∃l:List Bool,c=.slice oa l.length cap∧Src w oa l.length (ZY l)∧l.length≤cap∧cap≤maxLen∧Zb7 x.1 l.length :=
 Zfr Try.underlying22 (by kernel_rfl) h Value.bool fun V n y hy=>by
  obtain ⟨b,hb,_⟩:=DataW.trod_bool Try.underlying4 hy;exact ⟨b,by simpa using hb⟩
theorem Zku {fuel:Nat} {c:Value} {x:DataW H×List MemPlace} (h:DataW.trod enc Try.prog w base (fun _=>true) held fuel 24 [c]=some x) :
 ∃oa cap,∃l:List Int,c=.slice oa l.length cap∧Src w oa l.length (Zn l)∧l.length≤cap∧cap≤maxLen∧Zb7 x.1 l.length :=
 Zfr Try.underlying24 (by kernel_rfl) h (fun x=>.int .i64 x) fun V n y hy=>by
  obtain ⟨b,hb,_⟩:=DataW.trod_int Try.underlying3 hy;exact ⟨b,by simpa using hb⟩
theorem Zkr {fuel:Nat} {c:Value} {x:DataW H×List MemPlace} (h:DataW.trod enc Try.prog w base (fun _=>true) held fuel 23 [c]=some x) :
 ∃oa cap,∃l:List Vr,c=.slice oa l.length cap∧Src w oa l.length (vrs l)∧l.length≤cap∧cap≤maxLen∧Zb7 x.1 l.length:=by
 rcases ZcL Try.underlying23 Try.underlying51 (by kernel_rfl) (by kernel_rfl) h with ⟨h0,h1⟩ | ⟨a,len,cap,m,D,Pl,h0,hb,hl,hm,hmm,h1,hx⟩
 · injection h0 with h0;exact ⟨none,0,[],h0,fun h=>absurd h (by simp),lr_,Nat.zero_le _,.inl ⟨by rw [h1],rfl⟩⟩
 · injection h0 with h0;simp only [if_true] at hmm;have:Inhabited Vr:=⟨⟨0,0,0⟩⟩
   obtain ⟨U,hU⟩:=choose_lt (α:=Vr) (p:=fun i u=>w.cell? (a.add (i*3))=some (.int .i64 u.init)∧w.cell? (a.add (i*3+1))=some (.int .i64 u.lo)∧w.cell? (a.add (i*3+2))=some (.int .i64 u.hi)) (n:=len) (fun i hi=>by
    obtain ⟨ys,k,_,_,_,hf⟩:=hx i (by omega);obtain ⟨v0,y0,c0,_,t0⟩:=hf 0 _ rfl;obtain ⟨v1,y1,c1,_,t1⟩:=hf 1 _ rfl;obtain ⟨v2,y2,c2,_,t2⟩:=hf 2 _ rfl;obtain ⟨n0,e0,_⟩:=DataW.trod_int Try.underlying3 t0;obtain ⟨n1,e1,_⟩:=DataW.trod_int Try.underlying3 t1;obtain ⟨n2,e2,_⟩:=DataW.trod_int Try.underlying3 t2;injection e0 with e0;injection e1 with e1;injection e2 with e2;subst e0 e1 e2
    exact ⟨⟨n0,n1,n2⟩,c0,c1,c2⟩)
   refine ⟨some a,cap,(List.range len).map U,by rw [h0];simp,fun hp=>?_,by simpa using hl,hm,.inr ⟨_,_,by rw [h1],by simp⟩⟩;have hp:0<len:=by simpa using hp
   refine ⟨a,rfl,?_,fun j v hj=>?_⟩
   · have:=ZcS (hU 0 hp).1;rwa [Zm] at this
   · have hjl:j<len*3:=by
      have:=(gs_ hj).1
      have hlen:∀l:List Vr,(vrs l).length=l.length*3:=fun l=>by
       induction l with
       | nil=>rfl
       | cons x l ih=>simp only [vrs,List.map_cons,List.flatten_cons,List.length_append,List.length_cons] at ih ⊢;rw [ih];simp [Vr.cells];omega
      rw [hlen] at this;simpa using this
     have hy:((List.range len).map U)[j / 3]? = some (U (j / 3)):=by rw [List.getElem?_map,List.getElem?_range (by omega)];rfl
     have hz:=fun k hk=>Zem _ _ k _ hy hk
     obtain ⟨d0,d1,d2⟩:=hU (j / 3) (by omega);obtain h3 | h3 | h3:j=j / 3*3∨j=j / 3*3+1∨j=j / 3*3+2:=by omega
     · rw [h3] at hj ⊢;have:=hz 0 (by omega);rw [Nat.add_zero] at this;rw [this] at hj;rw [d0];exact hj
     · rw [h3] at hj ⊢;rw [hz 1 (by omega)] at hj;rw [d1];exact hj
     · rw [h3] at hj ⊢;rw [hz 2 (by omega)] at hj;rw [d2];exact hj
theorem ZgW {fuel:Nat} {c:Value} {x:DataW H×List MemPlace} (h:DataW.trod enc Try.prog w base (fun _=>true) held fuel 26 [c]=some x) :
 ∃oa cap,∃l:List Ac,c=.slice oa l.length cap∧Src w oa l.length (acs l)∧l.length≤cap∧cap≤maxLen∧Zb7 x.1 l.length:=by
 rcases ZcL Try.underlying26 Try.underlying49 (by kernel_rfl) (by kernel_rfl) h with ⟨h0,h1⟩ | ⟨a,len,cap,m,D,Pl,h0,hb,hl,hm,hmm,h1,hx⟩
 · injection h0 with h0;exact ⟨none,0,[],h0,fun h=>absurd h (by simp),lr_,Nat.zero_le _,.inl ⟨by rw [h1],rfl⟩⟩
 · injection h0 with h0;simp only [if_true] at hmm;have:Inhabited Ac:=⟨⟨0,0,0,0,0,0⟩⟩
   obtain ⟨U,hU⟩:=choose_lt (α:=Ac) (p:=fun i u=>w.cell? (a.add (i*6))=some (.int .i64 u.k)∧w.cell? (a.add (i*6+1))=some (.int .i64 u.a)∧w.cell? (a.add (i*6+2))=some (.int .i64 u.b)∧w.cell? (a.add (i*6+3))=some (.int .i64 u.c)∧w.cell? (a.add (i*6+4))=some (.int .i64 u.d)∧w.cell? (a.add (i*6+5))=some (.int .i64 u.n)) (n:=len) (fun i hi=>by
    obtain ⟨ys,k,_,_,_,hf⟩:=hx i (by omega);obtain ⟨v0,y0,c0,_,t0⟩:=hf 0 _ rfl;obtain ⟨v1,y1,c1,_,t1⟩:=hf 1 _ rfl;obtain ⟨v2,y2,c2,_,t2⟩:=hf 2 _ rfl;obtain ⟨v3,y3,c3,_,t3⟩:=hf 3 _ rfl;obtain ⟨v4,y4,c4,_,t4⟩:=hf 4 _ rfl;obtain ⟨v5,y5,c5,_,t5⟩:=hf 5 _ rfl;obtain ⟨n0,e0,_⟩:=DataW.trod_int Try.underlying3 t0;obtain ⟨n1,e1,_⟩:=DataW.trod_int Try.underlying3 t1;obtain ⟨n2,e2,_⟩:=DataW.trod_int Try.underlying3 t2;obtain ⟨n3,e3,_⟩:=DataW.trod_int Try.underlying3 t3;obtain ⟨n4,e4,_⟩:=DataW.trod_int Try.underlying3 t4;obtain ⟨n5,e5,_⟩:=DataW.trod_int Try.underlying3 t5;injection e0 with e0;injection e1 with e1;injection e2 with e2;injection e3 with e3;injection e4 with e4;injection e5 with e5;subst e0 e1 e2 e3 e4 e5
    exact ⟨⟨n0,n1,n2,n3,n4,n5⟩,c0,c1,c2,c3,c4,c5⟩)
   refine ⟨some a,cap,(List.range len).map U,by rw [h0];simp,fun hp=>?_,by simpa using hl,hm,.inr ⟨_,_,by rw [h1],by simp⟩⟩;have hp:0<len:=by simpa using hp
   refine ⟨a,rfl,?_,fun j v hj=>?_⟩
   · have:=ZcS (hU 0 hp).1;rwa [Zm] at this
   · have hjl:j<len*6:=by
      have:=(gs_ hj).1
      have hlen:∀l:List Ac,(acs l).length=l.length*6:=fun l=>by
       induction l with
       | nil=>rfl
       | cons x l ih=>simp only [acs,List.map_cons,List.flatten_cons,List.length_append,List.length_cons] at ih ⊢;rw [ih];simp [Ac.cells];omega
      rw [hlen] at this;simpa using this
     have hy:((List.range len).map U)[j / 6]? = some (U (j / 6)):=by rw [List.getElem?_map,List.getElem?_range (by omega)];rfl
     have hz:=fun k hk=>ZfL _ _ k _ hy hk
     obtain ⟨d0,d1,d2,d3,d4,d5⟩:=hU (j / 6) (by omega);obtain h3 | h3 | h3 | h3 | h3 | h3:j=j / 6*6∨j=j / 6*6+1∨j=j / 6*6+2∨j=j / 6*6+3∨j=j / 6*6+4∨j=j / 6*6+5:=by omega
     · rw [h3] at hj ⊢;have:=hz 0 (by omega);rw [Nat.add_zero] at this;rw [this] at hj;rw [d0];exact hj
     · rw [h3] at hj ⊢;rw [hz 1 (by omega)] at hj;rw [d1];exact hj
     · rw [h3] at hj ⊢;rw [hz 2 (by omega)] at hj;rw [d2];exact hj
     · rw [h3] at hj ⊢;rw [hz 3 (by omega)] at hj;rw [d3];exact hj
     · rw [h3] at hj ⊢;rw [hz 4 (by omega)] at hj;rw [d4];exact hj
     · rw [h3] at hj ⊢;rw [hz 5 (by omega)] at hj;rw [d5];exact hj
def ZlG {H:Type} (d:DataW H) (ls:List (List Ac)):Prop:=(d=.nil∧ls=[])∨∃es sp,d=.slice es sp∧es.length=ls.length∧∀(i:Nat) (l:List Ac),ls[i]? = some l→∃e,es[i]? = some e∧Zb7 e l.length
theorem Zjd (n:Nat) (f:Nat→Option Addr×Nat×List Ac):slv ((List.range n).map fun i=>((f i).1,(f i).2.1)) ((List.range n).map fun i=>(f i).2.2)=(List.range n).map fun i=>.slice (f i).1 (f i).2.2.length (f i).2.1:=by
 have:∀l:List Nat,slv (l.map fun i=>((f i).1,(f i).2.1)) (l.map fun i=>(f i).2.2)=l.map fun i=>.slice (f i).1 (f i).2.2.length (f i).2.1:=fun l=>by
  induction l with
  | nil=>rfl
  | cons x l ih=>simp only [List.map_cons,slv,ih]
 exact this _
theorem Ziv {fuel:Nat} {c:Value} {x:DataW H×List MemPlace} (h:DataW.trod enc Try.prog w base (fun _=>true) held fuel 25 [c]=some x) :
 ∃oa cap,∃(rs:List (Option Addr×Nat)) (ls:List (List Ac)),c=.slice oa ls.length cap∧Src w oa ls.length (slv rs ls)∧ZaU w rs ls∧ls.length≤cap∧cap≤maxLen∧ZlG x.1 ls:=by
 rcases open_slice1 Try.underlying25 (by kernel_rfl) h with ⟨h0,h1⟩ | ⟨a,len,cap,m,n,V,D,Pl,h0,hb,hl,hm,hmm,h1,hx⟩
 · injection h0 with h0;exact ⟨none,0,[],[],h0,fun h=>absurd h (by simp),⟨rfl,fun i oa c l h=>by simp at h⟩,lr_,Nat.zero_le _,.inl ⟨by rw [h1],rfl⟩⟩
 · injection h0 with h0;simp only [if_true] at hmm;have:Inhabited (Option Addr×Nat×List Ac):=⟨(none,0,[])⟩
   obtain ⟨U,hU⟩:=choose_lt (α:=Option Addr×Nat×List Ac) (p:=fun i u=>V i=.slice u.1 u.2.2.length u.2.1∧Src w u.1 u.2.2.length (acs u.2.2)∧u.2.2.length≤u.2.1∧u.2.1≤maxLen∧Zb7 (D i) u.2.2.length) (n:=len) (fun i hi=>by
    obtain ⟨oa,cp,l,e1,e2,e3,e4,e5⟩:=ZgW (hx i (by omega)).2
    exact ⟨(oa,cp,l),e1,e2,e3,e4,e5⟩)
   have hg1:∀i,i<len→((List.range len).map fun i=>((U i).1,(U i).2.1))[i]? = some ((U i).1,(U i).2.1):=fun i hi=>by rw [List.getElem?_map,List.getElem?_range hi];rfl
   have hg2:∀i,i<len→((List.range len).map fun i=>(U i).2.2)[i]? = some (U i).2.2:=fun i hi=>by rw [List.getElem?_map,List.getElem?_range hi];rfl
   refine ⟨some a,cap,(List.range len).map fun i=>((U i).1,(U i).2.1),(List.range len).map fun i=>(U i).2.2,by rw [h0];simp,fun hp=>?_,⟨by simp,fun i oa c l e1 e2=>?_⟩,by simpa using hl,hm,.inr ⟨_,_,by rw [h1],by simp,fun i l hl=>?_⟩⟩
   · have hp:0<len:=by simpa using hp
     refine ⟨a,rfl,?_,fun j v hj=>?_⟩
     · have:=ZcS (hx 0 (by omega)).1;rwa [Zm] at this
     · rw [Zjd] at hj;have hjl:j<len:=by have:=(gs_ hj).1;simpa using this
       rw [(hx j (by omega)).1,(hU j hjl).1];simpa [hjl] using hj
   · have hi:i<len:=by have:=(gs_ e1).1;simpa using this
     rw [hg1 i hi] at e1;rw [hg2 i hi] at e2;injection e1 with e1;injection e2 with e2;injection e1 with e3 e4;subst e2 e3 e4;exact ⟨(hU i hi).2.1,(hU i hi).2.2.1,(hU i hi).2.2.2.1⟩
   · have hi:i<len:=by have:=(gs_ hl).1;simpa using this
     rw [hg2 i hi] at hl;injection hl with hl;subst hl;refine ⟨D i,by rw [List.getElem?_map,List.getElem?_range hi];rfl,(hU i hi).2.2.2.2⟩
end
def ZlF {H:Type} (d:DataW H) (P:Pl):Prop:=∃dg dv dt dn dm,d=.agg [dg,dv,dt,dn,dm]∧Zb7 dg P.gh.length∧Zb7 dv P.vs.length∧Zb7 dt P.ts.length∧ZlG dn P.on∧Zb7 dm P.ms.length
theorem Zjm {H:Type} {enc:TypeId×Value→H} {W:World} {r:Reach} {b0:Nat} {v:Value} {d:DataW H} {p:List MemPlace} (hv:Value.okWide Try.prog W r b0 28 v)
 (h:DataW.Trod enc Try.prog W 0 (fun _=>true) true 28 v d p):∃q P rs,v=PlV.val q∧PlMem W q P rs∧ZlF d P:=by
 obtain ⟨fuel,hf⟩:=h;obtain ⟨cs,rfl,hsz⟩:=okWide_struct Try.underlying28 hv;obtain ⟨ys,n,_,hd,hl,hyl,hfs⟩:=DataW.trod_struct Try.underlying28 hf;have h28:Try.prog.cellsOf 28=5:=by kernel_rfl
 obtain ⟨c0,c1,c2,c3,c4,rfl⟩:∃c0 c1 c2 c3 c4,cs=#[c0,c1,c2,c3,c4]:=by
  rcases cs with ⟨l⟩;have hl6:l.length=5:=by rw [←h28,←hsz];rfl
  match l,hl6 with
  | [c0,c1,c2,c3,c4],_=>exact ⟨c0,c1,c2,c3,c4,rfl⟩
 have hyl5:ys.length=5:=hyl
 obtain ⟨y0,y1,y2,y3,y4,rfl⟩:∃y0 y1 y2 y3 y4,ys=[y0,y1,y2,y3,y4]:=by
  match ys,hyl5 with
  | [c0,c1,c2,c3,c4],_=>exact ⟨c0,c1,c2,c3,c4,rfl⟩
 have f0:DataW.trod enc Try.prog W 0 (fun _=>true) true n 22 [c0]=some y0:=(hfs 0 _ rfl).trans rfl;have f1:DataW.trod enc Try.prog W 0 (fun _=>true) true n 23 [c1]=some y1:=(hfs 1 _ rfl).trans rfl;have f2:DataW.trod enc Try.prog W 0 (fun _=>true) true n 24 [c2]=some y2:=(hfs 2 _ rfl).trans rfl;have f3:DataW.trod enc Try.prog W 0 (fun _=>true) true n 25 [c3]=some y3:=(hfs 3 _ rfl).trans rfl;have f4:DataW.trod enc Try.prog W 0 (fun _=>true) true n 26 [c4]=some y4:=(hfs 4 _ rfl).trans rfl;obtain ⟨ga,gc,gl,rfl,sg,g1,g2,g3⟩:=Zjb f0;obtain ⟨va,vc,vl,rfl,sv,v1,v2,v3⟩:=Zkr f1;obtain ⟨ta,tc,tl,rfl,st,t1,t2,t3⟩:=Zku f2;obtain ⟨oa,oc,rs,ol,rfl,so,se,o1,o2,o3⟩:=Ziv f3;obtain ⟨ma,mc,ml,rfl,sm,m1,m2,m3⟩:=ZgW f4;injection hd with hd hp;refine ⟨⟨ga,va,ta,oa,ma,gl.length,gc,vl.length,vc,tl.length,tc,ol.length,oc,ml.length,mc⟩,⟨gl,vl,tl,ol,ml⟩,rs,rfl,⟨rfl,rfl,rfl,rfl,rfl,sg,sv,st,so,⟨by simp [se.1],fun i oa' c l e1 e2=>?_⟩,Nat.le_trans g1 g2,Nat.le_trans v1 v2,Nat.le_trans t1 t2,Nat.le_trans o1 o2⟩,⟨_,_,_,_,_,hd,g3,v3,t3,o3,m3⟩⟩
 by_cases hi:i<ol.length
 · rw [List.getElem?_append_left (by rw [se.1];exact hi)] at e1;rw [List.getElem?_append_left hi] at e2;exact se.2 i oa' c l e1 e2
 · have hi2:i<ol.length+1:=by have h9:=(gs_ e2).1;simpa using h9
   have hi3:i=ol.length:=Nat.le_antisymm (Nat.lt_succ_iff.1 hi2) (Nat.le_of_not_lt hi);subst hi3;rw [List.getElem?_append_right (by rw [se.1];exact lr_)] at e1;rw [List.getElem?_append_right lr_] at e2;simp [se.1] at e1 e2;obtain ⟨rfl,rfl⟩:=e1;subst e2;exact ⟨sm,m1,m2⟩
end Go.Proofs.Ytdpokdcendgfeaa.opened
end
section
namespace Go.Proofs.Ytdpokdcendgfeaa.opened
open Go.ChangeShapes Go.WideShapes Go.ChangeAt Go.RowKit Go.Deep
section
variable {H:Type}
theorem ZeT {P:Program} {e:TypeId}:∀ {l:List (DataW H)} {d:DataW H},d ∈ l→∀n ∈ d.weights P e,n ∈ DataW.weightsAll P e l
 | x::l,d,hd,n,hn=>by
  unfold DataW.weightsAll;rw [List.mem_append];rcases List.mem_cons.1 hd with rfl | h
  · exact .inl hn
  · exact .inr (ZeT h n hn)
theorem Zc9 {t e:TypeId} {d:DataW H} {n b:Nat} (hu:Try.prog.underlying t=some (.slice e)) (hb:Try.prog.bytesOf e=b) (h:Zb7 d n) (hw:∀x ∈ d.weights Try.prog t,x≤reachBytes):n*b≤reachBytes:=by
 rcases h with ⟨_,rfl⟩ | ⟨es,sp,rfl,rfl⟩
 · simp
 · have h1:=hw ((es.length+sp.length)*Try.prog.bytesOf e) (by simp [DataW.weights,hu]);rw [hb,Nat.add_mul] at h1;omega
theorem Zj6:Try.prog.bytesOf 49=48:=by kernel_rfl
theorem Znh:Try.prog.bytesOf 26=24:=by kernel_rfl
theorem Ziz {d:DataW H} {P:Pl} (h:ZlF d P) (hw:(DataW.weightsEach Try.prog [28] [d]).all (· ≤ reachBytes)=true):(∀l ∈ P.on++[P.ms],l.length≤4398046511104)∧P.on.length≤8796093022208:=by
 obtain ⟨dg,dv,dt,dn,dm,rfl,_,_,_,hn,hm⟩:=h
 have hall:∀x ∈ (DataW.agg [dg,dv,dt,dn,dm]:DataW H).weights Try.prog 28,x≤reachBytes:=fun x hx=>by
  have h1:=DataW.weights_mem_each (ts:=[28]) (ds:=[DataW.agg [dg,dv,dt,dn,dm]]) (j:=0) rfl rfl x hx;exact of_decide_eq_true (List.all_eq_true.1 hw x h1)
 simp only [DataW.weights,Try.underlying28] at hall;have hm4:∀x ∈ dm.weights Try.prog 26,x≤reachBytes:=fun x hx=>hall x (DataW.weights_mem_each (j:=4) rfl rfl x hx)
 have hn3:∀x ∈ dn.weights Try.prog 25,x≤reachBytes:=fun x hx=>hall x (DataW.weights_mem_each (j:=3) rfl rfl x hx)
 have h4:=Zc9 Try.underlying26 Zj6 hm hm4;have hr:reachBytes=140737488351232:=by decide
 rw [hr] at h4;rcases hn with ⟨_,hnil⟩ | ⟨es,sp,rfl,hlen,hes⟩
 · rw [hnil];refine ⟨fun l hl=>?_,by simp⟩;simp at hl;rw [hl];omega
 · have h3:=Zc9 (d:=DataW.slice es sp) Try.underlying25 Znh (.inr ⟨es,sp,rfl,rfl⟩) hn3;rw [hr,hlen] at h3;refine ⟨fun l hl=>?_,by omega⟩;rcases List.mem_append.1 hl with h5 | h5
   · obtain ⟨i,hi⟩:=List.getElem?_of_mem h5;obtain ⟨e,he,hse⟩:=hes i l hi
     have h6:=Zc9 Try.underlying26 Zj6 hse (fun x hx=>hn3 x (by
      simp only [DataW.weights,Try.underlying25,List.mem_cons,List.mem_append]
      exact .inr (.inl (ZeT (List.mem_of_getElem? he) x hx))))
     rw [hr] at h6;omega
   · simp at h5;rw [h5];omega
end
end Go.Proofs.Ytdpokdcendgfeaa.opened
end
end Go.Proofs.Ytdpokdcendgfeaa
