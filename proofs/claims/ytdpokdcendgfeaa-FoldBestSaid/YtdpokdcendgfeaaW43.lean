/- Several texts in one: Plain law for FoldBest: a plan with other events; what Run and Once make of a right plan. For the walk of FoldBest: the calls it makes, told by plans in memory. How a law's arguments read behind the call. A plan that was handed in, as lists. How long a plan's lists are that was handed in. Conditions: those of each. -/
import Derived.Test.YtdpokdcendgfeaaW40
import Derived.Test.YtdpokdcendgfeaaW37
import Derived.Test.YtdpokdcendgfeaaW24
import Derived.Test.YtdpokdcendgfeaaW29
import Derived.Test.YtdpokdcendgfeaaW41
import Derived.Test.YtdpokdcendgfeaaW42
import Derived.Test.YtdpokdcendgfeaaW35
import Derived.Test.YtdpokdcendgfeaaW1
import Derived.Test.YtdpokdcendgfeaaRows
import Derived.WalkKit
import Derived.ProofKit
import Derived.OpenShut
import Derived.JoinedCond
import Derived.Deep.Slices
import Derived.Deep.Fields
import Derived.ChangeSame
import Derived.Carry
import Derived.Test.YtdpokdcendgfeaaW2
import Derived.SizedLaws
set_option linter.unusedSimpArgs false
set_option linter.unusedVariables false
set_option maxHeartbeats 80000000
set_option maxRecDepth 100000
namespace Go.Proofs.Ytdpokdcendgfeaa
open Go.RowKit
section
variable {P P':Pl}
theorem ZgO (hg:P'.gh=P.gh) (hv:P'.vs=P.vs) (ht:P'.ts=P.ts) (x:Ac):Zu P' x=Zu P x:=by
 unfold Zu;rw [hg,hv,ht]
theorem Zjp (hg:P'.gh=P.gh) (hv:P'.vs=P.vs) (ht:P'.ts=P.ts) (l:List Ac) (i:Nat):handV P' l i=handV P l i:=by
 have h:Zu P'=Zu P:=funext (ZgO hg hv ht);unfold handV;rw [h,hg]
theorem Ziq (hg:P'.gh=P.gh) (hv:P'.vs=P.vs) (ht:P'.ts=P.ts) (l:List Ac) {row row':Nat→Int→Option (Nat×Int)} (hr:row'=row):∀(m i:Nat),Zs P' l row' m i=Zs P l row m i:=by
 subst hr;intro m
 induction m using Nat.strongRecOn with
 | ind m ih =>
  intro i;have hh:handV P' l=handV P l:=funext (Zjp hg hv ht l);unfold Zs;simp only [hh];split
  · rfl
  · split
    · rfl
    · split
      · split
        · rfl
        · exact ih _ (by omega) _
      · split
        · rfl
        · split
          · rfl
          · exact ih _ (by omega) _
theorem ZgI (hg:P'.gh=P.gh) (hv:P'.vs=P.vs) (ht:P'.ts=P.ts) (l:List Ac):∀f,Zo P' l f=Zo P l f
 | 0=>rfl
 | f+1=>by
  have ih:=ZgI hg hv ht l f;funext i what;unfold Zo;have hb:∀m j,Zs P' l (Zo P' l f) m j=Zs P l (Zo P l f) m j:=Ziq hg hv ht l ih;simp only [ZgO hg hv ht,hb];rw [ih]
theorem Zil (hg:P'.gh=P.gh) (hv:P'.vs=P.vs) (ht:P'.ts=P.ts) (l:List Ac):Zy P' l=Zy P l:=by
 unfold Zy;rw [ZgI hg hv ht]
def Zag (P:Pl) (R:Nat→List Ac):Pl:=⟨P.gh,P.vs,P.ts,(List.range P.on.length).map R,R P.on.length⟩
theorem Zax (R:Nat→List Ac):(Zag P R).on.length=P.on.length:=by simp [Zag]
theorem Zfl {R:Nat→List Ac} {k:Nat} (h:k<P.on.length):(Zag P R).on[k]? = some (R k):=by
 show ((List.range P.on.length).map R)[k]? = _;rw [List.getElem?_map,List.getElem?_range h];rfl
theorem Zd1 {R:Nat→List Ac} {k:Nat} (h:k≤P.on.length):evP (Zag P R) k=R k:=by
 unfold evP;rcases Nat.eq_or_lt_of_le h with rfl | h1
 · rw [List.getElem?_append_right (by rw [Zax];exact lr_),Zax,Nat.sub_self];rfl
 · rw [List.getElem?_append_left (by rw [Zax];exact h1),Zfl h1];rfl
theorem Zd0:Zag P (evP P)=P:=by
 obtain ⟨gh,vs,ts,on,ms⟩:=P;unfold Zag
 have h1:evP ⟨gh,vs,ts,on,ms⟩ on.length=ms:=by
  unfold evP
  simp
 have h2:(List.range on.length).map (evP ⟨gh,vs,ts,on,ms⟩)=on:=by
  apply List.ext_getElem?;intro k
  by_cases hk:k<on.length
  · rw [List.getElem?_map,List.getElem?_range hk];unfold evP;simp [List.getElem?_append_left hk,ge_ hk]
  · rw [List.getElem?_eq_none (by simp;omega),List.getElem?_eq_none (by omega)]
 simp only [h1,h2]
theorem ZgH {R S:Nat→List Ac}:∀(n:Nat),(∀k,k<n→(R k).length≤(S k).length)→Zh ((List.range n).map R)≤Zh ((List.range n).map S)
 | 0,_=>by simp [Zh]
 | n+1,h=>by
  have ih:=ZgH n (fun k hk=>h k (by omega));have hn:=h n (Nat.lt_succ_self _);simp only [Zh] at ih ⊢;rw [List.range_succ,List.map_append,List.map_append,List.map_append,List.map_append,List.sum_append,List.sum_append]
  simp
  simp at ih;omega
theorem Zk8:P.on=(List.range P.on.length).map (evP P):=by
 have h:=Zd0 (P:=P);have h2:=congrArg Pl.on h;exact h2.symm
theorem ZlW:P.ms=evP P P.on.length:=by
 have h:=Zd0 (P:=P);have h2:=congrArg Pl.ms h;exact h2.symm
theorem ZdZ {R:Nat→List Ac} (h:∀k,k≤P.on.length→(R k).length≤(evP P k).length):sizeA (Zag P R)≤sizeA P:=by
 unfold sizeA
 have h1:Zh (Zag P R).on≤Zh P.on:=by
  rw [show P.on=(List.range P.on.length).map (evP P) from Zk8];exact ZgH _ (fun k hk=>h k (by simpa using Nat.le_of_lt hk))
 have h2:(Zag P R).ms.length≤P.ms.length:=by
  have:=h _ lr_;rw [←ZlW] at this;exact this
 omega
theorem Zfa {R:Nat→List Ac} (hc:checkV P=0) (he:∀k,k≤P.on.length→Zy P (R k)=true) (hl:∀k,k≤P.on.length→(R k).length≤(evP P k).length):checkV (Zag P R)=0:=by
 have hs:=ZdZ hl;unfold checkV at hc ⊢;split at hc
 · next h =>
   simp only [Bool.and_eq_true,decide_eq_true_eq] at h;obtain ⟨⟨⟨⟨⟨⟨⟨h1,h2⟩,h3⟩,h4⟩,h5⟩,h6⟩,h7⟩,h8⟩:=h;rw [if_pos];simp only [Bool.and_eq_true,decide_eq_true_eq];refine ⟨⟨⟨⟨⟨⟨⟨h1,h2⟩,h3⟩,by rw [Zax];exact h4⟩,h5⟩,h6⟩,?_⟩,?_⟩
   · have e1:Zh (P.on++[P.ms])=sizeA P:=by unfold sizeA Zh;simp;omega
     have e2:Zh ((Zag P R).on++[(Zag P R).ms])=sizeA (Zag P R):=by unfold sizeA Zh;simp;omega
     omega
   · rw [List.all_eq_true];intro l hl2;rw [Zil (P:=P) (P':=Zag P R) rfl rfl rfl];rcases List.mem_append.1 hl2 with h9 | h9
     · obtain ⟨k,hk,rfl⟩:=List.mem_map.1 h9;exact he k (Nat.le_of_lt (List.mem_range.1 hk))
     · simp at h9;subst h9;exact he _ lr_
 · cases hc
theorem Zhu (hc:checkV P=0):∃(N:Nat→Nat) (R:Nat→List Ac),∀k,k≤P.on.length→RunTo (N k) (evP P k) (R k)∧Zy P (R k)=true∧(R k).length≤(evP P k).length∧Z6 (R k)=none:=by
 obtain ⟨_,h2⟩:=Zbb hc
 have h:∀k,∃p:Nat×List Ac,k≤P.on.length→RunTo p.1 (evP P k) p.2∧Zy P p.2=true∧p.2.length≤(evP P k).length∧Z6 p.2=none:=fun k=>by
  by_cases hk:k≤P.on.length
  · obtain ⟨h3,h4⟩:=h2 k hk;obtain ⟨n,l',h5,h6,h7,h8⟩:=Zm1 (P:=P) _ _ lr_ h3 h4;exact ⟨(n,l'),fun _=>⟨h5,h6,h7,h8⟩⟩
  · exact ⟨(0,[]),fun h=>absurd h hk⟩
 exact ⟨fun k=>(Classical.choose (h k)).1,fun k=>(Classical.choose (h k)).2,fun k=>Classical.choose_spec (h k)⟩
theorem Zhr (hc:checkV P=0):P.gh.length≤16∧P.vs.length≤16∧P.ts.length≤4∧P.on.length≤16∧∀l ∈ P.on++[P.ms],l.length≤131072:=by
 have h9:=hc;unfold checkV at hc;split at hc
 · next h =>
   simp only [Bool.and_eq_true,decide_eq_true_eq] at h;obtain ⟨⟨⟨⟨⟨⟨⟨h1,h2⟩,h3⟩,h4⟩,h5⟩,h6⟩,h7⟩,h8⟩:=h;refine ⟨h1,h2,h3,by omega,fun l hl=>?_⟩;have:=Zco _ l hl;omega
 · cases hc
theorem Zmu (hc:checkV P=0):∀k,k≤P.on.length→Zy P (ZaF P k)=true∧(ZaF P k).length≤(evP P k).length:=by
 obtain ⟨_,h2⟩:=Zbb hc;intro k hk;obtain ⟨h3,h4⟩:=h2 k hk;unfold ZaF
 cases ho:ZcM P with
 | none=>exact ⟨h3,lr_⟩
 | some r =>
  obtain ⟨j,f⟩:=r;simp only;unfold ZcM at ho;obtain ⟨j',hj',h5⟩:=List.exists_of_findSome?_eq_some ho;obtain ⟨f',h6,h7⟩:=Option.map_eq_some_iff.1 h5;simp only [Prod.mk.injEq] at h7;obtain ⟨rfl,rfl⟩:=h7
  by_cases e:k=j'
  · subst e;rw [ZbN];obtain ⟨a,b,c,_⟩:=ZcU h3 h4 h6;exact ⟨a,c⟩
  · rw [Zcl _ _ e];exact ⟨h3,lr_⟩
theorem Zk6 {N:Nat→Nat} {R:Nat→List Ac} (h:∀k,k≤P.on.length→RunTo (N k) (evP P k) (R k)):∃N':Nat→Nat,∀k,k≤P.on.length→RunTo (N' k) (ZaF P k) (R k):=by
 unfold ZaF
 cases ho:ZcM P with
 | none=>exact ⟨N,h⟩
 | some r =>
  obtain ⟨j,f⟩:=r;simp only;unfold ZcM at ho;obtain ⟨j',hj',h5⟩:=List.exists_of_findSome?_eq_some ho;obtain ⟨f',h6,h7⟩:=Option.map_eq_some_iff.1 h5;simp only [Prod.mk.injEq] at h7;obtain ⟨rfl,rfl⟩:=h7;have hj:=List.mem_range.1 hj';obtain ⟨m,_,_,_,h8⟩:=(h j' (by omega)).next h6;refine ⟨fun k=>if k=j' then m else N k,fun k hk=>?_⟩
  by_cases e:k=j'
  · subst e;rw [ZbN];simpa using h8
  · rw [Zcl _ _ e];simp only [if_neg e];exact h k hk
theorem Zjb (hc:checkV P=0) {r:Nat×Fd} (ho:ZcM P=some r):(decide (P.ms=(Zag P (ZaF P)).ms)&&decide (P.on=(Zag P (ZaF P)).on))=false:=by
 obtain ⟨_,h2⟩:=Zbb hc;obtain ⟨j,f⟩:=r;have ho2:=ho;unfold ZcM at ho;obtain ⟨j',hj',h5⟩:=List.exists_of_findSome?_eq_some ho;obtain ⟨f',h6,h7⟩:=Option.map_eq_some_iff.1 h5;simp only [Prod.mk.injEq] at h7;obtain ⟨rfl,rfl⟩:=h7;have hj:=List.mem_range.1 hj';obtain ⟨h3,h4⟩:=h2 j' (by omega);obtain ⟨_,hmu,_,_⟩:=ZcU h3 h4 h6
 have hne:evP P j'≠ZaF P j':=fun e=>by
  have h9:ZaF P j'=ZY (evP P j') f':=by
   unfold ZaF;rw [ho2];exact ZbN _ _ _
  rw [←h9,←e] at hmu;exact Nat.lt_irrefl _ hmu
 rw [Bool.and_eq_false_iff];rcases Nat.lt_or_ge j' P.on.length with h8 | h8
 · right;rw [decide_eq_false_iff_not];intro e;apply hne;have h10:=Zfl (P:=P) (R:=ZaF P) h8;rw [←e] at h10;rw [←Zkx h10]
 · left;rw [decide_eq_false_iff_not];intro e;have hj2:j'=P.on.length:=by omega
   subst hj2;apply hne;rw [←ZlW,e]
   first | done | rfl
theorem ZjW (ho:ZcM P=none):Zag P (ZaF P)=P:=by
 have h:ZaF P=evP P:=by unfold ZaF;rw [ho]
 rw [h];exact Zd0
theorem ZhF:(Zb9 P=none ↔ ZcM P=none):=by
 unfold Zb9 ZcM;rw [List.findSome?_eq_none_iff,List.findSome?_eq_none_iff];constructor
 · intro h k hk;have:=h k hk;simpa using this
 · intro h k hk;have:=h k hk;simpa using this
end
theorem Zeg {P:Pl} (hc:checkV P=0) (k:Nat):EvOk (evP P k)∧∀f,Z6 (evP P k)=some f→DnOk (evP P k) f:=by
 obtain ⟨h1,h2⟩:=Zbb hc
 by_cases hk:k≤P.on.length
 · obtain ⟨h3,h4⟩:=h2 k hk;exact ⟨ZdW h3 h4,fun f hf=>ZiM h3 h4 hf⟩
 · have e:evP P k=[]:=by
    unfold evP;rw [List.getElem?_eq_none (by simp;omega)];rfl
   rw [e];refine ⟨⟨⟨by simp,fun x hx=>by cases hx⟩,by simp,fun i hi=>by simp at hi⟩,fun f hf=>?_⟩;unfold Z6 at hf;simp at hf
def QE:PlV:=⟨none,none,none,none,none,0,0,0,0,0,0,0,0,0,0⟩
def PE:Pl:=⟨[],[],[],[],[]⟩
theorem Znu (w:World):PlMem w QE PE []:=by
 refine ⟨rfl,rfl,rfl,rfl,rfl,fun h=>absurd h (by simp [PE]),fun h=>absurd h (by simp [PE]),fun h=>absurd h (by simp [PE]),fun h=>absurd h (by simp [PE]),⟨rfl,fun i oa c l h1 h2=>?_⟩,by simp [PE]⟩;have hi:=(gs_ h2).1;have h0:i=0:=by simp [PE] at hi;omega
 subst h0;simp [PE] at h2;subst h2;simp [QE] at h1;obtain ⟨rfl,rfl⟩:=h1;exact ⟨fun h=>absurd h (by simp),by simp,Nat.zero_le _⟩
theorem Zfs {w:World} {B n c:Nat} {t:TypeId} {sz:Nat} {oa:Option Addr} {xs:List Value} (h:w.ownsRow B t sz (.slice oa n c) n xs):n≤c∧c≤maxLen:=by
 rcases h.2 with ⟨e,h0⟩ | ⟨g,cap,cur,e,_,_,h1,h2,_⟩
 · simp only [Value.slice.injEq] at e;obtain ⟨_,_,rfl⟩:=e;omega
 · simp only [Value.slice.injEq] at e;obtain ⟨_,_,rfl⟩:=e;exact ⟨h1,h2⟩
theorem Zhz {w:World} {B:Nat} {g v t o m:Value} {us:List Value} {P:Pl} (hg:w.ownsRow B 4 1 g P.gh.length (ZZ P.gh)) (hv:w.ownsRow B 51 3 v P.vs.length (vrs P.vs)) (ht:w.ownsRow B 3 1 t P.ts.length (Zm P.ts))
 (ho:w.ownsRow B 26 1 o P.on.length us) (hu:∀(i:Nat) (l:List Ac),P.on[i]? = some l→∃u,us[i]? = some u∧w.ownsRow B 49 6 u l.length (acs l)) (hm:w.ownsRow B 49 6 m P.ms.length (acs P.ms)):∃(q:PlV) (rs:List (Option Addr×Nat)),.agg #[g,v,t,o,m]=q.val∧PlMem w q P rs:=by
 obtain ⟨ga,gc,rfl⟩:=Zg hg;obtain ⟨va,vc,rfl⟩:=Zg hv;obtain ⟨ta,tc,rfl⟩:=Zg ht;obtain ⟨oa,oc,rfl⟩:=Zg ho;obtain ⟨ma,mc,rfl⟩:=Zg hm;have hul:us.length=P.on.length:=by have:=ho.1;omega
 have hsl:∀(j:Nat) (v:Value),(slv (us.map Zdx) P.on)[j]? = some v→us[j]? = some v:=fun j v hv=>by
  have hj:j<P.on.length:=by
   have:=(gs_ hv).1;rw [ZaU _ _ (by simp [hul])] at this;exact this
  obtain ⟨l,hl⟩:∃l,P.on[j]? = some l:=⟨_,ge_ hj⟩;obtain ⟨u,hu1,hu2⟩:=hu j l hl;obtain ⟨e,c,rfl⟩:=Zg hu2;have h9:=ZaS (us.map Zdx) P.on j (e,c) l (by rw [List.getElem?_map,hu1];rfl) hl;rw [hv] at h9;injection h9 with h9;rw [h9];exact hu1
 have hx:∀ {tE:TypeId} {sz n c:Nat} {oa:Option Addr} {xs:List Value},w.ownsRow B tE sz (.slice oa n c) n xs→n≤maxLen:=fun h=>by
  have:=Zfs h;omega
 refine ⟨⟨ga,va,ta,oa,ma,P.gh.length,gc,P.vs.length,vc,P.ts.length,tc,P.on.length,oc,P.ms.length,mc⟩,us.map Zdx,rfl,rfl,rfl,rfl,rfl,rfl,Zak hg,Zak hv,Zak ht,fun h0=>?_,⟨by simp [hul],fun i oa c l h1 h2=>?_⟩,hx hg,hx hv,hx ht,hx ho⟩
 · obtain ⟨ad,e,h1,h2⟩:=Zak ho h0;exact ⟨ad,e,h1,fun j v hj=>h2 j v (hsl j v hj)⟩
 · rcases Nat.lt_or_ge i P.on.length with hi | hi
   · rw [List.getElem?_append_left (by simp [hul];exact hi),List.getElem?_map] at h1;rw [List.getElem?_append_left hi] at h2;obtain ⟨u,hu1,hu2⟩:=hu i l h2;obtain ⟨e,c',rfl⟩:=Zg hu2;rw [hu1] at h1;simp only [Option.map_some,Zdx,Option.some.injEq,Prod.mk.injEq] at h1;obtain ⟨rfl,rfl⟩:=h1;exact ⟨Zak hu2,Zfs hu2⟩
   · have hil:i=P.on.length:=by
      have:=(gs_ h2).1;simp at this;omega
     subst hil;rw [List.getElem?_append_right (by simp [hul])] at h1;rw [List.getElem?_append_right lr_] at h2;simp only [List.length_map,hul,Nat.sub_self,List.getElem?_cons_zero,Option.some.injEq,Prod.mk.injEq] at h1 h2;obtain ⟨rfl,rfl⟩:=h1;subst h2;exact ⟨Zak hm,Zfs hm⟩
theorem ZgG {w w':World} {en:Ending} {P:Pl} {R:Nat→List Ac} (h:ZcQ w w' en P R) (hc:checkV P=0):∃(q:PlV) (rs:List (Option Addr×Nat)),en=.returned (.tuple #[q.val,.int .i64 0])∧PlMem w' q (Zag P R) rs:=by
 unfold ZcQ at h;rw [if_pos hc] at h;obtain ⟨g,v,t,o,m,us,rfl,hg,hv,ht,ho,hu,hm⟩:=h
 obtain ⟨q,rs,e,hq⟩:=Zhz (P:=Zag P R) hg hv ht (by rw [Zax];exact ho) (fun i l hi=>by
  have h1:i<P.on.length:=by have:=(gs_ hi).1;rwa [Zax] at this
  rw [Zfl h1] at hi;rw [←Option.some.inj hi]
  exact hu i h1) hm
 exact ⟨q,rs,by rw [e],hq⟩
theorem Zb1 (w:World) (q:PlV) (P:Pl) (rs:List (Option Addr×Nat)) (h:PlMem w q P rs) (hsz:P.gh.length≤100∧P.vs.length≤100∧P.ts.length≤100∧P.on.length≤100) (hrow:∀l ∈ P.on++[P.ms],l.length≤262144) :
 Calls Try.prog 27 #[q.val] w fun en w'=>∃(q':PlV) (rs':List (Option Addr×Nat)),en=.returned q'.val∧PlMem w' q' P rs'∧Below w.heap.size w w' :=
 (ZmC w q P rs h hsz hrow).mono fun en w' ⟨gg,gv,gt,go,gm,cg,cv,ct,co,cm,es,us,e,hl,hb⟩=>⟨⟨some ⟨gg,0,none⟩,some ⟨gv,0,none⟩,some ⟨gt,0,none⟩,some ⟨go,0,none⟩,some ⟨gm,0,none⟩,P.gh.length,cg,P.vs.length,cv,P.ts.length,ct,P.on.length,co,P.ms.length,cm⟩,_,e,hl.plan,hb⟩
theorem Zhv (w:World) (q:PlV) (P:Pl) (rs:List (Option Addr×Nat)) (h:PlMem w q P rs) (hrow:∀l ∈ P.on++[P.ms],l.length≤262144) (hc:checkV P=0) {N:Nat→Nat} {R:Nat→List Ac} (hr:∀k,k≤P.on.length→RunTo (N k) (evP P k) (R k)) :
 Calls Try.prog 33 #[q.val] w fun en w'=>∃(q':PlV) (rs':List (Option Addr×Nat)),en=.returned (.tuple #[q'.val,.int .i64 0])∧PlMem w' q' (Zag P R) rs'∧Below w.heap.size w w' :=
 (Zi1 w q P rs h (fun l hl=>Nat.le_trans (hrow l hl) (by decide)) R N (fun _=>⟨Zhr hc,hr⟩)).mono fun en w' ⟨h1,hb⟩=>by
  obtain ⟨q',rs',e,h2⟩:=ZgG h1 hc;exact ⟨q',rs',e,h2,hb⟩
theorem Zmt (w:World) (q:PlV) (P:Pl) (rs:List (Option Addr×Nat)) (h:PlMem w q P rs) (hrow:∀l ∈ P.on++[P.ms],l.length≤262144) (hc:checkV P=0) :
 Calls Try.prog 34 #[q.val] w fun en w'=>∃(q':PlV) (rs':List (Option Addr×Nat)),en=.returned (.tuple #[q'.val,.int .i64 0])∧PlMem w' q' (Zag P (ZaF P)) rs'∧Below w.heap.size w w' :=
 (ZjX w q P rs h (fun l hl=>Nat.le_trans (hrow l hl) (by decide)) (fun _=>⟨Zhr hc,fun k _=>Zeg hc k⟩)).mono fun en w' ⟨h1,hb⟩=>by
  obtain ⟨q',rs',e,h2⟩:=ZgG h1 hc;exact ⟨q',rs',e,h2,hb⟩
theorem Zmf (w:World) (q:PlV) (P:Pl) (rs:List (Option Addr×Nat)) (h:PlMem w q P rs) (hrow:∀l ∈ P.on++[P.ms],l.length≤262144) (hc:¬checkV P=0) :
 Calls Try.prog 33 #[q.val] w fun en w'=>en=.returned (.tuple #[QE.val,.int .i64 71])∧Below w.heap.size w w' :=
 (Zi1 w q P rs h (fun l hl=>Nat.le_trans (hrow l hl) (by decide)) (fun _=>[]) (fun _=>0) (fun h=>absurd h hc)).mono fun en w' ⟨h1,hb⟩=>by
  unfold ZcQ at h1;rw [if_neg hc] at h1;exact ⟨h1,hb⟩
theorem Zk7 (w:World) (q:PlV) (P:Pl) (rs:List (Option Addr×Nat)) (h:PlMem w q P rs) (hrow:∀l ∈ P.on++[P.ms],l.length≤262144) (hc:¬checkV P=0) :
 Calls Try.prog 34 #[q.val] w fun en w'=>en=.returned (.tuple #[QE.val,.int .i64 71])∧Below w.heap.size w w' :=
 (ZjX w q P rs h (fun l hl=>Nat.le_trans (hrow l hl) (by decide)) (fun h=>absurd h hc)).mono fun en w' ⟨h1,hb⟩=>by
  unfold ZcQ at h1;rw [if_neg hc] at h1;exact ⟨h1,hb⟩
theorem ZeK (w:World) (q:PlV) (P:Pl) (rs:List (Option Addr×Nat)) (h:PlMem w q P rs) (hs:sizeA P≤262144) (hon:P.on.length≤100) :
 Calls Try.prog 32 #[q.val] w fun en w'=>en=.returned (.int .i64 (sizeA P:Int))∧Below w.heap.size w w' :=
 (ZiO w q P rs h (fun l hl=>by
  unfold sizeA at hs;rcases List.mem_append.1 hl with hl | hl
  · have:=Zco _ _ hl;omega
  · simp at hl;subst hl
    omega) (by omega)).mono fun en w' ⟨s,e,h1,h2,hb⟩=>by
  have h3:s≤262144:=by
   by_cases h9:262144<s
   · simp only [h9,decide_true] at h1;have:=of_decide_eq_true h1.symm;omega
   · omega
  rw [h2 h3] at e;exact ⟨e,hb⟩
def ZbL (P:Pl):Pl:=⟨P.gh,P.vs,P.ts,List.replicate P.on.length [],[]⟩
def TwS (W:World) (B T:Nat) (P:Pl) (g v t:Value) (oa:Option Addr) (co i:Nat):Prop :=
 W.ownsRow B 4 1 g P.gh.length (ZZ P.gh)∧W.ownsRow B 51 3 v P.vs.length (vrs P.vs)∧W.ownsRow B 3 1 t P.ts.length (Zm P.ts)∧(∀k,g.ownBlock=some k∨v.ownBlock=some k∨t.ownBlock=some k∨(Value.slice oa P.on.length co).ownBlock=some k→B≤k∧k<T)∧∃xs,W.ownsRow B 26 1 (.slice oa P.on.length co) P.on.length xs∧∀j,j<i→xs[j]? = some (.slice none 0 0)
section
variable {W W':World} {B T:Nat} {P:Pl} {g v t:Value} {oa:Option Addr} {co i:Nat}
theorem TwS.below (h:TwS W B T P g v t oa co i) {B':Nat} (hb:Below B' W W') (hB:W.heap.size≤B'):TwS W' B T P g v t oa co i:=by
 obtain ⟨h1,h2,h3,h0,xs,h4,h5⟩:=h;exact ⟨Zx h1 hb hB,Zx h2 hb hB,Zx h3 hb hB,h0,xs,Zx h4 hb hB,h5⟩
theorem TwS.far (h:TwS W B T P g v t oa co i) {p:Addr} (hp:p.block<B∨T≤p.block) (u:Value):TwS (W.setCell p u) B T P g v t oa co i:=by
 obtain ⟨h1,h2,h3,h0,xs,h4,h5⟩:=h;exact ⟨ZA h1 (fun e=>by have:=h0 _ (.inl e);omega) u,ZA h2 (fun e=>by have:=h0 _ (.inr (.inl e));omega) u,ZA h3 (fun e=>by have:=h0 _ (.inr (.inr (.inl e)));omega) u,h0,xs,ZA h4 (fun e=>by have:=h0 _ (.inr (.inr (.inr e)));omega) u,h5⟩
theorem TwS.next {go:Nat} (h:TwS W B T P g v t (some ⟨go,0,none⟩) co i) (hi:i<P.on.length):TwS (W.setCell ⟨go,i,none⟩ (.slice none 0 0)) B T P g v t (some ⟨go,0,none⟩) co (i+1):=by
 obtain ⟨h1,h2,h3,h0,xs,h4,h5⟩:=h;have n1:=ZbC h4 h1 (by decide) go rfl;have n2:=ZbC h4 h2 (by decide) go rfl;have n3:=ZbC h4 h3 (by decide) go rfl;refine ⟨ZA h1 n1 _,ZA h2 n2 _,ZA h3 n3 _,h0,_,(World.ownsRow.stored h4 i (.slice none 0 0)).1,fun j hj=>?_⟩;have hxl:=h4.1;rcases Nat.lt_succ_iff_lt_or_eq.1 hj with h9 | h9
 · rw [List.getElem?_set_ne (by omega)];exact h5 j h9
 · subst h9;rw [List.getElem?_set_self (by omega)]
theorem TwS.cell (h:TwS W B T P g v t oa co i) (hi:i<P.on.length):∃go x,oa=some ⟨go,0,none⟩∧W.cell? ⟨go,i,none⟩=some x∧W.frozen? ⟨go,i,none⟩=false∧B≤go∧go<T:=by
 obtain ⟨h1,h2,h3,h0,xs,h4,h5⟩:=h;have hxl:=h4.1;obtain ⟨go,cap,e,_,_⟩:=Zam h4 (by omega);obtain ⟨rfl,_,rfl⟩:=Value.slice.inj e;obtain ⟨x,hx⟩:∃x,xs[i]? = some x:=⟨_,ge_ (by omega)⟩;have:=h0 go (.inr (.inr (.inr rfl)));exact ⟨go,x,rfl,ZhA h4 i x hx,h4.frozenAt i,this.1,this.2⟩
theorem TwS.plan {ga va ta:Option Addr} {gc vc tc:Nat} (h:TwS W B T P (.slice ga P.gh.length gc) (.slice va P.vs.length vc) (.slice ta P.ts.length tc) oa co P.on.length):∃(rs:List (Option Addr×Nat)),PlMem W ⟨ga,va,ta,oa,none,P.gh.length,gc,P.vs.length,vc,P.ts.length,tc,P.on.length,co,0,0⟩ (ZbL P) rs:=by
 obtain ⟨h1,h2,h3,_,xs,h4,h5⟩:=h
 obtain ⟨q,rs,e,hq⟩:=Zhz (P:=ZbL P) (m:=.slice none 0 0) (us:=xs) h1 h2 h3 (by show W.ownsRow B _ 1 _ (List.replicate P.on.length []).length xs;rw [List.length_replicate];exact h4) (fun j l hl=>by
  have hj:=(gs_ hl).1;simp only [ZbL,List.length_replicate] at hj;simp only [ZbL] at hl;rw [List.getElem?_replicate,if_pos hj] at hl;rw [←Option.some.inj hl]
  exact ⟨_,h5 j hj,World.ownsRow_nil _ _ _ _⟩) (World.ownsRow_nil _ _ _ _)
 refine ⟨rs,?_⟩;obtain ⟨a0,a1,a2,a3,a4,b0,b1,b2,b3,b4,b5,b6,b7,b8,b9⟩:=q;simp only [PlV.val,Value.agg.injEq,Array.mk.injEq,List.cons.injEq,Value.slice.injEq,and_true] at e;obtain ⟨⟨rfl,rfl,rfl⟩,⟨rfl,rfl,rfl⟩,⟨rfl,rfl,rfl⟩,⟨rfl,rfl,rfl⟩,rfl,rfl,rfl⟩:=e;exact hq
end
theorem Ziu (w:World) (q:PlV) (P:Pl) (rs:List (Option Addr×Nat)) (h:PlMem w q P rs) (hsz:P.gh.length≤100∧P.vs.length≤100∧P.ts.length≤100∧P.on.length≤100) (hrow:∀l ∈ P.on++[P.ms],l.length≤262144) :
 Calls Try.prog 36 #[q.val] w fun en w'=>∃(ga va ta ma oa:Option Addr) (gc vc tc mc co:Nat),en=.returned (.agg #[.slice ga P.gh.length gc,.slice va P.vs.length vc,.slice ta P.ts.length tc,.slice oa P.on.length co,.slice ma P.ms.length mc])∧TwS w' w.heap.size w'.heap.size P (.slice ga P.gh.length gc) (.slice va P.vs.length vc) (.slice ta P.ts.length tc) oa co 0∧Below w.heap.size w w' :=
 (ZkT P w q rs h hsz.1 hsz.2.1 hsz.2.2.1 hsz.2.2.2 hrow).mono fun en w' ⟨g,v,t,o,m,us,e,h1,h2,h3,h4,h5,h6,hb⟩=>by
  obtain ⟨oa,co,rfl⟩:=Zg h4;obtain ⟨ga,gc,rfl⟩:=Zg h1;obtain ⟨va,vc,rfl⟩:=Zg h2;obtain ⟨ta,tc,rfl⟩:=Zg h3;obtain ⟨ma,mc,rfl⟩:=Zg h6;refine ⟨ga,va,ta,ma,oa,gc,vc,tc,mc,co,e,⟨h1,h2,h3,fun k hk=>?_,us,h4,fun j hj=>absurd hj (Nat.not_lt_zero j)⟩,hb⟩;rcases hk with hk | hk | hk | hk
  · exact h1.lt k hk
  · exact h2.lt k hk
  · exact h3.lt k hk
  · exact h4.lt k hk
theorem ZdK {P:Pl} {R S:Nat→List Ac}:Zag (Zag P R) S=Zag P S:=by
 unfold Zag
 simp
theorem ZjB {P:Pl} (hc:checkV P=0):∃(N N2 N3:Nat→Nat) (R:Nat→List Ac) (Q O:Pl),Zag P R=Q∧Zag P (ZaF P)=O∧Zag Q R=Q∧Zag O R=Q∧checkV Q=0∧checkV O=0∧(∀k,k≤P.on.length→RunTo (N k) (evP P k) (R k))∧(∀k,k≤Q.on.length→RunTo (N2 k) (evP Q k) (R k))∧(∀k,k≤O.on.length→RunTo (N3 k) (evP O k) (R k)) ∧
 sizeA Q≤sizeA O∧sizeA O≤sizeA P∧Zb9 Q=none∧(ZaD P).2.2.2 = !(decide (P.ms=O.ms)&&decide (P.on=O.on)):=by
 obtain ⟨N,R,hR⟩:=Zhu hc;have hoc:=Zmu hc;have hO:checkV (Zag P (ZaF P))=0:=Zfa hc (fun k hk=>(hoc k hk).1) (fun k hk=>(hoc k hk).2);obtain ⟨N',R',hR'⟩:=Zhu hO;obtain ⟨N3,h3⟩:=Zk6 (fun k hk=>(hR k hk).1)
 have heq:∀k,k≤P.on.length→R' k=R k:=fun k hk=>by
  have h1:=(hR' k (by rw [Zax];exact hk)).1;rw [Zd1 hk] at h1;exact (Zme h1 (h3 k hk)).2
 refine ⟨N,fun _=>0,N3,R,Zag P R,Zag P (ZaF P),rfl,rfl,ZdK,ZdK,Zfa hc (fun k hk=>(hR k hk).2.1) (fun k hk=>(hR k hk).2.2.1),hO,fun k hk=>(hR k hk).1,fun k hk=>?_,fun k hk=>?_,?_,ZdZ (fun k hk=>(hoc k hk).2),?_,?_⟩
 · rw [Zax] at hk;rw [Zd1 hk];obtain ⟨h1,h2,h4,h5⟩:=hR k hk;exact .stop (ZdW h2 (Nat.le_trans h4 ((Zbb hc).2 k hk).2)) h5
 · rw [Zax] at hk;rw [Zd1 hk];exact h3 k hk
 · have h9:=ZdZ (P:=Zag P (ZaF P)) (R:=R) (fun k hk=>by
    rw [Zax] at hk;have h8:=(hR' k (by rw [Zax];exact hk)).2.2.1;rw [heq k hk] at h8
    exact h8)
   rwa [ZdK] at h9
 · unfold Zb9;rw [List.findSome?_eq_none_iff];intro k hk;have hk2:k≤P.on.length:=by have:=List.mem_range.1 hk;rw [Zax] at this;omega
   rw [Zd1 hk2,(hR k hk2).2.2.2];rfl
 · unfold ZaD;rw [if_pos hc]
   cases ho:ZcM P with
   | none =>
    rw [ZhF.2 ho,ZjW ho];simp [ZhG]
   | some r =>
    rw [Zjb hc ho]
    cases hl:Zb9 P with
    | none=>rw [ZhF.1 hl] at ho;cases ho
    | some x=>rfl
section
namespace Go.Proofs.Ytdpokdcendgfeaa.opened
open Go.ChangeShapes Go.WideShapes Go.ChangeAt Go.RowKit Go.Deep
section
variable {H:Type} {enc:TypeId×Value→H} {P:Program} {w:World} {base:Nat} {spare:Nat→Bool} {held:Bool}
theorem Zc4 {t e:TypeId} {fs:Array Field} {fuel:Nat} {cs:List Value} {x:DataW H×List MemPlace} (ht:P.underlying t=some (.slice e)) (he:P.underlying e=some (.struct fs))
 (hone:oneCellFields P fs=true) (hC:P.cellsOf e=fs.size) (h:DataW.trod enc P w base spare held fuel t cs=some x) :
 (cs=[.slice none 0 0]∧x=(.nil,[])) ∨
 ∃(a:Addr) (len cap m:Nat) (D:Nat→DataW H) (Pl:Nat→List MemPlace),cs=[.slice (some a) len cap]∧base≤a.block∧len≤cap∧cap≤maxLen∧m=(if spare a.block then cap else len) ∧
  x=(.slice ((List.range len).map D) ((List.range (m - len)).map fun j=>D (len+j)),MemPlace.row a (m*fs.size)++(List.range m).flatMap Pl) ∧
  ∀i,i<m→∃(ys:List (DataW H×List MemPlace)) (n:Nat),D i=.agg (ys.map (·.1))∧Pl i=ys.flatMap (·.2)∧ys.length=fs.size ∧
   ∀(j:Nat) (f:Field),fs[j]? = some f→∃(v:Value) (y:DataW H×List MemPlace),w.cell? (a.add (i*fs.size+j))=some v∧ys[j]? = some y∧DataW.trod enc P w base spare held n f.type [v]=some y:=by
 rcases open_slice ht h with h0 | ⟨a,len,cap,m,n,D,Pl,hcs,hb,hl,hm,hmm,hx,hi⟩
 · exact .inl h0
 · refine .inr ⟨a,len,cap,m,D,Pl,hcs,hb,hl,hm,hmm,by rw [hC] at hx;exact hx,fun i him=>?_⟩;obtain ⟨cs',hc,ht'⟩:=hi i him;rw [hC] at hc;obtain ⟨ys,n',hn',hy,hlen,hyl,hf⟩:=DataW.trod_struct he ht';obtain ⟨_,hcl,hat⟩:=World.cells?_some hc;simp only [Prod.mk.injEq] at hy;refine ⟨ys,n',hy.1,hy.2,hyl,fun j f hj=>?_⟩;obtain ⟨ho,hk⟩:=hone_of hone j f hj;have hjl:j<fs.size:=(Array.getElem?_eq_some_iff.1 hj).1;have hcell:=hat j hjl;have hv:cs'[j]? = some (cs'[j]'(by omega)):=ge_ (by omega);have h1:=hf j f hj;rw [ho,hk] at h1
   have hone':(cs'.drop j).take 1=[cs'[j]'(by omega)]:=by
    rw [List.drop_eq_getElem_cons (by omega)];rfl
   rw [hone'] at h1;have hys:ys[j]? = some (ys[j]'(by omega)):=ge_ (by omega);refine ⟨_,_,?_,hys,h1.trans hys⟩;rw [←Go.Deep.add_add,hcell,hv]
end
section
variable {H:Type} {enc:TypeId×Value→H} {P:Program}
theorem Zg8 {f:Func} {s:ChangeSpec} {apart fresh handsOn again:Bool} {W W':World} {args:Array Value} {v:Value} {ds gs:List (DataW H)} {before pa pv:List MemPlace}
 (hW:DataW.Whole enc P f.params.toList s.vars apart W args.toList ds gs before)
 (hres:∀(b:Nat) (sp:Nat→Bool) (hd:Bool),DataW.TrodAll enc P W' b sp hd f.resultTypes.toList (v.resultList f.resultTypes.size) (s.fn H (ds++gs)).results [])
 (hargs:∀sp:Nat→Bool,(∀p ∈ before,sp p.block=true)→DataW.TrodAll enc P W' 0 sp true f.params.toList args.toList (s.fn H (ds++gs)).args pa)
 (hvars:∀sp:Nat→Bool,(∀p ∈ before,sp p.block=true)→DataW.TrodVars enc P W' sp s.vars (s.fn H (ds++gs)).vars pv)
 (hps:before=pa++pv) (hb:Below W.heap.size W W')
 (hok:∀(j:Nat) (t:TypeId) (r:Value),f.resultTypes[j]? = some t→(v.resultList f.resultTypes.size)[j]? = some r→Value.okWide P W' .any 0 t r) :
 s.post enc P f apart fresh handsOn again W args v W':=by
 have hlt:∀p ∈ before,p.block<W.heap.size:=fun p hp=>hW.lt p hp
 have hold:∀p ∈ before,(fun b=>decide (b<W.heap.size)) p.block=true:=fun p hp=>by simpa using hlt p hp
 refine ⟨ds,gs,before,[],pa,pv,hW,hres _ _ _,hargs _ hold,hvars _ hold,World.keptBut_mono (fun p hp=>⟨hp,?_⟩) (hb.frame (· ∈ before)),fun _=>?_⟩
 · rw [hps,List.mem_append] at hp;exact Or.inr hp
 · obtain ⟨_,_,_,_,_,hz,hn⟩:=hW;refine ⟨hok,_,_,([]++pa)++pv,⟨[]++pa,pv,trodAll_append (hargs _ (fun _ _=>rfl)) (hres _ _ _),hvars _ (fun _ _=>rfl),rfl,?_,?_⟩,?_⟩
   · intro b off hp;have hin:MemPlace.cell b off ∈ before:=by rw [hps];simpa using hp
     rw [hb.frozen (hlt _ hin)];exact hz b off hin
   · intro ha;have:=hn ha;rw [hps] at this;simpa using this
   · intro p hp _;rw [hps];simpa using hp
end
theorem Zc7 {w:World} {a:Addr} {v:Value} (h:w.cell? a=some v):a.block<w.heap.size:=by
 rcases Nat.lt_or_ge a.block w.heap.size with h1 | h1
 · exact h1
 · simp [World.cell?,Array.getElem?_eq_none h1] at h
theorem ZnP:laidOutB Try.prog=true:=by kernel_rfl
theorem ZgE {H:Type} {enc:TypeId×Value→H} {W W':World} {sp:Nat→Bool} (hb:Below W.heap.size W W') :
 ∀ {ts:List TypeId} {vs:List Value} {ds:List (DataW H)} {ps:List MemPlace},(∀t ∈ ts,Try.prog.readableRec t=true∧t<Try.prog.types.size) →
  DataW.TrodAll enc Try.prog W 0 (fun _=>true) true ts vs ds ps→(∀x ∈ ps,x.block<W.heap.size)→(∀p ∈ ps,sp p.block=true)→DataW.TrodAll enc Try.prog W' 0 sp true ts vs ds ps
 | [],[],[],_,_,h,_,_=>h
 | [],_::_,_,_,_,h,_,_=>h.elim
 | [],[],_::_,_,_,h,_,_=>h.elim
 | t::ts,vs,ds,ps,hr,h,hlt,hs=>by
  obtain ⟨v,vs',d,ds',p,q,rfl,rfl,rfl,h0,h1⟩:=trodAll_cons h;have hr0:=hr t (List.mem_cons_self ..)
  exact trodAll_cons_mk (WideElems.Trod_stays ZnP hr0.1 hr0.2 h0 (fun x hx=>hb.same (hlt x (List.mem_append_left _ hx))) (fun x hx=>hs x (List.mem_append_left _ hx)))
   (ZgE hb (fun t ht=>hr t (List.mem_cons_of_mem _ ht)) h1 (fun x hx=>hlt x (List.mem_append_right _ hx)) (fun x hx=>hs x (List.mem_append_right _ hx)))
end Go.Proofs.Ytdpokdcendgfeaa.opened
end
section
namespace Go.Proofs.Ytdpokdcendgfeaa.opened
open Go.ChangeShapes Go.WideShapes Go.ChangeAt Go.RowKit Go.Deep
def Zch {H:Type} (d:DataW H) (n:Nat):Prop:=(d=.nil∧n=0)∨∃es sp,d=.slice es sp∧es.length=n
section
variable {H:Type} {enc:TypeId×Value→H} {w:World} {base:Nat} {held:Bool}
theorem ZfJ {α : Type} [Inhabited α] {t e:TypeId} {fuel:Nat} {c:Value} {x:DataW H×List MemPlace} (ht:Try.prog.underlying t=some (.slice e)) (hc:Try.prog.cellsOf e=1)
 (h:DataW.trod enc Try.prog w base (fun _=>true) held fuel t [c]=some x) (f:α → Value) (kind:∀(V:Value) (n:Nat) (y:DataW H×List MemPlace),DataW.trod enc Try.prog w base (fun _=>true) held n e [V]=some y→∃u,V=f u) :
 ∃oa cap,∃l:List α,c=.slice oa l.length cap∧Src w oa l.length (l.map f)∧l.length≤cap∧cap≤maxLen∧Zch x.1 l.length:=by
 rcases open_slice1 ht hc h with ⟨h0,h1⟩ | ⟨a,len,cap,m,n,V,D,Pl,h0,hb,hl,hm,hmm,h1,hx⟩
 · injection h0 with h0;exact ⟨none,0,[],h0,fun h=>absurd h (by simp),lr_,Nat.zero_le _,.inl ⟨by rw [h1],rfl⟩⟩
 · injection h0 with h0;simp only [if_true] at hmm;obtain ⟨U,hU⟩:=choose_lt (α:=α) (p:=fun i u=>V i=f u) (n:=len) (fun i hi=>kind _ _ _ (hx i (by omega)).2);refine ⟨some a,cap,(List.range len).map U,by rw [h0];simp,fun hp=>?_,by simpa using hl,hm,.inr ⟨_,_,by rw [h1],by simp⟩⟩;have hp:0<len:=by simpa using hp
   refine ⟨a,rfl,?_,fun j v hj=>?_⟩
   · have:=Zc7 (hx 0 (by omega)).1;rwa [Zl] at this
   · have hjl:j<len:=by have:=(gs_ hj).1;simpa using this
     rw [(hx j (by omega)).1,hU j hjl];simpa [hjl] using hj
theorem ZjJ {fuel:Nat} {c:Value} {x:DataW H×List MemPlace} (h:DataW.trod enc Try.prog w base (fun _=>true) held fuel 22 [c]=some x) :
 ∃oa cap,∃l:List Bool,c=.slice oa l.length cap∧Src w oa l.length (ZZ l)∧l.length≤cap∧cap≤maxLen∧Zch x.1 l.length :=
 ZfJ Try.underlying22 (by kernel_rfl) h Value.bool fun V n y hy=>by
  obtain ⟨b,hb,_⟩:=DataW.trod_bool Try.underlying4 hy;exact ⟨b,by simpa using hb⟩
theorem ZkX {fuel:Nat} {c:Value} {x:DataW H×List MemPlace} (h:DataW.trod enc Try.prog w base (fun _=>true) held fuel 24 [c]=some x) :
 ∃oa cap,∃l:List Int,c=.slice oa l.length cap∧Src w oa l.length (Zm l)∧l.length≤cap∧cap≤maxLen∧Zch x.1 l.length :=
 ZfJ Try.underlying24 (by kernel_rfl) h (fun x=>.int .i64 x) fun V n y hy=>by
  obtain ⟨b,hb,_⟩:=DataW.trod_int Try.underlying3 hy;exact ⟨b,by simpa using hb⟩
theorem ZkV {fuel:Nat} {c:Value} {x:DataW H×List MemPlace} (h:DataW.trod enc Try.prog w base (fun _=>true) held fuel 23 [c]=some x) :
 ∃oa cap,∃l:List Vr,c=.slice oa l.length cap∧Src w oa l.length (vrs l)∧l.length≤cap∧cap≤maxLen∧Zch x.1 l.length:=by
 rcases Zc4 Try.underlying23 Try.underlying51 (by kernel_rfl) (by kernel_rfl) h with ⟨h0,h1⟩ | ⟨a,len,cap,m,D,Pl,h0,hb,hl,hm,hmm,h1,hx⟩
 · injection h0 with h0;exact ⟨none,0,[],h0,fun h=>absurd h (by simp),lr_,Nat.zero_le _,.inl ⟨by rw [h1],rfl⟩⟩
 · injection h0 with h0;simp only [if_true] at hmm;have:Inhabited Vr:=⟨⟨0,0,0⟩⟩
   obtain ⟨U,hU⟩:=choose_lt (α:=Vr) (p:=fun i u=>w.cell? (a.add (i*3))=some (.int .i64 u.init)∧w.cell? (a.add (i*3+1))=some (.int .i64 u.lo)∧w.cell? (a.add (i*3+2))=some (.int .i64 u.hi)) (n:=len) (fun i hi=>by
    obtain ⟨ys,k,_,_,_,hf⟩:=hx i (by omega);obtain ⟨v0,y0,c0,_,t0⟩:=hf 0 _ rfl;obtain ⟨v1,y1,c1,_,t1⟩:=hf 1 _ rfl;obtain ⟨v2,y2,c2,_,t2⟩:=hf 2 _ rfl;obtain ⟨n0,e0,_⟩:=DataW.trod_int Try.underlying3 t0;obtain ⟨n1,e1,_⟩:=DataW.trod_int Try.underlying3 t1;obtain ⟨n2,e2,_⟩:=DataW.trod_int Try.underlying3 t2;injection e0 with e0;injection e1 with e1;injection e2 with e2;subst e0 e1 e2
    exact ⟨⟨n0,n1,n2⟩,c0,c1,c2⟩)
   refine ⟨some a,cap,(List.range len).map U,by rw [h0];simp,fun hp=>?_,by simpa using hl,hm,.inr ⟨_,_,by rw [h1],by simp⟩⟩;have hp:0<len:=by simpa using hp
   refine ⟨a,rfl,?_,fun j v hj=>?_⟩
   · have:=Zc7 (hU 0 hp).1;rwa [Zl] at this
   · have hjl:j<len*3:=by
      have:=(gs_ hj).1
      have hlen:∀l:List Vr,(vrs l).length=l.length*3:=fun l=>by
       induction l with
       | nil=>rfl
       | cons x l ih=>simp only [vrs,List.map_cons,List.flatten_cons,List.length_append,List.length_cons] at ih ⊢;rw [ih];simp [Vr.cells];omega
      rw [hlen] at this;simpa using this
     have hy:((List.range len).map U)[j / 3]? = some (U (j / 3)):=by rw [List.getElem?_map,List.getElem?_range (by omega)];rfl
     have hz:=fun k hk=>Zhl _ _ k _ hy hk
     obtain ⟨d0,d1,d2⟩:=hU (j / 3) (by omega);obtain h3 | h3 | h3:j=j / 3*3∨j=j / 3*3+1∨j=j / 3*3+2:=by omega
     · rw [h3] at hj ⊢;have:=hz 0 (by omega);rw [Nat.add_zero] at this;rw [this] at hj;rw [d0];exact hj
     · rw [h3] at hj ⊢;rw [hz 1 (by omega)] at hj;rw [d1];exact hj
     · rw [h3] at hj ⊢;rw [hz 2 (by omega)] at hj;rw [d2];exact hj
theorem Zhq {fuel:Nat} {c:Value} {x:DataW H×List MemPlace} (h:DataW.trod enc Try.prog w base (fun _=>true) held fuel 26 [c]=some x) :
 ∃oa cap,∃l:List Ac,c=.slice oa l.length cap∧Src w oa l.length (acs l)∧l.length≤cap∧cap≤maxLen∧Zch x.1 l.length:=by
 rcases Zc4 Try.underlying26 Try.underlying49 (by kernel_rfl) (by kernel_rfl) h with ⟨h0,h1⟩ | ⟨a,len,cap,m,D,Pl,h0,hb,hl,hm,hmm,h1,hx⟩
 · injection h0 with h0;exact ⟨none,0,[],h0,fun h=>absurd h (by simp),lr_,Nat.zero_le _,.inl ⟨by rw [h1],rfl⟩⟩
 · injection h0 with h0;simp only [if_true] at hmm;have:Inhabited Ac:=⟨⟨0,0,0,0,0,0⟩⟩
   obtain ⟨U,hU⟩:=choose_lt (α:=Ac) (p:=fun i u=>w.cell? (a.add (i*6))=some (.int .i64 u.k)∧w.cell? (a.add (i*6+1))=some (.int .i64 u.a)∧w.cell? (a.add (i*6+2))=some (.int .i64 u.b)∧w.cell? (a.add (i*6+3))=some (.int .i64 u.c)∧w.cell? (a.add (i*6+4))=some (.int .i64 u.d)∧w.cell? (a.add (i*6+5))=some (.int .i64 u.n)) (n:=len) (fun i hi=>by
    obtain ⟨ys,k,_,_,_,hf⟩:=hx i (by omega);obtain ⟨v0,y0,c0,_,t0⟩:=hf 0 _ rfl;obtain ⟨v1,y1,c1,_,t1⟩:=hf 1 _ rfl;obtain ⟨v2,y2,c2,_,t2⟩:=hf 2 _ rfl;obtain ⟨v3,y3,c3,_,t3⟩:=hf 3 _ rfl;obtain ⟨v4,y4,c4,_,t4⟩:=hf 4 _ rfl;obtain ⟨v5,y5,c5,_,t5⟩:=hf 5 _ rfl;obtain ⟨n0,e0,_⟩:=DataW.trod_int Try.underlying3 t0;obtain ⟨n1,e1,_⟩:=DataW.trod_int Try.underlying3 t1;obtain ⟨n2,e2,_⟩:=DataW.trod_int Try.underlying3 t2;obtain ⟨n3,e3,_⟩:=DataW.trod_int Try.underlying3 t3;obtain ⟨n4,e4,_⟩:=DataW.trod_int Try.underlying3 t4;obtain ⟨n5,e5,_⟩:=DataW.trod_int Try.underlying3 t5;injection e0 with e0;injection e1 with e1;injection e2 with e2;injection e3 with e3;injection e4 with e4;injection e5 with e5;subst e0 e1 e2 e3 e4 e5
    exact ⟨⟨n0,n1,n2,n3,n4,n5⟩,c0,c1,c2,c3,c4,c5⟩)
   refine ⟨some a,cap,(List.range len).map U,by rw [h0];simp,fun hp=>?_,by simpa using hl,hm,.inr ⟨_,_,by rw [h1],by simp⟩⟩;have hp:0<len:=by simpa using hp
   refine ⟨a,rfl,?_,fun j v hj=>?_⟩
   · have:=Zc7 (hU 0 hp).1;rwa [Zl] at this
   · have hjl:j<len*6:=by
      have:=(gs_ hj).1
      have hlen:∀l:List Ac,(acs l).length=l.length*6:=fun l=>by
       induction l with
       | nil=>rfl
       | cons x l ih=>simp only [acs,List.map_cons,List.flatten_cons,List.length_append,List.length_cons] at ih ⊢;rw [ih];simp [Ac.cells];omega
      rw [hlen] at this;simpa using this
     have hy:((List.range len).map U)[j / 6]? = some (U (j / 6)):=by rw [List.getElem?_map,List.getElem?_range (by omega)];rfl
     have hz:=fun k hk=>Zh9 _ _ k _ hy hk
     obtain ⟨d0,d1,d2,d3,d4,d5⟩:=hU (j / 6) (by omega);obtain h3 | h3 | h3 | h3 | h3 | h3:j=j / 6*6∨j=j / 6*6+1∨j=j / 6*6+2∨j=j / 6*6+3∨j=j / 6*6+4∨j=j / 6*6+5:=by omega
     · rw [h3] at hj ⊢;have:=hz 0 (by omega);rw [Nat.add_zero] at this;rw [this] at hj;rw [d0];exact hj
     · rw [h3] at hj ⊢;rw [hz 1 (by omega)] at hj;rw [d1];exact hj
     · rw [h3] at hj ⊢;rw [hz 2 (by omega)] at hj;rw [d2];exact hj
     · rw [h3] at hj ⊢;rw [hz 3 (by omega)] at hj;rw [d3];exact hj
     · rw [h3] at hj ⊢;rw [hz 4 (by omega)] at hj;rw [d4];exact hj
     · rw [h3] at hj ⊢;rw [hz 5 (by omega)] at hj;rw [d5];exact hj
def Zl1 {H:Type} (d:DataW H) (ls:List (List Ac)):Prop:=(d=.nil∧ls=[])∨∃es sp,d=.slice es sp∧es.length=ls.length∧∀(i:Nat) (l:List Ac),ls[i]? = some l→∃e,es[i]? = some e∧Zch e l.length
theorem ZjL (n:Nat) (f:Nat→Option Addr×Nat×List Ac):slv ((List.range n).map fun i=>((f i).1,(f i).2.1)) ((List.range n).map fun i=>(f i).2.2)=(List.range n).map fun i=>.slice (f i).1 (f i).2.2.length (f i).2.1:=by
 have:∀l:List Nat,slv (l.map fun i=>((f i).1,(f i).2.1)) (l.map fun i=>(f i).2.2)=l.map fun i=>.slice (f i).1 (f i).2.2.length (f i).2.1:=fun l=>by
  induction l with
  | nil=>rfl
  | cons x l ih=>simp only [List.map_cons,slv,ih]
 exact this _
theorem Zi0 {fuel:Nat} {c:Value} {x:DataW H×List MemPlace} (h:DataW.trod enc Try.prog w base (fun _=>true) held fuel 25 [c]=some x) :
 ∃oa cap,∃(rs:List (Option Addr×Nat)) (ls:List (List Ac)),c=.slice oa ls.length cap∧Src w oa ls.length (slv rs ls)∧ZaW w rs ls∧ls.length≤cap∧cap≤maxLen∧Zl1 x.1 ls:=by
 rcases open_slice1 Try.underlying25 (by kernel_rfl) h with ⟨h0,h1⟩ | ⟨a,len,cap,m,n,V,D,Pl,h0,hb,hl,hm,hmm,h1,hx⟩
 · injection h0 with h0;exact ⟨none,0,[],[],h0,fun h=>absurd h (by simp),⟨rfl,fun i oa c l h=>by simp at h⟩,lr_,Nat.zero_le _,.inl ⟨by rw [h1],rfl⟩⟩
 · injection h0 with h0;simp only [if_true] at hmm;have:Inhabited (Option Addr×Nat×List Ac):=⟨(none,0,[])⟩
   obtain ⟨U,hU⟩:=choose_lt (α:=Option Addr×Nat×List Ac) (p:=fun i u=>V i=.slice u.1 u.2.2.length u.2.1∧Src w u.1 u.2.2.length (acs u.2.2)∧u.2.2.length≤u.2.1∧u.2.1≤maxLen∧Zch (D i) u.2.2.length) (n:=len) (fun i hi=>by
    obtain ⟨oa,cp,l,e1,e2,e3,e4,e5⟩:=Zhq (hx i (by omega)).2
    exact ⟨(oa,cp,l),e1,e2,e3,e4,e5⟩)
   have hg1:∀i,i<len→((List.range len).map fun i=>((U i).1,(U i).2.1))[i]? = some ((U i).1,(U i).2.1):=fun i hi=>by rw [List.getElem?_map,List.getElem?_range hi];rfl
   have hg2:∀i,i<len→((List.range len).map fun i=>(U i).2.2)[i]? = some (U i).2.2:=fun i hi=>by rw [List.getElem?_map,List.getElem?_range hi];rfl
   refine ⟨some a,cap,(List.range len).map fun i=>((U i).1,(U i).2.1),(List.range len).map fun i=>(U i).2.2,by rw [h0];simp,fun hp=>?_,⟨by simp,fun i oa c l e1 e2=>?_⟩,by simpa using hl,hm,.inr ⟨_,_,by rw [h1],by simp,fun i l hl=>?_⟩⟩
   · have hp:0<len:=by simpa using hp
     refine ⟨a,rfl,?_,fun j v hj=>?_⟩
     · have:=Zc7 (hx 0 (by omega)).1;rwa [Zl] at this
     · rw [ZjL] at hj;have hjl:j<len:=by have:=(gs_ hj).1;simpa using this
       rw [(hx j (by omega)).1,(hU j hjl).1];simpa [hjl] using hj
   · have hi:i<len:=by have:=(gs_ e1).1;simpa using this
     rw [hg1 i hi] at e1;rw [hg2 i hi] at e2;injection e1 with e1;injection e2 with e2;injection e1 with e3 e4;subst e2 e3 e4;exact ⟨(hU i hi).2.1,(hU i hi).2.2.1,(hU i hi).2.2.2.1⟩
   · have hi:i<len:=by have:=(gs_ hl).1;simpa using this
     rw [hg2 i hi] at hl;injection hl with hl;subst hl;refine ⟨D i,by rw [List.getElem?_map,List.getElem?_range hi];rfl,(hU i hi).2.2.2.2⟩
end
def Zl0 {H:Type} (d:DataW H) (P:Pl):Prop:=∃dg dv dt dn dm,d=.agg [dg,dv,dt,dn,dm]∧Zch dg P.gh.length∧Zch dv P.vs.length∧Zch dt P.ts.length∧Zl1 dn P.on∧Zch dm P.ms.length
theorem ZjV {H:Type} {enc:TypeId×Value→H} {W:World} {r:Reach} {b0:Nat} {v:Value} {d:DataW H} {p:List MemPlace} (hv:Value.okWide Try.prog W r b0 28 v)
 (h:DataW.Trod enc Try.prog W 0 (fun _=>true) true 28 v d p):∃q P rs,v=PlV.val q∧PlMem W q P rs∧Zl0 d P:=by
 obtain ⟨fuel,hf⟩:=h;obtain ⟨cs,rfl,hsz⟩:=okWide_struct Try.underlying28 hv;obtain ⟨ys,n,_,hd,hl,hyl,hfs⟩:=DataW.trod_struct Try.underlying28 hf;have h28:Try.prog.cellsOf 28=5:=by kernel_rfl
 obtain ⟨c0,c1,c2,c3,c4,rfl⟩:∃c0 c1 c2 c3 c4,cs=#[c0,c1,c2,c3,c4]:=by
  rcases cs with ⟨l⟩;have hl6:l.length=5:=by rw [←h28,←hsz];rfl
  match l,hl6 with
  | [c0,c1,c2,c3,c4],_=>exact ⟨c0,c1,c2,c3,c4,rfl⟩
 have hyl5:ys.length=5:=hyl
 obtain ⟨y0,y1,y2,y3,y4,rfl⟩:∃y0 y1 y2 y3 y4,ys=[y0,y1,y2,y3,y4]:=by
  match ys,hyl5 with
  | [c0,c1,c2,c3,c4],_=>exact ⟨c0,c1,c2,c3,c4,rfl⟩
 have f0:DataW.trod enc Try.prog W 0 (fun _=>true) true n 22 [c0]=some y0:=(hfs 0 _ rfl).trans rfl;have f1:DataW.trod enc Try.prog W 0 (fun _=>true) true n 23 [c1]=some y1:=(hfs 1 _ rfl).trans rfl;have f2:DataW.trod enc Try.prog W 0 (fun _=>true) true n 24 [c2]=some y2:=(hfs 2 _ rfl).trans rfl;have f3:DataW.trod enc Try.prog W 0 (fun _=>true) true n 25 [c3]=some y3:=(hfs 3 _ rfl).trans rfl;have f4:DataW.trod enc Try.prog W 0 (fun _=>true) true n 26 [c4]=some y4:=(hfs 4 _ rfl).trans rfl;obtain ⟨ga,gc,gl,rfl,sg,g1,g2,g3⟩:=ZjJ f0;obtain ⟨va,vc,vl,rfl,sv,v1,v2,v3⟩:=ZkV f1;obtain ⟨ta,tc,tl,rfl,st,t1,t2,t3⟩:=ZkX f2;obtain ⟨oa,oc,rs,ol,rfl,so,se,o1,o2,o3⟩:=Zi0 f3;obtain ⟨ma,mc,ml,rfl,sm,m1,m2,m3⟩:=Zhq f4;injection hd with hd hp;refine ⟨⟨ga,va,ta,oa,ma,gl.length,gc,vl.length,vc,tl.length,tc,ol.length,oc,ml.length,mc⟩,⟨gl,vl,tl,ol,ml⟩,rs,rfl,⟨rfl,rfl,rfl,rfl,rfl,sg,sv,st,so,⟨by simp [se.1],fun i oa' c l e1 e2=>?_⟩,Nat.le_trans g1 g2,Nat.le_trans v1 v2,Nat.le_trans t1 t2,Nat.le_trans o1 o2⟩,⟨_,_,_,_,_,hd,g3,v3,t3,o3,m3⟩⟩
 by_cases hi:i<ol.length
 · rw [List.getElem?_append_left (by rw [se.1];exact hi)] at e1;rw [List.getElem?_append_left hi] at e2;exact se.2 i oa' c l e1 e2
 · have hi2:i<ol.length+1:=by have h9:=(gs_ e2).1;simpa using h9
   have hi3:i=ol.length:=Nat.le_antisymm (Nat.lt_succ_iff.1 hi2) (Nat.le_of_not_lt hi);subst hi3;rw [List.getElem?_append_right (by rw [se.1];exact lr_)] at e1;rw [List.getElem?_append_right lr_] at e2;simp [se.1] at e1 e2;obtain ⟨rfl,rfl⟩:=e1;subst e2;exact ⟨sm,m1,m2⟩
end Go.Proofs.Ytdpokdcendgfeaa.opened
end
section
namespace Go.Proofs.Ytdpokdcendgfeaa.opened
open Go.ChangeShapes Go.WideShapes Go.ChangeAt Go.RowKit Go.Deep
section
variable {H:Type}
theorem Zfb {P:Program} {e:TypeId}:∀ {l:List (DataW H)} {d:DataW H},d ∈ l→∀n ∈ d.weights P e,n ∈ DataW.weightsAll P e l
 | x::l,d,hd,n,hn=>by
  unfold DataW.weightsAll;rw [List.mem_append];rcases List.mem_cons.1 hd with rfl | h
  · exact .inl hn
  · exact .inr (Zfb h n hn)
theorem Zdk {t e:TypeId} {d:DataW H} {n b:Nat} (hu:Try.prog.underlying t=some (.slice e)) (hb:Try.prog.bytesOf e=b) (h:Zch d n) (hw:∀x ∈ d.weights Try.prog t,x≤reachBytes):n*b≤reachBytes:=by
 rcases h with ⟨_,rfl⟩ | ⟨es,sp,rfl,rfl⟩
 · simp
 · have h1:=hw ((es.length+sp.length)*Try.prog.bytesOf e) (by simp [DataW.weights,hu]);rw [hb,Nat.add_mul] at h1;omega
theorem ZkF:Try.prog.bytesOf 49=48:=by kernel_rfl
theorem Znx:Try.prog.bytesOf 26=24:=by kernel_rfl
theorem Zi5 {d:DataW H} {P:Pl} (h:Zl0 d P) (hw:(DataW.weightsEach Try.prog [28] [d]).all (· ≤ reachBytes)=true):(∀l ∈ P.on++[P.ms],l.length≤4398046511104)∧P.on.length≤8796093022208:=by
 obtain ⟨dg,dv,dt,dn,dm,rfl,_,_,_,hn,hm⟩:=h
 have hall:∀x ∈ (DataW.agg [dg,dv,dt,dn,dm]:DataW H).weights Try.prog 28,x≤reachBytes:=fun x hx=>by
  have h1:=DataW.weights_mem_each (ts:=[28]) (ds:=[DataW.agg [dg,dv,dt,dn,dm]]) (j:=0) rfl rfl x hx;exact of_decide_eq_true (List.all_eq_true.1 hw x h1)
 simp only [DataW.weights,Try.underlying28] at hall;have hm4:∀x ∈ dm.weights Try.prog 26,x≤reachBytes:=fun x hx=>hall x (DataW.weights_mem_each (j:=4) rfl rfl x hx)
 have hn3:∀x ∈ dn.weights Try.prog 25,x≤reachBytes:=fun x hx=>hall x (DataW.weights_mem_each (j:=3) rfl rfl x hx)
 have h4:=Zdk Try.underlying26 ZkF hm hm4;have hr:reachBytes=140737488351232:=by decide
 rw [hr] at h4;rcases hn with ⟨_,hnil⟩ | ⟨es,sp,rfl,hlen,hes⟩
 · rw [hnil];refine ⟨fun l hl=>?_,by simp⟩;simp at hl;rw [hl];omega
 · have h3:=Zdk (d:=DataW.slice es sp) Try.underlying25 Znx (.inr ⟨es,sp,rfl,rfl⟩) hn3;rw [hr,hlen] at h3;refine ⟨fun l hl=>?_,by omega⟩;rcases List.mem_append.1 hl with h5 | h5
   · obtain ⟨i,hi⟩:=List.getElem?_of_mem h5;obtain ⟨e,he,hse⟩:=hes i l hi
     have h6:=Zdk Try.underlying26 ZkF hse (fun x hx=>hn3 x (by
      simp only [DataW.weights,Try.underlying25,List.mem_cons,List.mem_append]
      exact .inr (.inl (Zfb (List.mem_of_getElem? he) x hx))))
     rw [hr] at h6;omega
   · simp at h5;rw [h5];omega
end
end Go.Proofs.Ytdpokdcendgfeaa.opened
end
end Go.Proofs.Ytdpokdcendgfeaa
