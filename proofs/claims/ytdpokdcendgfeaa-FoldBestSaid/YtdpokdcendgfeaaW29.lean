/- Several texts in one: The reference's look at a row of a right event. The reference's optimiser: of, Left. Plain law: what fold.Left tells of a right plan is what the reference's Left tells. A plan that is lent is a plan in memory. Conditions: those of each. -/
import Derived.Test.YtdpokdcendgfeaaW22
import Derived.Test.YtdpokdcendgfeaaW26
import Derived.Test.YtdpokdcendgfeaaW28
import Derived.Test.YtdpokdcendgfeaaW24
set_option linter.unusedSimpArgs false
set_option linter.unusedVariables false
set_option maxHeartbeats 80000000
set_option maxRecDepth 100000
namespace Go.Proofs.Ytdpokdcendgfeaa
open Go.RowKit
section
variable {P:Pl} {l:List Ac}
theorem RowW.rin {f:Nat} {what:Int} {i e:Nat} (R:RowW P l f what i e):RowIn l i:=⟨by have:=R.lt;have:=R.le;omega,by rw [R.ee];exact ⟨R.lt,R.le⟩⟩
end
theorem Zco:∀(ls:List (List Ac)) (l:List Ac),l ∈ ls→l.length≤Zh ls
 | [],l,h=>by cases h
 | k::ls,l,h=>by
  have e:Zh (k::ls)=k.length+Zh ls:=by simp [Zh]
  rw [e];rcases List.mem_cons.1 h with rfl | h
  · omega
  · have:=Zco ls l h;omega
theorem Zbb {P:Pl} (h:checkV P=0):P.on.length≤16∧∀k,k≤P.on.length→Zy P (evP P k)=true∧(evP P k).length≤131072:=by
 unfold checkV at h;split at h
 · next hc =>
   simp only [Bool.and_eq_true,decide_eq_true_eq] at hc;obtain ⟨⟨⟨⟨⟨⟨⟨h1,h2⟩,h3⟩,h4⟩,h5⟩,h6⟩,h7⟩,h8⟩:=hc;refine ⟨by omega,fun k hk=>?_⟩;have hlen:(P.on++[P.ms]).length=P.on.length+1:=by simp
   obtain ⟨l,hl⟩:∃l,(P.on++[P.ms])[k]? = some l:=⟨_,ge_ (by omega)⟩;have he:evP P k=l:=by unfold evP;rw [hl];rfl
   have hm:=List.mem_of_getElem? hl;rw [he];refine ⟨(List.all_eq_true.1 h8) l hm,?_⟩;have hle:=Zco _ l hm;omega
 · cases h
theorem LentQ.below {w w':World} {B gg gv gt go gm cg cv ct co cm:Nat} {es:List Nat} {us:List Value} {P:Pl} (h:LentQ w B gg gv gt go gm cg cv ct co cm es us P) (hb:Below w.heap.size w w'):LentQ w' B gg gv gt go gm cg cv ct co cm es us P :=
 ⟨h.g.below hb,h.v.below hb,h.t.below hb,h.m.below hb,Zx h.o hb lr_,h.l,fun j l hj=>by
  obtain ⟨e,c,a,b,d⟩:=h.r j l hj
  exact ⟨e,c,a,b,d.below hb⟩,h.ne,h.nm⟩
def Zdx:Value→Option Addr×Nat
 | .slice oa _ c=>(oa,c)
 | _=>(none,0)
theorem LentQ.plan {w:World} {B gg gv gt go gm cg cv ct co cm:Nat} {es:List Nat} {us:List Value} {P:Pl} (h:LentQ w B gg gv gt go gm cg cv ct co cm es us P) :
 PlMem w ⟨some ⟨gg,0,none⟩,some ⟨gv,0,none⟩,some ⟨gt,0,none⟩,some ⟨go,0,none⟩,some ⟨gm,0,none⟩,P.gh.length,cg,P.vs.length,cv,P.ts.length,ct,P.on.length,co,P.ms.length,cm⟩ P (us.map Zdx):=by
 have hul:us.length=P.on.length:=by have:=h.o.1;omega
 have hsl:∀(j:Nat) (v:Value),(slv (us.map Zdx) P.on)[j]? = some v→us[j]? = some v:=fun j v hv=>by
  have hj:j<P.on.length:=by
   have:=(gs_ hv).1;rw [ZaU _ _ (by simp [hul])] at this;exact this
  obtain ⟨l,hl⟩:∃l,P.on[j]? = some l:=⟨_,ge_ hj⟩;obtain ⟨e,c,_,hu,_⟩:=h.r j l hl;have h9:=ZaS (us.map Zdx) P.on j (some ⟨e,0,none⟩,c) l (by rw [List.getElem?_map,hu];rfl) hl;rw [hv] at h9;injection h9 with h9;rw [h9];exact hu
 have hmx:∀ {tE:TypeId} {sz g n c:Nat} {xs:List Value},LentR w B tE sz g n c xs→n≤maxLen:=fun h=>by
  have:=h.c;have:=h.m;omega
 refine ⟨rfl,rfl,rfl,rfl,rfl,h.g.src _,h.v.src _,LentR.src (ys:=[.int .i64 (-77)]) (by rw [←ZeE];exact h.t) _,fun h0=>?_,⟨by simp [hul],fun i oa c l h1 h2=>?_⟩,hmx h.g,hmx h.v,hmx h.t,?_⟩
 · obtain ⟨ad,e,h1,h2⟩:=Zak h.o h0;exact ⟨ad,e,h1,fun j v hv=>h2 j v (hsl j v hv)⟩
 · rcases Nat.lt_or_ge i P.on.length with hi | hi
   · rw [List.getElem?_append_left (by simp [hul];exact hi),List.getElem?_map] at h1;rw [List.getElem?_append_left hi] at h2;obtain ⟨e,c',_,hu,hr⟩:=h.r i l h2;rw [hu] at h1;simp only [Option.map_some,Zdx,Option.some.injEq,Prod.mk.injEq] at h1;obtain ⟨rfl,rfl⟩:=h1;refine ⟨LentR.src (ys:=acs [(⟨-77,0,0,0,0,0⟩:Ac)]) (by rw [←Ze7];exact hr) _,?_,hr.m⟩;have:=hr.c;omega
   · have hil:i=P.on.length:=by
      have:=(gs_ h2).1;simp at this;omega
     subst hil;rw [List.getElem?_append_right (by simp [hul])] at h1;rw [List.getElem?_append_right lr_] at h2;simp only [List.length_map,hul,Nat.sub_self,List.getElem?_cons_zero,Option.some.injEq,Prod.mk.injEq] at h1 h2;obtain ⟨rfl,rfl⟩:=h1;subst h2;refine ⟨LentR.src (ys:=acs [(⟨-77,0,0,0,0,0⟩:Ac)]) (by rw [←Ze7];exact h.m) _,?_,h.m.m⟩;have:=h.m.c;omega
 · rcases Nat.eq_zero_or_pos P.on.length with h0 | h0
   · rw [h0];exact Nat.zero_le _
   · obtain ⟨g,cap,e,h1,h2⟩:=Zam h.o h0;omega
theorem Zkq {P:Pl} (h:Zc3 P=false):(P.gh.length≤100∧P.vs.length≤100∧P.ts.length≤100∧P.on.length≤100)∧∀l ∈ P.on++[P.ms],l.length≤262144:=by
 unfold Zc3 at h;simp only [Bool.or_eq_false_iff,decide_eq_false_iff_not] at h;obtain ⟨h1,h2,h3,h4,h5⟩:=h;refine ⟨by omega,fun l hl=>?_⟩;unfold sizeA at h5;rcases List.mem_append.1 hl with hl | hl
 · have:=Zco _ _ hl;omega
 · simp at hl;subst hl;omega
end Go.Proofs.Ytdpokdcendgfeaa
