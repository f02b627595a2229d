/- Several texts in one: rule.Twin: words for memory, and its regions that draw their order. rule.Twin: what its loop keeps. The walk of rule.Twin. Conditions: those of each. -/
import Derived.Test.YtdpokdcendgfeaaW2
import Derived.Test.YtdpokdcendgfeaaW3b
import Derived.Test.YtdpokdcendgfeaaW5
set_option linter.unusedSimpArgs false
set_option linter.unusedVariables false
set_option maxHeartbeats 80000000
set_option maxRecDepth 100000
namespace Go.Proofs.Ytdpokdcendgfeaa
open Go.RowKit
theorem Zix {w:World} {base:Nat} {e:TypeId} {size n:Nat} {u:Value} {xs:List Value} {o:Obj} (h:w.ownsRow base e size u n xs):(w.alloc o).ownsRow base e size u n xs :=
 Zbq h (fun k hk=>Below.heap_alloc w o k (h.lt k hk).2)
theorem ZeJ {w:World} {g:Nat} {t:TypeId} {a b c d e:Value} (h:Blk w g t #[a,b,c,d,e]):w.cell? ⟨g,0,none⟩=some a∧w.cell? ⟨g,1,none⟩=some b∧w.cell? ⟨g,2,none⟩=some c∧w.cell? ⟨g,3,none⟩=some d∧w.cell? ⟨g,4,none⟩=some e ∧
 w.frozen? ⟨g,0,none⟩=false∧w.frozen? ⟨g,1,none⟩=false∧w.frozen? ⟨g,2,none⟩=false∧w.frozen? ⟨g,3,none⟩=false∧w.frozen? ⟨g,4,none⟩=false :=
 ⟨by rw [h.cell];rfl,by rw [h.cell];rfl,by rw [h.cell];rfl,by rw [h.cell];rfl,by rw [h.cell];rfl,h.frozen 0,h.frozen 1,h.frozen 2,h.frozen 3,h.frozen 4⟩
theorem bools_one (l:List Bool):∀u ∈ ZZ l,u.oneCell'=true:=by
 intro u h;simp only [ZZ,List.mem_map] at h;obtain ⟨x,_,rfl⟩:=h;rfl
theorem Zkf (l:List Int):∀u ∈ Zm l,u.oneCell'=true:=by
 intro u h;simp only [Zm,List.mem_map] at h;obtain ⟨x,_,rfl⟩:=h;rfl
theorem vrs_one (l:List Vr):∀u ∈ vrs l,u.oneCell'=true:=by
 intro u h;simp only [vrs,List.mem_flatten,List.mem_map] at h;obtain ⟨_,⟨x,_,rfl⟩,h⟩:=h;simp [Vr.cells] at h;rcases h with rfl | rfl | rfl <;> rfl
theorem ZiP (l:List Ac):∀u ∈ acs l,u.oneCell'=true:=by
 intro u h;simp only [acs,List.mem_flatten,List.mem_map] at h;obtain ⟨_,⟨x,_,rfl⟩,h⟩:=h;simp [Ac.cells] at h;rcases h with rfl | rfl | rfl | rfl | rfl | rfl <;> rfl
theorem Zg2 (l:List Bool):(ZZ l).length=l.length*1:=by simp [ZZ]
theorem ZgZ (l:List Int):(Zm l).length=l.length*1:=by simp [Zm]
theorem Zit (l:List Vr):(vrs l).length=l.length*3:=by
 induction l with
 | nil=>rfl
 | cons x l ih=>simp only [vrs,List.map_cons,List.flatten_cons,List.length_append,List.length_cons] at ih ⊢;rw [ih];simp [Vr.cells];omega
theorem Ze6 (l:List Ac):(acs l).length=l.length*6:=by
 induction l with
 | nil=>rfl
 | cons x l ih=>simp only [acs,List.map_cons,List.flatten_cons,List.length_append,List.length_cons] at ih ⊢;rw [ih];simp [Ac.cells];omega
abbrev Zgj:Array Value:=#[.slice none 0 0,.slice none 0 0,.slice none 0 0,.slice none 0 0,.slice none 0 0]
def K1 (p:Nat) (g v t m:Value):Nat→Option Value
 | 0=>some (.pointer (some ⟨p,0,none⟩))
 | 1=>some g
 | 3=>some (.pointer (some ⟨p,1,none⟩))
 | 4=>some v
 | 6=>some (.pointer (some ⟨p,2,none⟩))
 | 7=>some t
 | 9=>some (.pointer (some ⟨p,4,none⟩))
 | 10=>some m
 | _=>none
structure J1 (W1:World) (P:Pl) (p:Nat) (g v t m:Value) (S:Nat→Bool) (vs:Nat→Value) (w:World):Prop where
 k:∀i c,K1 p g v t m i=some c→S i=true→vs i=c
 b:Below W1.heap.size W1 w
 s2:S 2=true→w.ownsRow W1.heap.size 4 1 (vs 2) P.gh.length (ZZ P.gh)
 s5:S 5=true→w.ownsRow W1.heap.size 51 3 (vs 5) P.vs.length (vrs P.vs)
 s8:S 8=true→w.ownsRow W1.heap.size 3 1 (vs 8) P.ts.length (Zm P.ts)
 s11:S 11=true→w.ownsRow W1.heap.size 49 6 (vs 11) P.ms.length (acs P.ms)
 s12:S 12=true→vs 12=.agg #[vs 2,vs 5,vs 8,.slice none 0 0,vs 11]
 s13:S 13=true→∃q,vs 13=.pointer (some ⟨q,0,none⟩)∧W1.heap.size≤q∧(S 14=false→Blk w q 28 Zgj)∧(S 14=true→Blk w q 28 #[vs 2,vs 5,vs 8,.slice none 0 0,vs 11])
section
variable {W1 w w':World} {P:Pl} {p:Nat} {g v t m c u:Value} {S:Nat→Bool} {vs:Nat→Value} {j:Nat}
theorem J1.kn (h:J1 W1 P p g v t m S vs w) {j:Nat} {c:Value} (hj:∀d,K1 p g v t m j=some d→c=d):∀i d,K1 p g v t m i=some d→upn S j true i=true→upn vs j c i=d:=by
 intro i d hk hS
 by_cases hkj:i=j
 · subst hkj;rw [Ze];exact hj d hk
 · rw [Zd hkj] at hS ⊢;exact h.k i d hk hS
theorem J1.step (h:J1 W1 P p g v t m S vs w) (hS:S 14=false) (hj:j≠14) (hk:∀d,K1 p g v t m j=some d→u=d) (hb:Below w.heap.size w w')
 (n2:j=2→w'.ownsRow W1.heap.size 4 1 u P.gh.length (ZZ P.gh)) (n5:j=5→w'.ownsRow W1.heap.size 51 3 u P.vs.length (vrs P.vs)) (n8:j=8→w'.ownsRow W1.heap.size 3 1 u P.ts.length (Zm P.ts)) (n11:j=11→w'.ownsRow W1.heap.size 49 6 u P.ms.length (acs P.ms))
 (n12:(j=12→u=.agg #[vs 2,vs 5,vs 8,.slice none 0 0,vs 11])∧(S 12=true→j≠2∧j≠5∧j≠8∧j≠11)) (n13:j=13→∃q,u=.pointer (some ⟨q,0,none⟩)∧W1.heap.size≤q∧Blk w' q 28 Zgj):J1 W1 P p g v t m (upn S j true) (upn vs j u) w':=by
 have hlow:∀ {e:TypeId} {size n:Nat} {x:Value} {xs:List Value},w.ownsRow W1.heap.size e size x n xs→w'.ownsRow W1.heap.size e size x n xs:=fun h9=>Zx h9 hb lr_
 have h14:upn S j true 14=false:=by rw [Zd (Ne.symm hj)];exact hS
 refine ⟨h.kn hk,h.b.trans (hb.mono h.b.size),fun h9=>?_,fun h9=>?_,fun h9=>?_,fun h9=>?_,fun h9=>?_,fun h9=>?_⟩
 · by_cases e:2=j
   · subst e;rw [Ze];exact n2 rfl
   · rw [Zd e] at h9 ⊢;exact hlow (h.s2 h9)
 · by_cases e:5=j
   · subst e;rw [Ze];exact n5 rfl
   · rw [Zd e] at h9 ⊢;exact hlow (h.s5 h9)
 · by_cases e:8=j
   · subst e;rw [Ze];exact n8 rfl
   · rw [Zd e] at h9 ⊢;exact hlow (h.s8 h9)
 · by_cases e:11=j
   · subst e;rw [Ze];exact n11 rfl
   · rw [Zd e] at h9 ⊢;exact hlow (h.s11 h9)
 · by_cases e:12=j
   · subst e;rw [Ze,Zd (by decide:(2:Nat)≠12),Zd (by decide:(5:Nat)≠12),Zd (by decide:(8:Nat)≠12),Zd (by decide:(11:Nat)≠12)];exact n12.1 rfl
   · rw [Zd e] at h9 ⊢;obtain ⟨a1,a2,a3,a4⟩:=n12.2 h9;rw [Zd (Ne.symm a1),Zd (Ne.symm a2),Zd (Ne.symm a3),Zd (Ne.symm a4)];exact h.s12 h9
 · by_cases e:13=j
   · subst e;rw [Ze];obtain ⟨q,h1,h2,h3⟩:=n13 rfl;exact ⟨q,h1,h2,fun _=>h3,fun h8=>(by rw [h14] at h8;cases h8)⟩
   · rw [Zd e] at h9 ⊢;obtain ⟨q,h1,h2,h3,_⟩:=h.s13 h9;exact ⟨q,h1,h2,fun _=>(h3 hS).below hb (h3 hS).lt,fun h8=>(by rw [h14] at h8;cases h8)⟩
theorem J1.known (h:J1 W1 P p g v t m S vs w) (h14:S 14=false) (hj:j≠14∧j≠2∧j≠5∧j≠8∧j≠11∧j≠12∧j≠13) (hk:K1 p g v t m j=some u):J1 W1 P p g v t m (upn S j true) (upn vs j u) w :=
 h.step h14 hj.1 (fun d hd=>by rw [hk] at hd;injection hd) br_ (fun e=>absurd e hj.2.1) (fun e=>absurd e hj.2.2.1) (fun e=>absurd e hj.2.2.2.1) (fun e=>absurd e hj.2.2.2.2.1) ⟨fun e=>absurd e hj.2.2.2.2.2.1,fun _=>⟨hj.2.1,hj.2.2.1,hj.2.2.2.1,hj.2.2.2.2.1⟩⟩ (fun e=>absurd e hj.2.2.2.2.2.2)
theorem J1.c2 (h:J1 W1 P p g v t m S vs w) (h14:S 14=false) (h12:S 12=false) (ho:w'.ownsRow w.heap.size 4 1 u P.gh.length (ZZ P.gh)) (hb:Below w.heap.size w w'):J1 W1 P p g v t m (upn S 2 true) (upn vs 2 u) w' :=
 h.step h14 (by decide) (fun d hd=>by simp [K1] at hd) hb (fun _=>Zv ho h.b.size) (fun e=>by cases e) (fun e=>by cases e) (fun e=>by cases e) ⟨fun e=>(by cases e),fun e=>(by rw [h12] at e;cases e)⟩ (fun e=>by cases e)
theorem J1.c5 (h:J1 W1 P p g v t m S vs w) (h14:S 14=false) (h12:S 12=false) (ho:w'.ownsRow w.heap.size 51 3 u P.vs.length (vrs P.vs)) (hb:Below w.heap.size w w'):J1 W1 P p g v t m (upn S 5 true) (upn vs 5 u) w' :=
 h.step h14 (by decide) (fun d hd=>by simp [K1] at hd) hb (fun e=>by cases e) (fun _=>Zv ho h.b.size) (fun e=>by cases e) (fun e=>by cases e) ⟨fun e=>(by cases e),fun e=>(by rw [h12] at e;cases e)⟩ (fun e=>by cases e)
theorem J1.c8 (h:J1 W1 P p g v t m S vs w) (h14:S 14=false) (h12:S 12=false) (ho:w'.ownsRow w.heap.size 3 1 u P.ts.length (Zm P.ts)) (hb:Below w.heap.size w w'):J1 W1 P p g v t m (upn S 8 true) (upn vs 8 u) w' :=
 h.step h14 (by decide) (fun d hd=>by simp [K1] at hd) hb (fun e=>by cases e) (fun e=>by cases e) (fun _=>Zv ho h.b.size) (fun e=>by cases e) ⟨fun e=>(by cases e),fun e=>(by rw [h12] at e;cases e)⟩ (fun e=>by cases e)
theorem J1.c11 (h:J1 W1 P p g v t m S vs w) (h14:S 14=false) (h12:S 12=false) (ho:w'.ownsRow w.heap.size 49 6 u P.ms.length (acs P.ms)) (hb:Below w.heap.size w w'):J1 W1 P p g v t m (upn S 11 true) (upn vs 11 u) w' :=
 h.step h14 (by decide) (fun d hd=>by simp [K1] at hd) hb (fun e=>by cases e) (fun e=>by cases e) (fun e=>by cases e) (fun _=>Zv ho h.b.size) ⟨fun e=>(by cases e),fun e=>(by rw [h12] at e;cases e)⟩ (fun e=>by cases e)
theorem J1.c12 (h:J1 W1 P p g v t m S vs w) (h14:S 14=false):J1 W1 P p g v t m (upn S 12 true) (upn vs 12 (.agg #[vs 2,vs 5,vs 8,.slice none 0 0,vs 11])) w :=
 h.step h14 (by decide) (fun d hd=>by simp [K1] at hd) br_ (fun e=>by cases e) (fun e=>by cases e) (fun e=>by cases e) (fun e=>by cases e) ⟨fun _=>rfl,fun _=>by decide⟩ (fun e=>by cases e)
theorem J1.c13 (h:J1 W1 P p g v t m S vs w) (h14:S 14=false):J1 W1 P p g v t m (upn S 13 true) (upn vs 13 (.pointer (some ⟨w.heap.size,0,none⟩))) (w.alloc (.cells Zgj 28)) :=
 h.step h14 (by decide) (fun d hd=>by simp [K1] at hd) ((Below.refl _ w).alloc lr_ _) (fun e=>by cases e) (fun e=>by cases e) (fun e=>by cases e) (fun e=>by cases e) ⟨fun e=>(by cases e),fun _=>by decide⟩ (fun _=>⟨_,rfl,h.b.size,Blk.new _ _ _⟩)
theorem J1.st (h:J1 W1 P p g v t m S vs w) (h14:S 14=false) (hall:S 2=true∧S 5=true∧S 8=true∧S 11=true∧S 12=true∧S 13=true) {q:Nat} (hq:vs 13=.pointer (some ⟨q,0,none⟩)) :
 J1 W1 P p g v t m (upn S 14 true) (upn vs 14 c) (((((w.setCell ⟨q,0,none⟩ (vs 2)).setCell ⟨q,1,none⟩ (vs 5)).setCell ⟨q,2,none⟩ (vs 8)).setCell ⟨q,3,none⟩ (.slice none 0 0)).setCell ⟨q,4,none⟩ (vs 11)):=by
 obtain ⟨q',e1,e2,e3,_⟩:=h.s13 hall.2.2.2.2.2
 have e0:q'=q:=by
  rw [e1] at hq;injection hq with hq;injection hq with hq;injection hq
 subst e0;have hbk:=e3 h14;have hne:∀(k:Nat),k≠14→upn vs 14 c k=vs k:=fun k hk=>Zd hk
 have hSe:∀(k:Nat),k≠14→upn S 14 true k=S k:=fun k hk=>Zd hk
 have ho:Only (fun k=>k=q') w (((((w.setCell ⟨q',0,none⟩ (vs 2)).setCell ⟨q',1,none⟩ (vs 5)).setCell ⟨q',2,none⟩ (vs 8)).setCell ⟨q',3,none⟩ (.slice none 0 0)).setCell ⟨q',4,none⟩ (vs 11)) :=
  (((((Only.refl (fun k=>k=q') w).setCell (p:=⟨q',0,none⟩) (.inl rfl) _).setCell (p:=⟨q',1,none⟩) (.inl rfl) _).setCell (p:=⟨q',2,none⟩) (.inl rfl) _).setCell (p:=⟨q',3,none⟩) (.inl rfl) _).setCell (p:=⟨q',4,none⟩) (.inl rfl) _
 have hrow:∀ {e:TypeId} {size n:Nat} {x:Value} {xs:List Value},e≠28→w.ownsRow W1.heap.size e size x n xs→(((((w.setCell ⟨q',0,none⟩ (vs 2)).setCell ⟨q',1,none⟩ (vs 5)).setCell ⟨q',2,none⟩ (vs 8)).setCell ⟨q',3,none⟩ (.slice none 0 0)).setCell ⟨q',4,none⟩ (vs 11)).ownsRow W1.heap.size e size x n xs :=
  fun hd h9=>ZaG h9 ho (fun k hk hk2=>ZX h9 hbk hd (by rw [hk,hk2]))
 refine ⟨h.kn (fun d hd=>by simp [K1] at hd),?_,fun _=>?_,fun _=>?_,fun _=>?_,fun _=>?_,fun _=>?_,fun _=>?_⟩
 · exact h.b.trans (ho.below (fun k hk=>by rw [hk];exact e2) h.b.size)
 · rw [hne 2 (by decide)];exact hrow (by decide) (h.s2 hall.1)
 · rw [hne 5 (by decide)];exact hrow (by decide) (h.s5 hall.2.1)
 · rw [hne 8 (by decide)];exact hrow (by decide) (h.s8 hall.2.2.1)
 · rw [hne 11 (by decide)];exact hrow (by decide) (h.s11 hall.2.2.2.1)
 · rw [hne 12 (by decide),hne 2 (by decide),hne 5 (by decide),hne 8 (by decide),hne 11 (by decide)];exact h.s12 hall.2.2.2.2.1
 · refine ⟨q',by rw [hne 13 (by decide)];exact e1,e2,fun h9=>(by rw [Ze] at h9;cases h9),fun _=>?_⟩;rw [hne 2 (by decide),hne 5 (by decide),hne 8 (by decide),hne 11 (by decide)];exact ((((hbk.set_ 0 (vs 2)).set_ 1 (vs 5)).set_ 2 (vs 8)).set_ 3 (.slice none 0 0)).set_ 4 (vs 11)
theorem J1.start (W1:World) (P:Pl) (p:Nat) (g v t m:Value) (vs:Nat→Value):J1 W1 P p g v t m (fun i=>decide (15≤i)) vs W1.drew:=by
 refine ⟨fun k c hk hS=>?_,(Below.refl _ W1).drew,fun h9=>?_,fun h9=>?_,fun h9=>?_,fun h9=>?_,fun h9=>?_,fun h9=>?_⟩
 · simp at hS;obtain ⟨m,rfl⟩:∃m,k=m+15:=⟨k - 15,by omega⟩;simp [K1] at hk
 all_goals simp at h9
end
def K5 (q:Nat) (o x:Value):Nat→Option Value
 | 0=>some (.pointer (some ⟨q,3,none⟩))
 | 1=>some o
 | 2=>some x
 | 6=>some (.pointer (some ⟨q,3,none⟩))
 | _=>none
structure App5 (W:World) (B q n:Nat) (o:Value) (us:List Value) (l:List Ac) (x y:Value) (w:World):Prop where
 e:∃w5,Below W.heap.size W w5∧w5.ownsRow W.heap.size 49 6 x l.length (acs l)∧w5.grownBy w o.ownBlock
 r:w.ownsRow B 26 1 y (n+1) (us++[x])
 a:y.ownBlock=o.ownBlock∨∃k,y.ownBlock=some k∧W.heap.size≤k
structure J5 (W:World) (B q n:Nat) (o s:Value) (us:List Value) (l:List Ac) (S:Nat→Bool) (vs:Nat→Value) (w:World):Prop where
 k:∀i c,K5 q o s i=some c→S i=true→vs i=c
 b:S 5=false→Below W.heap.size W w
 s3:S 3=true→S 5=false→w.ownsRow W.heap.size 49 6 (vs 3) l.length (acs l)
 s4:S 4=true→S 5=false→∃g,vs 4=.slice (some ⟨g,0,none⟩) 1 1∧w.cell? ⟨g,0,none⟩=some (vs 3)∧g<w.heap.size
 s5:S 5=true→∃w6,App5 W B q n o us l (vs 3) (vs 5) w6∧(S 7=false→w=w6)∧(S 7=true→w=w6.setCell ⟨q,3,none⟩ (vs 5))
section
variable {W w w':World} {B q n:Nat} {o s u c:Value} {us:List Value} {l:List Ac} {S:Nat→Bool} {vs:Nat→Value} {j:Nat}
theorem J5.kn (h:J5 W B q n o s us l S vs w) {j:Nat} {c:Value} (hj:∀d,K5 q o s j=some d→c=d):∀i d,K5 q o s i=some d→upn S j true i=true→upn vs j c i=d:=by
 intro i d hk hS
 by_cases hkj:i=j
 · subst hkj;rw [Ze];exact hj d hk
 · rw [Zd hkj] at hS ⊢;exact h.k i d hk hS
theorem J5.known (h:J5 W B q n o s us l S vs w) (hj:j≠3∧j≠4∧j≠5∧j≠7) (hk:K5 q o s j=some u):J5 W B q n o s us l (upn S j true) (upn vs j u) w:=by
 obtain ⟨h3,h4,h5,h7⟩:=hj;refine ⟨h.kn (fun d hd=>by rw [hk] at hd;injection hd),fun h9=>?_,fun h8 h9=>?_,fun h8 h9=>?_,fun h9=>?_⟩
 · rw [Zd (Ne.symm h5)] at h9;exact h.b h9
 · rw [Zd (Ne.symm h5)] at h9;rw [Zd (Ne.symm h3)] at h8 ⊢;exact h.s3 h8 h9
 · rw [Zd (Ne.symm h5)] at h9;rw [Zd (Ne.symm h4)] at h8 ⊢;rw [Zd (Ne.symm h3)];exact h.s4 h8 h9
 · rw [Zd (Ne.symm h5)] at h9 ⊢;rw [Zd (Ne.symm h3),Zd (Ne.symm h7)];exact h.s5 h9
theorem J5.c3 (h:J5 W B q n o s us l S vs w) (h5:S 5=false) (h4:S 4=false) (ho:w'.ownsRow w.heap.size 49 6 u l.length (acs l)) (hb:Below w.heap.size w w'):J5 W B q n o s us l (upn S 3 true) (upn vs 3 u) w':=by
 refine ⟨h.kn (fun d hd=>by simp [K5] at hd),fun _=>(h.b h5).trans (hb.mono (h.b h5).size),fun _ _=>?_,fun h8 _=>?_,fun h9=>?_⟩
 · rw [Ze];exact Zv ho (h.b h5).size
 · rw [Zd (by decide:(4:Nat)≠3),h4] at h8;cases h8
 · rw [Zd (by decide:(5:Nat)≠3),h5] at h9;cases h9
theorem J5.c4 (h:J5 W B q n o s us l S vs w) (h5:S 5=false) (h3:S 3=true):J5 W B q n o s us l (upn S 4 true) (upn vs 4 (.slice (some ⟨w.heap.size,0,none⟩) 1 1)) (w.alloc (.cells #[vs 3] 26)):=by
 refine ⟨h.kn (fun d hd=>by simp [K5] at hd),fun _=>(h.b h5).alloc (h.b h5).size _,fun _ _=>?_,fun _ _=>?_,fun h9=>?_⟩
 · rw [Zd (by decide:(3:Nat)≠4)];exact Zix (h.s3 h3 h5)
 · rw [Ze,Zd (by decide:(3:Nat)≠4)];exact ⟨_,rfl,(Blk.new w 26 #[vs 3]).cell 0,by simp⟩
 · rw [Zd (by decide:(5:Nat)≠4),h5] at h9;cases h9
theorem J5.c5 (h:J5 W B q n o s us l S vs w) (h5:S 5=false) (h7:S 7=false) (h3:S 3=true) (hown:w'.ownsRow B 26 1 u (n+1) (us++[vs 3])) (hg:w.grownBy w' o.ownBlock) (hat:u.ownBlock=o.ownBlock∨u.ownBlock=some w.heap.size):J5 W B q n o s us l (upn S 5 true) (upn vs 5 u) w':=by
 refine ⟨h.kn (fun d hd=>by simp [K5] at hd),fun h9=>?_,fun _ h9=>?_,fun _ h9=>?_,fun _=>⟨w',⟨⟨w,h.b h5,?_,hg⟩,?_,?_⟩,fun _=>rfl,fun h9=>?_⟩⟩
 · rw [Ze] at h9;cases h9
 · rw [Ze] at h9;cases h9
 · rw [Ze] at h9;cases h9
 · rw [Zd (by decide:(3:Nat)≠5)];exact h.s3 h3 h5
 · rw [Zd (by decide:(3:Nat)≠5),Ze];exact hown
 · rw [Ze];rcases hat with h9 | h9
   · exact .inl h9
   · exact .inr ⟨_,h9,(h.b h5).size⟩
 · rw [Zd (by decide:(7:Nat)≠5),h7] at h9;cases h9
theorem J5.c7 (h:J5 W B q n o s us l S vs w) (h5:S 5=true) (h7:S 7=false):J5 W B q n o s us l (upn S 7 true) (upn vs 7 c) (w.setCell ⟨q,3,none⟩ (vs 5)):=by
 refine ⟨h.kn (fun d hd=>by simp [K5] at hd),fun h9=>?_,fun _ h9=>?_,fun _ h9=>?_,fun _=>?_⟩
 · rw [Zd (by decide:(5:Nat)≠7),h5] at h9;cases h9
 · rw [Zd (by decide:(5:Nat)≠7),h5] at h9;cases h9
 · rw [Zd (by decide:(5:Nat)≠7),h5] at h9;cases h9
 · obtain ⟨w6,ha,h1,_⟩:=h.s5 h5;refine ⟨w6,by rw [Zd (by decide:(3:Nat)≠7),Zd (by decide:(5:Nat)≠7)];exact ha,fun h9=>(by rw [Ze] at h9;cases h9),fun _=>?_⟩;rw [h1 h7,Zd (by decide:(5:Nat)≠7)]
theorem J5.mid (h:J5 W B q n o s us l S vs w) (h5:S 5=true) (h7:S 7=false):App5 W B q n o us l (vs 3) (vs 5) w:=by
 obtain ⟨w6,ha,h1,_⟩:=h.s5 h5;rw [h1 h7];exact ha
theorem J5.fin (h:J5 W B q n o s us l (fun _=>true) vs w):∃x y w6,App5 W B q n o us l x y w6∧w=w6.setCell ⟨q,3,none⟩ y:=by
 obtain ⟨w6,ha,_,h2⟩:=h.s5 rfl;exact ⟨_,_,w6,ha,h2 rfl⟩
theorem J5.start (W:World) (B q n:Nat) (o s:Value) (us:List Value) (l:List Ac) (vs:Nat→Value):J5 W B q n o s us l (fun i=>decide (8≤i)) vs W.drew:=by
 refine ⟨fun k c hk hS=>?_,fun _=>(Below.refl _ W).drew,fun h9 _=>?_,fun h9 _=>?_,fun h9=>?_⟩
 · simp at hS;obtain ⟨m,rfl⟩:∃m,k=m+8:=⟨k - 8,by omega⟩;simp [K5] at hk
 all_goals simp at h9
end
theorem ZgL {w:World} {g:Nat} {x:Value} (h:w.cell? ⟨g,0,none⟩=some x):∀j u,[x][j]? = some u→w.cell? ((⟨g,0,none⟩:Addr).add j)=some u:=by
 intro j u hj;obtain rfl:j=0:=by have:=(gs_ hj).1;simp at this;exact this
 simp at hj;subst hj;exact h
structure Tw (W1:World) (P:Pl) (qb:Nat) (g v t m o:Value) (i:Nat) (us:List Value) (w:World):Prop where
 k:Blk w qb 28 #[g,v,t,o,m]
 q:W1.heap.size≤qb
 g1:w.ownsRow W1.heap.size 4 1 g P.gh.length (ZZ P.gh)
 v1:w.ownsRow W1.heap.size 51 3 v P.vs.length (vrs P.vs)
 t1:w.ownsRow W1.heap.size 3 1 t P.ts.length (Zm P.ts)
 m1:w.ownsRow W1.heap.size 49 6 m P.ms.length (acs P.ms)
 o1:w.ownsRow W1.heap.size 26 1 o i us
 e1:∀(k:Nat) (l:List Ac),k<i→P.on[k]? = some l→∃u,us[k]? = some u∧w.ownsRow W1.heap.size 49 6 u l.length (acs l)
 b:Below W1.heap.size W1 w
theorem Tw.next {W1 w w6:World} {P:Pl} {qb i:Nat} {g v t m o x y:Value} {us:List Value} {l:List Ac} (h:Tw W1 P qb g v t m o i us w) (hl:P.on[i]? = some l) (ha:App5 w W1.heap.size qb i o us l x y w6) :
 Tw W1 P qb g v t m y (i+1) (us++[x]) (w6.setCell ⟨qb,3,none⟩ y):=by
 obtain ⟨⟨w5,hb5,hx5,hg⟩,hr,hat⟩:=ha;have hob:=ZX h.o1 h.k (by decide)
 have h5:∀ {e:TypeId} {size n:Nat} {z:Value} {xs:List Value},e≠26→w5.ownsRow W1.heap.size e size z n xs→w6.ownsRow W1.heap.size e size z n xs:=fun he h9=>by
  have ho5:=Zx h.o1 hb5 lr_;exact Zbq h9 (fun k hk=>hg.block k (h9.lt k hk).2 (fun h8=>ZbC h9 ho5 he k hk h8.symm))
 have hk5:Blk w5 qb 28 #[g,v,t,o,m]:=h.k.below hb5 h.k.lt;have hk6:Blk w6 qb 28 #[g,v,t,o,m]:=hk5.grown hg (fun e=>hob e.symm);have h7:∀ {e:TypeId} {size n:Nat} {z:Value} {xs:List Value},e≠28→w6.ownsRow W1.heap.size e size z n xs→(w6.setCell ⟨qb,3,none⟩ y).ownsRow W1.heap.size e size z n xs:=fun he h9=>ZA h9 (ZX h9 hk6 he) _
 have hall:∀ {e:TypeId} {size n:Nat} {z:Value} {xs:List Value},e≠26→e≠28→w.ownsRow W1.heap.size e size z n xs→(w6.setCell ⟨qb,3,none⟩ y).ownsRow W1.heap.size e size z n xs:=fun he he2 h9=>h7 he2 (h5 he (Zx h9 hb5 lr_))
 refine ⟨hk6.set_ 3 y,h.q,hall (by decide) (by decide) h.g1,hall (by decide) (by decide) h.v1,hall (by decide) (by decide) h.t1,hall (by decide) (by decide) h.m1,h7 (by decide) hr,fun k l' hk hl'=>?_,?_⟩
 · have hul:us.length=i:=by have:=h.o1.1;omega
   by_cases hki:k<i
   · obtain ⟨u,hu,h9⟩:=h.e1 k l' hki hl';exact ⟨u,by rw [List.getElem?_append_left (by omega)];exact hu,hall (by decide) (by decide) h9⟩
   · obtain rfl:k=i:=by omega
     rw [hl] at hl';injection hl' with hl';subst hl';refine ⟨x,by rw [List.getElem?_append_right (by omega)];simp [hul],h7 (by decide) (h5 (by decide) (Zv hx5 h.b.size))⟩
 · have hb6:Below W1.heap.size w5 w6:=Zan hg (fun k hk=>(h.o1.lt k hk).1) (Nat.le_trans h.b.size hb5.size);exact ((h.b.trans (hb5.mono h.b.size)).trans hb6).setCell h.q y
theorem Zho {w0 W1 w:World} {P:Pl} {qb B N:Nat} {g v t m o a b c d e:Value} {us:List Value} (h:Tw W1 P qb g v t m o N us w) (hk:Blk W1 (B+1) 28 #[.slice none 0 0,.slice none 0 0,.slice none 0 0,.slice none 0 0,.slice none 0 0]) (hB:B≤B) (hW:B≤W1.heap.size) (hb:Below B w0 w) :
 (fun w':World=>w'.ownsRow B 4 1 g P.gh.length (ZZ P.gh)∧w'.ownsRow B 51 3 v P.vs.length (vrs P.vs)∧w'.ownsRow B 3 1 t P.ts.length (Zm P.ts)∧w'.ownsRow B 26 1 o N us ∧
  (∀(i:Nat) (l:List Ac),i<N→P.on[i]? = some l→∃u,us[i]? = some u∧w'.ownsRow B 49 6 u l.length (acs l))∧w'.ownsRow B 49 6 m P.ms.length (acs P.ms)∧Below B w0 w')
 (((((w.setCell ⟨B+1,0,none⟩ a).setCell ⟨B+1,1,none⟩ b).setCell ⟨B+1,2,none⟩ c).setCell ⟨B+1,3,none⟩ d).setCell ⟨B+1,4,none⟩ e):=by
 have hlt:=hk.lt
 have ho:Only (fun k=>k=B+1) w (((((w.setCell ⟨B+1,0,none⟩ a).setCell ⟨B+1,1,none⟩ b).setCell ⟨B+1,2,none⟩ c).setCell ⟨B+1,3,none⟩ d).setCell ⟨B+1,4,none⟩ e) :=
  (((((Only.refl (fun k=>k=B+1) w).setCell (p:=⟨B+1,0,none⟩) (.inl rfl) _).setCell (p:=⟨B+1,1,none⟩) (.inl rfl) _).setCell (p:=⟨B+1,2,none⟩) (.inl rfl) _).setCell (p:=⟨B+1,3,none⟩) (.inl rfl) _).setCell (p:=⟨B+1,4,none⟩) (.inl rfl) _
 have hall:∀ {e':TypeId} {size n:Nat} {z:Value} {xs:List Value},w.ownsRow W1.heap.size e' size z n xs→(((((w.setCell ⟨B+1,0,none⟩ a).setCell ⟨B+1,1,none⟩ b).setCell ⟨B+1,2,none⟩ c).setCell ⟨B+1,3,none⟩ d).setCell ⟨B+1,4,none⟩ e).ownsRow B e' size z n xs :=
  fun h9=>Zv (ZaG h9 ho (fun k hk hk2=>by have:=(h9.lt k hk).1;omega)) hW
 refine ⟨hall h.g1,hall h.v1,hall h.t1,hall h.o1,fun i l hi hl=>?_,hall h.m1,?_⟩
 · obtain ⟨u,hu,h9⟩:=h.e1 i l hi hl;exact ⟨u,hu,hall h9⟩
 · exact hb.trans (ho.below (fun k hk=>by omega) (by have:=h.b.size;omega))
section
attribute [local go_sem] par Zah
theorem ZjI (P:Pl) (w:World) (q:PlV) (rs:List (Option Addr×Nat)) (h:PlMem w q P rs) (k1:P.gh.length≤16) (k2:P.vs.length≤16) (k3:P.ts.length≤4) (k4:P.on.length≤16) (k5:∀l ∈ P.on++[P.ms],l.length≤131072) :
 Calls Try.prog 60 #[q.val] w fun en w'=>∃(g v t o m:Value) (us:List Value),en=.returned (.agg #[g,v,t,o,m])∧w'.ownsRow w.heap.size 4 1 g P.gh.length (ZZ P.gh)∧w'.ownsRow w.heap.size 51 3 v P.vs.length (vrs P.vs)∧w'.ownsRow w.heap.size 3 1 t P.ts.length (Zm P.ts) ∧
  w'.ownsRow w.heap.size 26 1 o P.on.length us∧(∀(i:Nat) (l:List Ac),P.on[i]? = some l→∃u,us[i]? = some u∧w'.ownsRow w.heap.size 49 6 u l.length (acs l))∧w'.ownsRow w.heap.size 49 6 m P.ms.length (acs P.ms)∧Below w.heap.size w w':=by
 have HRES:=Za (show Try.f60.results=#[.cell 2 28] by kernel_rfl);have HM0:=Za h;obtain ⟨e1,e2,e3,e4,e5,_,_,_,_,_,_⟩:=h;obtain ⟨ga,va,ta,oa,ma,gl,gc,vl,vc,tl,tc,ol,oc,ml,mc⟩:=q;simp only at e1 e2 e3 e4 e5;subst e1 e2 e3 e4 e5;simp only [PlV.val];have hbx:=Blk.new w 28 #[.slice ga P.gh.length gc,.slice va P.vs.length vc,.slice ta P.ts.length tc,.slice oa P.on.length oc,.slice ma P.ms.length mc];go_enter Try.func60,Try.ntmps60;have hb0:=((Below.refl w.heap.size w).alloc lr_ (.cells #[.slice ga P.gh.length gc,.slice va P.vs.length vc,.slice ta P.ts.length tc,.slice oa P.on.length oc,.slice ma P.ms.length mc] 28)).alloc (by simp) (.cells #[.slice none 0 0,.slice none 0 0,.slice none 0 0,.slice none 0 0,.slice none 0 0] 28);have hbk:=hbx.alloc (.cells #[.slice none 0 0,.slice none 0 0,.slice none 0 0,.slice none 0 0,.slice none 0 0] 28);go_upto_region 1 with fail;have HB1:=Za hb0;have HK1:=Za hbk;have hsz1:((w.alloc (.cells #[.slice ga P.gh.length gc,.slice va P.vs.length vc,.slice ta P.ts.length tc,.slice oa P.on.length oc,.slice ma P.ms.length mc] 28)).alloc (.cells #[.slice none 0 0,.slice none 0 0,.slice none 0 0,.slice none 0 0,.slice none 0 0] 28)).heap.size=w.heap.size+2:=by simp
 have hkr:=Blk.new (w.alloc (.cells #[.slice ga P.gh.length gc,.slice va P.vs.length vc,.slice ta P.ts.length tc,.slice oa P.on.length oc,.slice ma P.ms.length mc] 28)) 28 #[.slice none 0 0,.slice none 0 0,.slice none 0 0,.slice none 0 0,.slice none 0 0];have hs9:(w.alloc (.cells #[.slice ga P.gh.length gc,.slice va P.vs.length vc,.slice ta P.ts.length tc,.slice oa P.on.length oc,.slice ma P.ms.length mc] 28)).heap.size=w.heap.size+1:=by simp
 rw [hs9] at hkr;have HKR:=Za hkr;clear hb0 hbk hbx hs9 hkr;generalize ((w.alloc (.cells #[.slice ga P.gh.length gc,.slice va P.vs.length vc,.slice ta P.ts.length tc,.slice oa P.on.length oc,.slice ma P.ms.length mc] 28)).alloc (.cells #[.slice none 0 0,.slice none 0 0,.slice none 0 0,.slice none 0 0,.slice none 0 0] 28))=W1 at HB1 HK1 hsz1 HKR;have HM:=Za (HM0.out.below HB1.out);have hrl:=HM.out.e.1;simp only [List.length_append,List.length_cons,List.length_nil] at hrl;have hrl2:rs.length=P.on.length:=by omega
 have HSM:=Za ((HM.out.e.2 P.on.length ma mc P.ms (by rw [←hrl2];simp) (by simp)).1);have hms:P.ms.length≤131072:=k5 _ (by simp);have b0:W1.cell? ⟨w.heap.size,0,none⟩=some (.slice ga P.gh.length gc):=HK1.out.cell 0;have b1:W1.cell? ⟨w.heap.size,1,none⟩=some (.slice va P.vs.length vc):=HK1.out.cell 1;have b2:W1.cell? ⟨w.heap.size,2,none⟩=some (.slice ta P.ts.length tc):=HK1.out.cell 2;have b3:W1.cell? ⟨w.heap.size,3,none⟩=some (.slice oa P.on.length oc):=HK1.out.cell 3;have b4:W1.cell? ⟨w.heap.size,4,none⟩=some (.slice ma P.ms.length mc):=HK1.out.cell 4;have hpl:w.heap.size<W1.heap.size:=by omega
 have HPL:=Za hpl;go_cut [3] from 6 to 18 (fun s3 wx=>∃g v t m qb,s3=.pointer (some ⟨qb,0,none⟩)∧Blk wx qb 28 #[g,v,t,.slice none 0 0,m]∧W1.heap.size≤qb∧wx.ownsRow W1.heap.size 4 1 g P.gh.length (ZZ P.gh)∧wx.ownsRow W1.heap.size 51 3 v P.vs.length (vrs P.vs)∧wx.ownsRow W1.heap.size 3 1 t P.ts.length (Zm P.ts)∧wx.ownsRow W1.heap.size 49 6 m P.ms.length (acs P.ms)∧Below W1.heap.size W1 wx)
 case first =>
  clear hpl hsz1;have hpl:w.heap.size<W1.heap.size:=HPL.out;refine ZB (J1 W1 P w.heap.size (.slice ga P.gh.length gc) (.slice va P.vs.length vc) (.slice ta P.ts.length tc) (.slice ma P.ms.length mc)) [[],[0],[0,1],[],[3],[0,1,2,3,4],[],[6],[0,1,2,3,4,5,6,7],[],[9],[0,1,2,3,4,5,6,7,8,9,10],[0,1,2,3,4,5,6,7,8,9,10,11],[],[0,1,2,3,4,5,6,7,8,9,10,11,12,13]] (by kernel_rfl) (by kernel_rfl) (fun vs=>J1.start W1 P _ _ _ _ _ vs) (fun vs=>?_);refine Zb rfl (fun S w' hS hA hD hJ R hR=>?_) (fun K hK=>?_)
  · have h14:S 14=false:=hD 14 (by decide) (by decide);go_simp;exact hR _ _ (hJ.known h14 (by decide) rfl)
  go_simp;refine hK _ ?_;clear hK K;refine Zb rfl (fun S w' hS hA hD hJ R hR=>?_) (fun K hK=>?_)
  · have h14:S 14=false:=hD 14 (by decide) (by decide);have k0:vs 0=_:=hJ.k 0 _ rfl (hA 0 (by decide));have hc:=(hJ.b.cell (p:=⟨w.heap.size,0,none⟩) hpl).trans b0;simp only [k0];go_simp;exact hR _ _ (hJ.known h14 (by decide) rfl)
  go_simp;refine hK _ ?_;clear hK K;refine Zb rfl (fun S w' hS hA hD hJ R hR=>?_) (fun K hK=>?_)
  · have h14:S 14=false:=hD 14 (by decide) (by decide);have k0:vs 0=_:=hJ.k 0 _ rfl (hA 0 (by decide));have k1:vs 1=_:=hJ.k 1 _ rfl (hA 1 (by decide));have h12:S 12=false:=hD 12 (by decide) (by decide);have hc:=ZlJ w' ga P.gh.length gc (ZZ P.gh) (HM.out.g.below hJ.b) (Zg2 _) (bools_one _) (by omega);have hfin:=hc.mono (fun en w'' hh=>show ∃u,en=.returned u∧R u w'' from (by obtain ⟨u,e1,e2,e3⟩:=hh;exact ⟨u,e1,hR _ _ (hJ.c2 h14 h12 e2 e3)⟩));refine Zdn 96 (.tmp 7) 22 (by rfl) Try.f96 Try.func96 (by decide) (by unfold Try.f96;simp) (.slice ga P.gh.length gc) ?_ hfin;exact k1
  go_simp;refine hK _ ?_;clear hK K;refine Zb rfl (fun S w' hS hA hD hJ R hR=>?_) (fun K hK=>?_)
  · have h14:S 14=false:=hD 14 (by decide) (by decide);go_simp;exact hR _ _ (hJ.known h14 (by decide) rfl)
  go_simp;refine hK _ ?_;clear hK K;refine Zb rfl (fun S w' hS hA hD hJ R hR=>?_) (fun K hK=>?_)
  · have h14:S 14=false:=hD 14 (by decide) (by decide);have k3:vs 3=_:=hJ.k 3 _ rfl (hA 3 (by decide));have hc:=(hJ.b.cell (p:=⟨w.heap.size,1,none⟩) hpl).trans b1;simp only [k3];go_simp;exact hR _ _ (hJ.known h14 (by decide) rfl)
  go_simp;refine hK _ ?_;clear hK K;refine Zb rfl (fun S w' hS hA hD hJ R hR=>?_) (fun K hK=>?_)
  · have h14:S 14=false:=hD 14 (by decide) (by decide);have k0:vs 0=_:=hJ.k 0 _ rfl (hA 0 (by decide));have k1:vs 1=_:=hJ.k 1 _ rfl (hA 1 (by decide));have k3:vs 3=_:=hJ.k 3 _ rfl (hA 3 (by decide));have k4:vs 4=_:=hJ.k 4 _ rfl (hA 4 (by decide));have h12:S 12=false:=hD 12 (by decide) (by decide);have hc:=ZlG w' va P.vs.length vc (vrs P.vs) (HM.out.v.below hJ.b) (Zit _) (vrs_one _) (by omega);have hfin:=hc.mono (fun en w'' hh=>show ∃u,en=.returned u∧R u w'' from (by obtain ⟨u,e1,e2,e3⟩:=hh;exact ⟨u,e1,hR _ _ (hJ.c5 h14 h12 e2 e3)⟩));refine Zdn 97 (.tmp 10) 23 (by rfl) Try.f97 Try.func97 (by decide) (by unfold Try.f97;simp) (.slice va P.vs.length vc) ?_ hfin;exact k4
  go_simp;refine hK _ ?_;clear hK K;refine Zb rfl (fun S w' hS hA hD hJ R hR=>?_) (fun K hK=>?_)
  · have h14:S 14=false:=hD 14 (by decide) (by decide);go_simp;exact hR _ _ (hJ.known h14 (by decide) rfl)
  go_simp;refine hK _ ?_;clear hK K;refine Zb rfl (fun S w' hS hA hD hJ R hR=>?_) (fun K hK=>?_)
  · have h14:S 14=false:=hD 14 (by decide) (by decide);have k6:vs 6=_:=hJ.k 6 _ rfl (hA 6 (by decide));have hc:=(hJ.b.cell (p:=⟨w.heap.size,2,none⟩) hpl).trans b2;simp only [k6];go_simp;exact hR _ _ (hJ.known h14 (by decide) rfl)
  go_simp;refine hK _ ?_;clear hK K;refine Zb rfl (fun S w' hS hA hD hJ R hR=>?_) (fun K hK=>?_)
  · have h14:S 14=false:=hD 14 (by decide) (by decide);have k0:vs 0=_:=hJ.k 0 _ rfl (hA 0 (by decide));have k1:vs 1=_:=hJ.k 1 _ rfl (hA 1 (by decide));have k3:vs 3=_:=hJ.k 3 _ rfl (hA 3 (by decide));have k4:vs 4=_:=hJ.k 4 _ rfl (hA 4 (by decide));have k6:vs 6=_:=hJ.k 6 _ rfl (hA 6 (by decide));have k7:vs 7=_:=hJ.k 7 _ rfl (hA 7 (by decide));have h12:S 12=false:=hD 12 (by decide) (by decide);have hc:=ZlI w' ta P.ts.length tc (Zm P.ts) (HM.out.t.below hJ.b) (ZgZ _) (Zkf _) (by omega);have hfin:=hc.mono (fun en w'' hh=>show ∃u,en=.returned u∧R u w'' from (by obtain ⟨u,e1,e2,e3⟩:=hh;exact ⟨u,e1,hR _ _ (hJ.c8 h14 h12 e2 e3)⟩));refine Zdn 98 (.tmp 13) 24 (by rfl) Try.f98 Try.func98 (by decide) (by unfold Try.f98;simp) (.slice ta P.ts.length tc) ?_ hfin;exact k7
  go_simp;refine hK _ ?_;clear hK K;refine Zb rfl (fun S w' hS hA hD hJ R hR=>?_) (fun K hK=>?_)
  · have h14:S 14=false:=hD 14 (by decide) (by decide);go_simp;exact hR _ _ (hJ.known h14 (by decide) rfl)
  go_simp;refine hK _ ?_;clear hK K;refine Zb rfl (fun S w' hS hA hD hJ R hR=>?_) (fun K hK=>?_)
  · have h14:S 14=false:=hD 14 (by decide) (by decide);have k9:vs 9=_:=hJ.k 9 _ rfl (hA 9 (by decide));have hc:=(hJ.b.cell (p:=⟨w.heap.size,4,none⟩) hpl).trans b4;simp only [k9];go_simp;exact hR _ _ (hJ.known h14 (by decide) rfl)
  go_simp;refine hK _ ?_;clear hK K;refine Zb rfl (fun S w' hS hA hD hJ R hR=>?_) (fun K hK=>?_)
  · have h14:S 14=false:=hD 14 (by decide) (by decide);have k0:vs 0=_:=hJ.k 0 _ rfl (hA 0 (by decide));have k1:vs 1=_:=hJ.k 1 _ rfl (hA 1 (by decide));have k3:vs 3=_:=hJ.k 3 _ rfl (hA 3 (by decide));have k4:vs 4=_:=hJ.k 4 _ rfl (hA 4 (by decide));have k6:vs 6=_:=hJ.k 6 _ rfl (hA 6 (by decide));have k7:vs 7=_:=hJ.k 7 _ rfl (hA 7 (by decide));have k9:vs 9=_:=hJ.k 9 _ rfl (hA 9 (by decide));have k10:vs 10=_:=hJ.k 10 _ rfl (hA 10 (by decide));have h12:S 12=false:=hD 12 (by decide) (by decide);have hc:=ZhX w' ma P.ms.length mc (acs P.ms) (HSM.out.below hJ.b) (Ze6 _) (ZiP _) (by omega);have hfin:=hc.mono (fun en w'' hh=>show ∃u,en=.returned u∧R u w'' from (by obtain ⟨u,e1,e2,e3⟩:=hh;exact ⟨u,e1,hR _ _ (hJ.c11 h14 h12 e2 e3)⟩));refine Zdn 99 (.tmp 16) 26 (by rfl) Try.f99 Try.func99 (by decide) (by unfold Try.f99;simp) (.slice ma P.ms.length mc) ?_ hfin;exact k10
  go_simp;refine hK _ ?_;clear hK K;refine Zb rfl (fun S w' hS hA hD hJ R hR=>?_) (fun K hK=>?_)
  · have h14:S 14=false:=hD 14 (by decide) (by decide);obtain ⟨o2,c2,e2⟩:=Zg (hJ.s2 (hA 2 (by decide)));obtain ⟨o5,c5,e5⟩:=Zg (hJ.s5 (hA 5 (by decide)));obtain ⟨o8,c8,e8⟩:=Zg (hJ.s8 (hA 8 (by decide)));obtain ⟨o11,c11,e11⟩:=Zg (hJ.s11 (hA 11 (by decide)));have hfin:=hR _ _ (hJ.c12 h14);rw [e2,e5,e8,e11] at hfin;simp only [e2,e5,e8,e11];go_simp;exact hfin
  go_simp;refine hK _ ?_;clear hK K;refine Zb rfl (fun S w' hS hA hD hJ R hR=>?_) (fun K hK=>?_)
  · have h14:S 14=false:=hD 14 (by decide) (by decide);have hfin:=hR _ _ (hJ.c13 h14);go_simp;exact hfin
  go_simp;refine hK _ ?_;clear hK K;refine Zb rfl (fun S w' hS hA hD hJ R hR=>?_) (fun K hK=>?_)
  · have h14:S 14=false:=hS;obtain ⟨o2,c2,e2⟩:=Zg (hJ.s2 (hA 2 (by decide)));obtain ⟨o5,c5,e5⟩:=Zg (hJ.s5 (hA 5 (by decide)));obtain ⟨o8,c8,e8⟩:=Zg (hJ.s8 (hA 8 (by decide)));obtain ⟨o11,c11,e11⟩:=Zg (hJ.s11 (hA 11 (by decide)));have e12:=hJ.s12 (hA 12 (by decide));obtain ⟨qb,e13,hq1,hq2,_⟩:=hJ.s13 (hA 13 (by decide));obtain ⟨z0,z1,z2,z3,z4,y0,y1,y2,y3,y4⟩:=ZeJ (hq2 h14);have hfin:=hR _ _ (hJ.st (c:=undef) h14 ⟨hA 2 (by decide),hA 5 (by decide),hA 8 (by decide),hA 11 (by decide),hA 12 (by decide),hA 13 (by decide)⟩ e13);rw [e2,e5,e8,e11] at hfin;rw [e2,e5,e8,e11] at e12;clear hq2;simp only [e12,e13];go_simp;exact hfin
  go_simp;refine hK _ ?_;clear hK K;refine Z2 (fun w7 hJ=>?_);obtain ⟨qb,e13,hq1,_,hq2⟩:=hJ.s13 rfl;have HJ:=Za (show ∃g v t m,Blk w7 qb 28 #[g,v,t,.slice none 0 0,m]∧W1.heap.size≤qb∧w7.ownsRow W1.heap.size 4 1 g P.gh.length (ZZ P.gh)∧w7.ownsRow W1.heap.size 51 3 v P.vs.length (vrs P.vs)∧w7.ownsRow W1.heap.size 3 1 t P.ts.length (Zm P.ts)∧w7.ownsRow W1.heap.size 49 6 m P.ms.length (acs P.ms)∧Below W1.heap.size W1 w7 from ⟨_,_,_,_,hq2 rfl,hq1,hJ.s2 rfl,hJ.s5 rfl,hJ.s8 rfl,hJ.s11 rfl,hJ.b⟩);clear hJ hq2 hq1;simp only [e13];clear e13;go_wp2_with fail;go_meet
  case rel =>
   obtain ⟨g9,v9,t9,m9,h9⟩:=HJ.out;exact ⟨g9,v9,t9,m9,qb,rfl,h9⟩
 case rest =>
  obtain ⟨g,v,t,m,qb,rfl,hbk,hqb,hog,hov,hot,hom,hbw⟩:=hcut;rename World=>wx
  have HTW:=Za (show Tw W1 P qb g v t m (.slice none 0 0) 0 [] wx from ⟨hbk,hqb,hog,hov,hot,hom,World.ownsRow_nil _ _ _ _,fun k l hk _=>absurd hk (Nat.not_lt_zero k),hbw⟩);have b3x:wx.cell? ⟨w.heap.size,3,none⟩=some (.slice oa P.on.length oc):=(hbw.cell hpl).trans b3;have HBK:=Za hbk;clear hbk hog hov hot hom hbw b0 b1 b2 b3 b4;obtain ⟨N,hN⟩:∃N,P.on.length=N:=⟨_,rfl⟩;rw [hN] at b3x k4;have HN:=Za hN;clear hN;go_wp2_with fail;go_loopw [22] (fun t22 Wi=>∃(i:Nat) (o:Value) (us:List Value),t22=.int .i64 (i:Int)∧i≤N∧Tw W1 P qb g v t m o i us Wi) (fun t22 _=>N - (intOf t22).toNat)
  case atStart=>exact ⟨0,.slice none 0 0,[],rfl,Nat.zero_le _,HTW.out⟩
  case round =>
   obtain ⟨i,o,us,rfl,hi,htw⟩:=hrel;rename World=>Wi
   have HTI:=Za htw;have hq2:=IntWalk.i64_in ((i:Int)+1) (by omega)
   by_cases hil:i<N
   · have hiI:(i:Int)<(N:Int):=by omega
     obtain ⟨l,hl⟩:∃l,P.on[i]? = some l:=⟨_,ge_ (by rw [HN.out];exact hil)⟩;obtain ⟨⟨ra,rc⟩,hr⟩:∃r,rs[i]? = some r:=⟨_,ge_ (by rw [hrl2,HN.out];exact hil)⟩;obtain ⟨ad,e,hab,q0⟩:=Za3 (HM.out.below htw.b).o (i:=i) (v:=.slice ra l.length rc) (by rw [HN.out];omega) (ZaS _ _ i _ _ hr hl);simp only at e;subst e;have HSL:=Za ((HM.out.below htw.b).e.2 i ra rc l (by rw [List.getElem?_append_left (by rw [hrl2,HN.out];exact hil)];exact hr) (by rw [List.getElem?_append_left (by rw [HN.out];exact hil)];exact hl)).1;have hll:l.length≤131072:=k5 l (List.mem_append_left _ (List.mem_of_getElem? hl));have HL:=Za hl;have hk:=htw.k;obtain ⟨z0,z1,z2,z3,z4,y0,y1,y2,y3,y4⟩:=ZeJ hk;have hqlt:=hk.lt;obtain ⟨i4,hi4,hy0,hy1,hy2⟩:=ZD Zc2;clear hl hr htw hk;go_upto_region 5 with fail;refine ZB (J5 Wi W1.heap.size qb i o (.slice ra l.length rc) us l) [[],[0],[],[2],[2,3],[0,1,2,3,4],[0,1,2,3,4,5],[0,1,2,3,4,5,6]] (by kernel_rfl) (by kernel_rfl) (fun vs=>J5.start _ _ _ _ _ _ _ _ vs) (fun vs=>?_);refine Zb rfl (fun S w' hS hA hD hJ R hR=>?_) (fun K hK=>?_)
     · have h5:S 5=false:=hD 5 (by decide) (by decide);go_simp;exact hR _ _ (hJ.known (by decide) rfl)
     go_simp;refine hK _ ?_;clear hK K;refine Zb rfl (fun S w' hS hA hD hJ R hR=>?_) (fun K hK=>?_)
     · have h5:S 5=false:=hD 5 (by decide) (by decide);have k0:vs 0=_:=hJ.k 0 _ rfl (hA 0 (by decide));have hc:=((hJ.b h5).cell (p:=⟨qb,3,none⟩) hqlt).trans z3;simp only [k0];go_simp;exact hR _ _ (hJ.known (by decide) rfl)
     go_simp;refine hK _ ?_;clear hK K;refine Zb rfl (fun S w' hS hA hD hJ R hR=>?_) (fun K hK=>?_)
     · have h5:S 5=false:=hD 5 (by decide) (by decide);go_simp;exact hR _ _ (hJ.known (by decide) rfl)
     go_simp;refine hK _ ?_;clear hK K;refine Zb rfl (fun S w' hS hA hD hJ R hR=>?_) (fun K hK=>?_)
     · have h5:S 5=false:=hD 5 (by decide) (by decide);have k2:vs 2=_:=hJ.k 2 _ rfl (hA 2 (by decide));have h4:S 4=false:=hD 4 (by decide) (by decide);have hc:=ZhX w' ra l.length rc (acs l) (HSL.out.below (hJ.b h5)) (Ze6 _) (ZiP _) (by omega);have hfin:=hc.mono (fun en w'' hh=>show ∃u,en=.returned u∧R u w'' from (by obtain ⟨u,e1,e2,e3⟩:=hh;exact ⟨u,e1,hR _ _ (hJ.c3 h5 h4 e2 e3)⟩));refine Zdn 99 (.tmp 28) 26 (by rfl) Try.f99 Try.func99 (by decide) (by unfold Try.f99;simp) (.slice ra l.length rc) ?_ hfin;exact k2
     go_simp;refine hK _ ?_;clear hK K;refine Zb rfl (fun S w' hS hA hD hJ R hR=>?_) (fun K hK=>?_)
     · have h5:S 5=false:=hD 5 (by decide) (by decide);have k2:vs 2=_:=hJ.k 2 _ rfl (hA 2 (by decide));have h3:S 3=true:=hA 3 (by decide);obtain ⟨ox,cx,ex⟩:=Zg (hJ.s3 h3 h5);have hfin:=hR _ _ (hJ.c4 h5 h3);rw [ex] at hfin;simp only [ex];go_simp;exact hfin
     go_simp;refine hK _ ?_;clear hK K;refine Zb rfl (fun S w' hS hA hD hJ R hR=>?_) (fun K hK=>?_)
     · have h5:S 5=false:=hS;have k0:vs 0=_:=hJ.k 0 _ rfl (hA 0 (by decide));have k1:vs 1=_:=hJ.k 1 _ rfl (hA 1 (by decide));have k2:vs 2=_:=hJ.k 2 _ rfl (hA 2 (by decide));have h3:S 3=true:=hA 3 (by decide);have h7:S 7=false:=hD 7 (by decide) (by decide);obtain ⟨gx,kx,hx1,hx2⟩:=hJ.s4 (hA 4 (by decide)) h5;obtain ⟨ox,cx,ex⟩:=Zg (hJ.s3 h3 h5);have hone:(vs 3).oneCell'=true:=by rw [ex];rfl
       obtain ⟨u9,w9,hrun,r1,r2,r3⟩:=run_append_own_at (P:=Try.prog) w' W1.heap.size 25 25 26 i4 _ 1 24 Try.underlying25 hi4 hy0 hy1 hy2 rfl (by decide) o i us (Zx HTI.out.o1 (hJ.b h5) lr_) ⟨gx,0,none⟩ 1 1 [vs 3] rfl (ZgL hx1) (by intro u hu;simp at hu;rw [hu];exact hone) (by unfold maxLen;omega) (by omega) (Nat.le_trans HTI.out.b.size (hJ.b h5).size);have hfin:=hR _ _ (hJ.c5 h5 h7 h3 r1 r2 r3.2);refine Zaq (.tmp 27) (.tmp 30) 25 (by rfl) o (.slice (some ⟨gx,0,none⟩) 1 1) ?_ ?_ hrun ?_
       · exact k1
       · exact kx
       · exact hfin
     go_simp;refine hK _ ?_;clear hK K;refine Zb rfl (fun S w' hS hA hD hJ R hR=>?_) (fun K hK=>?_)
     · have h5:S 5=true:=hA 5 (by decide);have k0:vs 0=_:=hJ.k 0 _ rfl (hA 0 (by decide));have k1:vs 1=_:=hJ.k 1 _ rfl (hA 1 (by decide));have k2:vs 2=_:=hJ.k 2 _ rfl (hA 2 (by decide));simp only [k0,k1,k2];go_simp;exact hR _ _ (hJ.known (by decide) rfl)
     go_simp;refine hK _ ?_;clear hK K;refine Zb rfl (fun S w' hS hA hD hJ R hR=>?_) (fun K hK=>?_)
     · have h5:S 5=true:=hA 5 (by decide);have k0:vs 0=_:=hJ.k 0 _ rfl (hA 0 (by decide));have k1:vs 1=_:=hJ.k 1 _ rfl (hA 1 (by decide));have k2:vs 2=_:=hJ.k 2 _ rfl (hA 2 (by decide));have k6:vs 6=_:=hJ.k 6 _ rfl (hA 6 (by decide));have ha:=hJ.mid h5 hS;obtain ⟨⟨w5,hb5,_,hg5⟩,hr5,_⟩:=ha;have hk6:=(HTI.out.k.below hb5 HTI.out.k.lt).grown hg5 (fun e=>ZX HTI.out.o1 HTI.out.k (by decide) e.symm);have hfz:=hk6.frozen 3;have hcz:=hk6.cell 3;obtain ⟨ox,cx,ex⟩:=Zg hr5;have hfin:=hR _ _ (hJ.c7 (c:=undef) h5 hS);generalize i+1=m9 at ex;obtain ⟨oy,hy⟩:∃oy,oy=vs 5:=⟨_,rfl⟩;have ey:=hy.trans ex;rw [←hy] at hfin ⊢;clear hy ex hJ hR hr5 hg5;subst ey;simp only [k6];go_simp;exact hfin
     go_simp;refine hK _ ?_;clear hK K;refine Z2 (fun w7 hJ=>?_);obtain ⟨x9,y9,w6,ha,e7⟩:=hJ.fin;have HT7:=Za (show Tw W1 P qb g v t m y9 (i+1) (us++[x9]) w7 by rw [e7];exact HTI.out.next HL.out ha);clear hJ ha e7;go_wp2_with fail;go_roundw
     case rel=>exact ⟨i+1,y9,us++[x9],by go_num,by omega,HT7.out⟩
     case measure =>
      simp only [intOf];omega
   · have hie:i=N:=by omega
     subst hie;have hiI:¬(i:Int)<(i:Int):=by omega
     obtain ⟨z0,z1,z2,z3,z4,y0,y1,y2,y3,y4⟩:=ZeJ htw.k;have hkr:Blk Wi (w.heap.size+1) 28 #[.slice none 0 0,.slice none 0 0,.slice none 0 0,.slice none 0 0,.slice none 0 0]:=HKR.out.below htw.b (by have:=HKR.out.lt;omega);obtain ⟨x0,x1,x2,x3,x4,u0,u1,u2,u3,u4⟩:=ZeJ hkr;obtain ⟨og,cg,eg⟩:=Zg htw.g1;obtain ⟨ov,cv,ev⟩:=Zg htw.v1;obtain ⟨ot,ct,et⟩:=Zg htw.t1;obtain ⟨oo,co,eo⟩:=Zg htw.o1;obtain ⟨om,cm,em⟩:=Zg htw.m1;have hWB:=HB1.out.trans (htw.b.mono (by omega));clear htw hkr;subst eg ev et eo em;have HFIN:=Za (fun a b c d e=>Zho (B:=w.heap.size) (a:=a) (b:=b) (c:=c) (d:=d) (e:=e) HTI.out HKR.out lr_ (by omega) hWB);clear hWB;go_wp2_with fail;refine bodyPost_ret (v:=.agg #[.slice og P.gh.length cg,.slice ov P.vs.length cv,.slice ot P.ts.length ct,.slice oo i co,.slice om P.ms.length cm]) ?_ rfl ?_
     · simp only [results,HRES.out];go_simp
     rw [HN.out];have h9:=HFIN.out (.slice og P.gh.length cg) (.slice ov P.vs.length cv) (.slice ot P.ts.length ct) (.slice oo i co) (.slice om P.ms.length cm);exact ⟨_,_,_,_,_,rfl,h9.1,h9.2.1,h9.2.2.1,us,h9.2.2.2.1,fun k l hl=>h9.2.2.2.2.1 k l (by have:=(gs_ hl).1;rw [HN.out] at this;exact this) hl,h9.2.2.2.2.2.1,h9.2.2.2.2.2.2⟩
end
end Go.Proofs.Ytdpokdcendgfeaa
