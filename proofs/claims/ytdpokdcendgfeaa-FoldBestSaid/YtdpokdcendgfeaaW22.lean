/- Several texts in one: The state of a row that is made, filled and marked in a region that draws its order. An append of so many nil lists to a row that has just been made. The reference's optimiser: hand, look. Conditions: those of each. -/
import Derived.Test.YtdpokdcendgfeaaW13
import Derived.Test.YtdpokdcendgfeaaW17
import Derived.Lib.AppendZerosOnto
set_option linter.unusedSimpArgs false
set_option linter.unusedVariables false
set_option maxHeartbeats 80000000
set_option maxRecDepth 100000
namespace Go.Proofs.Ytdpokdcendgfeaa
open Go.RowKit
structure RowSt (W:World) (tE:TypeId) (sz n:Nat) (xs ms:List Value) (s1 s2 s3 s4:Bool) (v1 v2 v3 v4:Value) (w:World):Prop where
 b:Below W.heap.size W w
 m0:s1=true→s2=false→w.ownsRow W.heap.size tE sz v1 0 []
 m1:s2=true→s4=false→w.ownsRow W.heap.size tE sz v2 n xs
 bb:s3=true→s4=false→∃g,v3=.slice (some ⟨g,0,none⟩) 1 1∧g<w.heap.size∧Src w (some ⟨g,0,none⟩) 1 ms∧(s1=true→s2=false→v1.ownBlock≠some g)∧(s2=true→v2.ownBlock≠some g)
 m2:s4=true→w.ownsRow W.heap.size tE sz v4 (n+1) (xs++ms)
section
variable {W w w':World} {tE:TypeId} {sz n:Nat} {xs ms:List Value} {s1 s2 s3 s4:Bool} {v1 v2 v3 v4:Value}
theorem RowSt.start:RowSt W tE sz n xs ms false false false false v1 v2 v3 v4 W.drew :=
 ⟨(Below.refl _ W).drew,fun h=>(by cases h),fun h=>(by cases h),fun h=>(by cases h),fun h=>(by cases h)⟩
theorem RowSt.make (h:RowSt W tE sz n xs ms false false s3 false v1 v2 v3 v4 w) {u:Value} (ho:w'.ownsRow W.heap.size tE sz u 0 []) (hu:u.ownBlock=some w.heap.size) (hb:Below w.heap.size w w'):RowSt W tE sz n xs ms true false s3 false u v2 v3 v4 w':=by
 refine ⟨h.b.trans (hb.mono h.b.size),fun _ _=>ho,fun h=>(by cases h),fun h3 h4=>?_,fun h=>(by cases h)⟩;obtain ⟨g,e,hg,hs,_,_⟩:=h.bb h3 rfl;exact ⟨g,e,Nat.lt_of_lt_of_le hg hb.size,hs.below hb,fun _ _ e2=>(by rw [hu] at e2;injection e2 with e2;omega),fun h=>(by cases h)⟩
theorem RowSt.lay (h:RowSt W tE sz n xs ms s1 s2 false false v1 v2 v3 v4 w) {g:Nat} (hg:w.heap.size=g) (hb:Below w.heap.size w w') (hl:g<w'.heap.size) (hs:Src w' (some ⟨g,0,none⟩) 1 ms):RowSt W tE sz n xs ms s1 s2 true false v1 v2 (.slice (some ⟨g,0,none⟩) 1 1) v4 w':=by
 refine ⟨h.b.trans (hb.mono h.b.size),fun a b=>Zx (h.m0 a b) hb lr_,fun a b=>Zx (h.m1 a b) hb lr_,fun _ _=>⟨g,rfl,hl,hs,fun a b e=>?_,fun a e=>?_⟩,fun h=>(by cases h)⟩
 · have:=((h.m0 a b).lt g e).2;omega
 · have:=((h.m1 a rfl).lt g e).2;omega
theorem Src.keep {w w':World} {g m:Nat} {cs:List Value} (h:Src w (some ⟨g,0,none⟩) m cs) (hk:w'.heap[g]? = w.heap[g]?) (hs:w.heap.size≤w'.heap.size):Src w' (some ⟨g,0,none⟩) m cs:=fun h0=>by
 obtain ⟨ad,e,h1,h2⟩:=h h0;injection e with e;subst e;refine ⟨_,rfl,Nat.lt_of_lt_of_le h1 hs,fun j v hj=>?_⟩;have h3:=h2 j v hj;have hadd:(⟨g,0,none⟩:Addr).add j=⟨g,j,none⟩:=by unfold Addr.add;split <;> simp_all
 rw [hadd] at h3 ⊢;rw [World.cell?_of_block (show w'.heap[(⟨g,j,none⟩:Addr).block]? = w.heap[(⟨g,j,none⟩:Addr).block]? from hk)];exact h3
theorem RowSt.fill (h:RowSt W tE sz n xs ms true false s3 false v1 v2 v3 v4 w) {u:Value} (ho:w'.ownsRow W.heap.size tE sz u n xs) (hb:Below W.heap.size w w') (hk:∀g,g<w.heap.size→v1.ownBlock≠some g→w'.heap[g]? = w.heap[g]?) (hu:u.ownBlock=v1.ownBlock∨u.ownBlock=some w.heap.size):RowSt W tE sz n xs ms true true s3 false v1 u v3 v4 w':=by
 refine ⟨h.b.trans hb,fun _ h=>(by cases h),fun _ _=>ho,fun h3 h4=>?_,fun h=>(by cases h)⟩;obtain ⟨g,e,hg,hs,hn,_⟩:=h.bb h3 rfl;have hne:=hn rfl rfl
 exact ⟨g,e,Nat.lt_of_lt_of_le hg hb.size,hs.keep (hk g hg hne) hb.size,fun _ h=>(by cases h),fun _ e2=>by
  rcases hu with q | q
  · exact hne (q▸e2)
  · rw [q] at e2;injection e2 with e2
    omega⟩
theorem RowSt.mark (h:RowSt W tE sz n xs ms true true true false v1 v2 v3 v4 w) {u:Value} (ho:w'.ownsRow W.heap.size tE sz u (n+1) (xs++ms)) (hb:Below W.heap.size w w'):RowSt W tE sz n xs ms true true true true v1 v2 v3 u w' :=
 ⟨h.b.trans hb,fun _ h=>(by cases h),fun _ h=>(by cases h),fun _ h=>(by cases h),fun _=>ho⟩
end
structure JR (W:World) (tE:TypeId) (sz n:Nat) (xs ms:List Value) (i1 i2 i3 i4 iL:Nat) (K:(Nat→Value)→Nat→Prop) (F:World→Prop) (S:Nat→Bool) (vs:Nat→Value) (w:World):Prop where
 r:S iL=false→RowSt W tE sz n xs ms (S i1) (S i2) (S i3) (S i4) (vs i1) (vs i2) (vs i3) (vs i4) w
 k:∀i,S i=true→K vs i
 f:S iL=true→F w
theorem JR.read {W w:World} {tE:TypeId} {sz n:Nat} {xs ms:List Value} {i1 i2 i3 i4 iL:Nat} {K:(Nat→Value)→Nat→Prop} {F:World→Prop} {S:Nat→Bool} {vs:Nat→Value} (h:JR W tE sz n xs ms i1 i2 i3 i4 iL K F S vs w) {j:Nat} {u:Value} (hj:j≠i1∧j≠i2∧j≠i3∧j≠i4∧j≠iL) (hk:∀i,i≠j→S i=true→K vs i→K (upn vs j u) i) (hu:K (upn vs j u) j):JR W tE sz n xs ms i1 i2 i3 i4 iL K F (upn S j true) (upn vs j u) w:=by
 obtain ⟨h1,h2,h3,h4,hL⟩:=hj;refine ⟨fun hS=>?_,fun i hi=>?_,fun hS=>?_⟩
 · rw [Zd (Ne.symm hL)] at hS;rw [Zd (Ne.symm h1),Zd (Ne.symm h2),Zd (Ne.symm h3),Zd (Ne.symm h4),Zd (Ne.symm h1),Zd (Ne.symm h2),Zd (Ne.symm h3),Zd (Ne.symm h4)];exact h.r hS
 · by_cases e:i=j
   · subst e;exact hu
   · rw [Zd e] at hi;exact hk i e hi (h.k i hi)
 · rw [Zd (Ne.symm hL)] at hS;exact h.f hS
theorem JR.row {W w w':World} {tE:TypeId} {sz n:Nat} {xs ms:List Value} {i1 i2 i3 i4 iL:Nat} {K:(Nat→Value)→Nat→Prop} {F:World→Prop} {S:Nat→Bool} {vs:Nat→Value} (h:JR W tE sz n xs ms i1 i2 i3 i4 iL K F S vs w) {j:Nat} {u:Value} (hj:j≠iL) (hL:S iL=false) (hk:∀i,i≠j→S i=true→K vs i→K (upn vs j u) i) (hu:K (upn vs j u) j)
 (hr:RowSt W tE sz n xs ms (upn S j true i1) (upn S j true i2) (upn S j true i3) (upn S j true i4) (upn vs j u i1) (upn vs j u i2) (upn vs j u i3) (upn vs j u i4) w'):JR W tE sz n xs ms i1 i2 i3 i4 iL K F (upn S j true) (upn vs j u) w':=by
 refine ⟨fun _=>hr,fun i hi=>?_,fun hS=>(by rw [Zd (Ne.symm hj),hL] at hS;cases hS)⟩
 by_cases e:i=j
 · subst e;exact hu
 · rw [Zd e] at hi;exact hk i e hi (h.k i hi)
theorem JR.last {W w w':World} {tE:TypeId} {sz n:Nat} {xs ms:List Value} {i1 i2 i3 i4 iL:Nat} {K:(Nat→Value)→Nat→Prop} {F:World→Prop} {S:Nat→Bool} {vs:Nat→Value} (h:JR W tE sz n xs ms i1 i2 i3 i4 iL K F S vs w) {u:Value} (hk:∀i,i≠iL→S i=true→K vs i→K (upn vs iL u) i) (hu:K (upn vs iL u) iL) (hF:F w'):JR W tE sz n xs ms i1 i2 i3 i4 iL K F (upn S iL true) (upn vs iL u) w':=by
 refine ⟨fun hS=>(by rw [Ze] at hS;cases hS),fun i hi=>?_,fun _=>hF⟩
 by_cases e:i=iL
 · subst e;exact hu
 · rw [Zd e] at hi;exact hk i e hi (h.k i hi)
theorem Zg4 (n:Nat):Builtin.zeroCells #[Value.slice none 0 0] n=(List.replicate n (Value.slice none 0 0)).toArray:=by
 apply Array.ext_getElem?;intro j
 by_cases hj:j<n
 · simp [Builtin.zeroCells,hj,Nat.mod_one]
 · simp [Builtin.zeroCells,hj]
theorem ZkJ {w:World} (ty:TypeId) {B c n g:Nat} (hown:w.ownsRow B 26 1 (.slice (some ⟨g,0,none⟩) 0 c) 0 []) (hn:n≤c) (hb:n≤1000) :
 ∃w',(Builtin.append_ #[25,3] ty #[.slice (some ⟨g,0,none⟩) 0 c,.int .i64 (n:Int)]).run Try.prog w=.ok (.slice (some ⟨g,0,none⟩) n c) w'∧w'.ownsRow B 26 1 (.slice (some ⟨g,0,none⟩) n c) n (List.replicate n (.slice none 0 0))∧Below B w w':=by
 obtain ⟨i0,hi,hz0,hz1,hz2⟩:=ZD Zc2;rcases hown.2 with ⟨h,_⟩ | ⟨g',cap,cur,e,hbg,hg,hnc,hcm,hcs,_⟩
 · simp at h
 · simp only [Value.slice.injEq,Option.some.injEq,Addr.mk.injEq,and_true,true_and] at e;obtain ⟨rfl,rfl⟩:=e;have hw:IntKind.i64.wrap (n:Int)=n:=by rw [IntKind.wrap_i64];omega
   have hst:=run_storeCells_at (P:=Try.prog) g 0 26 (List.replicate n (Value.slice none 0 0)) 0 cur w hg (by simp;omega) (by intro v hv;rw [List.eq_of_mem_replicate hv];rfl);obtain ⟨R,hR⟩:∃R:Array Value,(cur.toList.take (0+0)++List.replicate n (Value.slice none 0 0)++cur.toList.drop (0+0+(List.replicate n (Value.slice none 0 0)).length)).toArray=R:=⟨_,rfl⟩;rw [hR] at hst;refine ⟨w.setRow g R,?_,⟨by simp,.inr ⟨g,c,R,rfl,hbg,setRow_heap w g cur R 26 (0,0) hg,hn,hcm,?_,?_⟩⟩,⟨rfl,rfl,rfl,by simp,fun k hk=>setRow_other w g k R (by omega)⟩⟩
   · have hadd:(⟨g,0,none⟩:Addr).add 0=⟨g,0,none⟩:=by simp [Addr.add]
     by_cases h0:n=0
     · subst h0;simp only [List.replicate_zero,storeCells] at hst;have hw0:IntKind.i64.wrap 0=0:=by decide
       have hst2:w=w.setRow g R:=by simpa using hst
       simp [Builtin.append_,run_underlying Try.underlying25,run_underlying Try.underlying3,sizeOf,typeInfo,hi,hz1,hz2,asInt,asIntOf,hw0,storeCells];exact hst2
     · have hz:(Value.cells (.slice none 0 0))=#[.slice none 0 0]:=rfl;have h48:¬(281474976710656<(n:Int)*24):=by omega
       have hneg:¬((n:Int)<0):=by omega
       simp [Builtin.append_,run_underlying Try.underlying25,run_underlying Try.underlying3,sizeOf,typeInfo,hi,hz1,hz2,hz0,asInt,asIntOf,hw,h0,h48,hneg,zeroValue,hz,Zg4,hn,hadd,hst]
   · rw [←hR]
     simp
     omega
   · rw [←hR]
     simp
structure JZ (W:World) (n:Nat) (K:(Nat→Value)→Nat→Prop) (F:World→Prop) (S:Nat→Bool) (vs:Nat→Value) (w:World):Prop where
 b:S 10=false→Below W.heap.size W w
 m0:S 4=true→S 8=false→∃g,vs 4=.slice (some ⟨g,0,none⟩) 0 (n+3)∧w.ownsRow W.heap.size 26 1 (.slice (some ⟨g,0,none⟩) 0 (n+3)) 0 []
 m1:S 8=true→S 10=false→∃g,vs 8=.slice (some ⟨g,0,none⟩) n (n+3)∧w.ownsRow W.heap.size 26 1 (.slice (some ⟨g,0,none⟩) n (n+3)) n (List.replicate n (.slice none 0 0))
 k:∀i,S i=true→K vs i
 f:S 10=true→F w
section
variable {W w w':World} {n:Nat} {K:(Nat→Value)→Nat→Prop} {F:World→Prop} {S:Nat→Bool} {vs:Nat→Value} {j:Nat} {u:Value}
theorem JZ.ks (h:JZ W n K F S vs w) (hk:∀i,i≠j→S i=true→K vs i→K (upn vs j u) i) (hu:K (upn vs j u) j):∀i,upn S j true i=true→K (upn vs j u) i:=fun i hi=>by
 by_cases e:i=j
 · subst e;exact hu
 · rw [Zd e] at hi;exact hk i e hi (h.k i hi)
theorem JZ.read (h:JZ W n K F S vs w) (hj:j≠4∧j≠8∧j≠10) (hk:∀i,i≠j→S i=true→K vs i→K (upn vs j u) i) (hu:K (upn vs j u) j):JZ W n K F (upn S j true) (upn vs j u) w:=by
 obtain ⟨h4,h8,h10⟩:=hj;refine ⟨fun a=>?_,fun a b=>?_,fun a b=>?_,h.ks hk hu,fun a=>?_⟩
 · rw [Zd (Ne.symm h10)] at a;exact h.b a
 · rw [Zd (Ne.symm h4)] at a;rw [Zd (Ne.symm h8)] at b;rw [Zd (Ne.symm h4)];exact h.m0 a b
 · rw [Zd (Ne.symm h8)] at a;rw [Zd (Ne.symm h10)] at b;rw [Zd (Ne.symm h8)];exact h.m1 a b
 · rw [Zd (Ne.symm h10)] at a;exact h.f a
theorem JZ.make (h:JZ W n K F S vs w) (h8:S 8=false) (h10:S 10=false) (hb:Below w.heap.size w w') {g:Nat} (ho:w'.ownsRow W.heap.size 26 1 (.slice (some ⟨g,0,none⟩) 0 (n+3)) 0 []) (hk:∀i,i≠4→S i=true→K vs i→K (upn vs 4 (.slice (some ⟨g,0,none⟩) 0 (n+3))) i) (hu:K (upn vs 4 (.slice (some ⟨g,0,none⟩) 0 (n+3))) 4):JZ W n K F (upn S 4 true) (upn vs 4 (.slice (some ⟨g,0,none⟩) 0 (n+3))) w':=by
 refine ⟨fun _=>(h.b h10).trans (hb.mono (h.b h10).size),fun _ _=>⟨g,Ze,ho⟩,fun a _=>?_,h.ks hk hu,fun a=>?_⟩
 · rw [Zd (by decide),h8] at a;cases a
 · rw [Zd (by decide),h10] at a;cases a
theorem JZ.fill (h:JZ W n K F S vs w) (h10:S 10=false) (hb:Below W.heap.size w w') {g:Nat} (ho:w'.ownsRow W.heap.size 26 1 (.slice (some ⟨g,0,none⟩) n (n+3)) n (List.replicate n (.slice none 0 0))) (hk:∀i,i≠8→S i=true→K vs i→K (upn vs 8 (.slice (some ⟨g,0,none⟩) n (n+3))) i) (hu:K (upn vs 8 (.slice (some ⟨g,0,none⟩) n (n+3))) 8):JZ W n K F (upn S 8 true) (upn vs 8 (.slice (some ⟨g,0,none⟩) n (n+3))) w':=by
 refine ⟨fun _=>(h.b h10).trans hb,fun _ b=>?_,fun _ _=>⟨g,Ze,ho⟩,h.ks hk hu,fun a=>?_⟩
 · rw [Ze] at b;cases b
 · rw [Zd (by decide),h10] at a;cases a
theorem JZ.last (h:JZ W n K F S vs w) (hk:∀i,i≠10→S i=true→K vs i→K (upn vs 10 u) i) (hu:K (upn vs 10 u) 10) (h4:S 8=true) (hF:F w'):JZ W n K F (upn S 10 true) (upn vs 10 u) w':=by
 refine ⟨fun a=>?_,fun _ b=>?_,fun _ b=>?_,h.ks hk hu,fun _=>hF⟩
 · rw [Ze] at a;cases a
 · rw [Zd (by decide),h4] at b;cases b
 · rw [Ze] at b;cases b
end
section
attribute [local go_sem] par Zah
theorem InBox.alloc {w:World} {gb:Nat} {u0 u1:Value} {W:World} (h:InBox w gb u0 u1 W) (o:Obj):InBox w gb u0 u1 (W.alloc o):=h.below ((Below.refl _ W).alloc lr_ o)
end
end Go.Proofs.Ytdpokdcendgfeaa
