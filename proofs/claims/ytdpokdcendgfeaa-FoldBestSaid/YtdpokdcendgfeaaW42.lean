/- Several texts in one: The walk of the reference's Twin (chapter 12). Conditions: those of each. -/
import Derived.Test.YtdpokdcendgfeaaW13
import Derived.Test.YtdpokdcendgfeaaW45
set_option linter.unusedSimpArgs false
set_option linter.unusedVariables false
set_option maxHeartbeats 80000000
set_option maxRecDepth 100000
namespace Go.Proofs.Ytdpokdcendgfeaa
open Go.RowKit
section
attribute [local go_sem] par Zah
theorem Ze8 {tS tE:TypeId} {i:TypeInfo} (ht:Try.prog.underlying tS=some (.slice tE)) (hi:Try.prog.info? tE=some i) {w:World} (ty:TypeId) (g:Nat) (oa:Option Addr) (c:Nat) :
 (Builtin.append_ #[tS,tS] ty #[.slice (some ⟨g,0,none⟩) 0 0,.slice oa 0 c]).run Try.prog w=.ok (.slice (some ⟨g,0,none⟩) 0 0) w:=by
 cases oa <;> simp [Builtin.append_,run_underlying ht,sizeOf,typeInfo,hi,Builtin.lenOf,Builtin.firstCells,storeCells,loadCells,loadCellsFrom]
theorem Zdu {tS tE:TypeId} {sz byt:Nat} (E:Zgv tS tE sz byt) {w:World} (ty:TypeId) {g m c B:Nat} {oa:Option Addr} {ys:List Value} (hg:Blk w g tE #[]) (hB:B≤g) (hs:Src w oa m ys) (hy:ys.length=m*sz) (hm:m≤2000000) (hb:byt≤48) :
 ∃u w',(Builtin.append_ #[tS,tS] ty #[.slice (some ⟨g,0,none⟩) 0 0,.slice oa m c]).run Try.prog w=.ok u w'∧w'.ownsRow B tE sz u m ys∧Below w.heap.size w w':=by
 obtain ⟨i,z,e1,e2,e3,e4,e5,e6,e7⟩:=E;rcases Nat.eq_zero_or_pos m with h0 | h0
 · subst h0;have hy0:ys=[]:=List.eq_nil_of_length_eq_zero (by omega);subst hy0;exact ⟨_,_,Ze8 e1 e2 ty g oa c,⟨by simp,.inr ⟨g,0,#[],rfl,hB,hg,lr_,Nat.zero_le _,by simp,by simp⟩⟩,Below.refl _ _⟩
 · obtain ⟨ad,rfl,hab,hx⟩:=hs h0;have h63:m≤maxLen:=by unfold maxLen;omega
   have hrun:=run_append_grow (P:=Try.prog) (w:=w) tS ty tE i z e1 e2 e3 ⟨g,0,none⟩ 0 0 [] (by simp) (fun j v hj=>by simp at hj) ad m c ys (by rw [e4];exact hy) (fun j v hj=>hx j v hj) (by omega) (by omega) (by
    have h9:=nextslicecap_le (need:=0+m) (old:=0) (by omega);rw [e5];have h8:Builtin.nextslicecap (0+m) 0*byt≤Builtin.nextslicecap (0+m) 0*48:=Nat.mul_le_mul_left _ hb;generalize Builtin.nextslicecap (0+m) 0*byt=Q at h8 ⊢;generalize Builtin.nextslicecap (0+m) 0=q at h8 h9
    omega)
   have hge:=grownCap_ge w (0+m) 0 tE;have hcm:=grownCap_le_maxLen w (0+m) 0 tE (by omega);refine ⟨_,_,hrun,⟨hy,.inr ⟨w.heap.size,_,_,by rw [Nat.zero_add],Nat.le_trans hB (Nat.le_of_lt hg.lt),heap_alloc_new w.drew _,by omega,hcm,?_,?_⟩⟩,((Below.refl _ w).drew).alloc lr_ _⟩
   · have hsz:∀G,0+m≤G→0+m*sz+(G - (0+m))*sz=G*sz:=fun G h=>by
      obtain ⟨k,rfl⟩:∃k,G=0+m+k:=⟨G - (0+m),by omega⟩;rw [Nat.add_sub_cancel_left,Nat.zero_add,Nat.zero_add,Nat.add_mul]
     simp only [Array.size_append,List.size_toArray,size_zeroCells,e6,hy,List.length_nil];exact hsz _ hge
   · simp only [Array.toList_append,List.append_assoc,List.nil_append];rw [←hy]
     simp
structure JL (m:Nat) (W:World) (K:Nat→Value→World→Prop) (F:(Nat→Value)→World→Prop) (S:Nat→Bool) (vs:Nat→Value) (w:World):Prop where
 j:S m=false→JG W K S vs w
 f:S m=true→F vs w
section
variable {m:Nat} {W w w':World} {K:Nat→Value→World→Prop} {F:(Nat→Value)→World→Prop} {S:Nat→Bool} {vs:Nat→Value}
theorem JL.start (vs:Nat→Value) (h:∀i v w,m+1≤i→K i v w):JL m W K F (fun i=>decide (m+1≤i)) vs W.drew :=
 ⟨fun _=>JG.start vs h,fun e=>by simp at e;omega⟩
theorem JL.step {j:Nat} {u:Value} (h:JL m W K F S vs w) (hj:j≠m) (hK:StK K) (hm:S m=false) (hb:Below w.heap.size w w') (hu:K j u w'):JL m W K F (upn S j true) (upn vs j u) w' :=
 ⟨fun _=>(h.j hm).step hK hb hu,fun e=>by rw [Zd (Ne.symm hj),hm] at e;cases e⟩
theorem JL.last {u:Value} (hF:F (upn vs m u) w'):JL m W K F (upn S m true) (upn vs m u) w' :=
 ⟨fun e=>(by rw [Ze] at e;cases e),fun _=>hF⟩
end
structure JT5 (W:World) (K:Nat→Value→World→Prop) (A:Value→World→Prop) (c11:Value) (F:World→Prop) (S:Nat→Bool) (vs:Nat→Value) (w:World):Prop where
 j:S 10=false→JG W K S vs w
 a:S 10=true→S 12=false→A (vs 10) w∧(S 11=true→vs 11=c11)
 f:S 12=true→F w
section
variable {W w w':World} {K:Nat→Value→World→Prop} {A:Value→World→Prop} {c11:Value} {F:World→Prop} {S:Nat→Bool} {vs:Nat→Value}
theorem JT5.start (vs:Nat→Value) (h:∀i v w,13≤i→K i v w):JT5 W K A c11 F (fun i=>decide (13≤i)) vs W.drew :=
 ⟨fun _=>JG.start vs h,fun e=>by simp at e,fun e=>by simp at e⟩
theorem JT5.step {j:Nat} {u:Value} (h:JT5 W K A c11 F S vs w) (hj:j≠10∧j≠12) (hK:StK K) (h10:S 10=false) (h12:S 12=false) (hb:Below w.heap.size w w') (hu:K j u w'):JT5 W K A c11 F (upn S j true) (upn vs j u) w' :=
 ⟨fun _=>(h.j h10).step hK hb hu,fun e=>(by rw [Zd (Ne.symm hj.1),h10] at e;cases e),fun e=>by rw [Zd (Ne.symm hj.2),h12] at e;cases e⟩
theorem JT5.app {u:Value} (h:JT5 W K A c11 F S vs w) (h11:S 11=false) (h12:S 12=false) (ha:A u w'):JT5 W K A c11 F (upn S 10 true) (upn vs 10 u) w' :=
 ⟨fun e=>(by rw [Ze] at e;cases e),fun _ _=>⟨by rw [Ze];exact ha,fun e=>by rw [Zd (by decide),h11] at e;cases e⟩,fun e=>by rw [Zd (by decide),h12] at e;cases e⟩
theorem JT5.late (h:JT5 W K A c11 F S vs w) (h10:S 10=true) (h12:S 12=false):JT5 W K A c11 F (upn S 11 true) (upn vs 11 c11) w :=
 ⟨fun e=>(by rw [Zd (by decide),h10] at e;cases e),fun _ _=>⟨by rw [Zd (by decide)];exact (h.a h10 h12).1,fun _=>by rw [Ze]⟩,fun e=>by rw [Zd (by decide),h12] at e;cases e⟩
theorem JT5.last {u:Value} (h10:S 10=true) (hF:F w'):JT5 W K A c11 F (upn S 12 true) (upn vs 12 u) w' :=
 ⟨fun e=>(by rw [Zd (by decide),h10] at e;cases e),fun _ e=>(by rw [Ze] at e;cases e),fun _=>hF⟩
end
def Zce (B:Nat) (t:TypeId) (v:Value) (w:World):Prop:=∃g,v=.slice (some ⟨g,0,none⟩) 0 0∧B≤g∧Blk w g t #[]
theorem Zce.below {B:Nat} {t:TypeId} {v:Value} {w w':World} (h:Zce B t v w) (hb:Below w.heap.size w w'):Zce B t v w':=by
 obtain ⟨g,e,h1,h2⟩:=h;exact ⟨g,e,h1,h2.below hb h2.lt⟩
def KT1 (B gp:Nat) (gs vs ts ms:Value) (P:Pl):Nat→Value→World→Prop
 | 0,v,w=>Zce B 4 v w
 | 1,v,_=>v=.pointer (some ⟨gp,0,none⟩)
 | 2,v,_=>v=gs
 | 3,v,w=>w.ownsRow B 4 1 v P.gh.length (ZZ P.gh)
 | 4,v,w=>Zce B 51 v w
 | 5,v,_=>v=.pointer (some ⟨gp,1,none⟩)
 | 6,v,_=>v=vs
 | 7,v,w=>w.ownsRow B 51 3 v P.vs.length (vrs P.vs)
 | 8,v,w=>Zce B 3 v w
 | 9,v,_=>v=.pointer (some ⟨gp,2,none⟩)
 | 10,v,_=>v=ts
 | 11,v,w=>w.ownsRow B 3 1 v P.ts.length (Zm P.ts)
 | 12,v,w=>Zce B 49 v w
 | 13,v,_=>v=.pointer (some ⟨gp,4,none⟩)
 | 14,v,_=>v=ms
 | 15,v,w=>w.ownsRow B 49 6 v P.ms.length (acs P.ms)
 | 16,x,w=>∃g v t m,x=.agg #[g,v,t,.slice none 0 0,m]∧w.ownsRow B 4 1 g P.gh.length (ZZ P.gh)∧w.ownsRow B 51 3 v P.vs.length (vrs P.vs)∧w.ownsRow B 3 1 t P.ts.length (Zm P.ts)∧w.ownsRow B 49 6 m P.ms.length (acs P.ms)
 | 17,v,w=>∃q,v=.pointer (some ⟨q,0,none⟩)∧B≤q∧Blk w q 28 Zgj
 | _,_,_=>True
theorem Zbi {B gp:Nat} {gs vs ts ms:Value} {P:Pl}:StK (KT1 B gp gs vs ts ms P):=fun i v w w' h hb=>by
 match i with
 | 0 | 4 | 8 | 12=>exact Zce.below h hb
 | 1 | 2 | 5 | 6 | 9 | 10 | 13 | 14=>exact h
 | 3 | 7 | 11 | 15=>exact Zx h hb lr_
 | 16 =>
  obtain ⟨g,v,t,m,e,h1,h2,h3,h4⟩:=h;exact ⟨g,v,t,m,e,Zx h1 hb lr_,Zx h2 hb lr_,Zx h3 hb lr_,Zx h4 hb lr_⟩
 | 17 =>
  obtain ⟨q,e,h1,h2⟩:=h;exact ⟨q,e,h1,h2.below hb h2.lt⟩
 | _+18=>trivial
def FT1 (W:World) (P:Pl) (vs:Nat→Value) (w:World):Prop:=∃q g v t m,vs 17=.pointer (some ⟨q,0,none⟩)∧Tw W P q g v t m (.slice none 0 0) 0 [] w
def KT5 (B gp q i n:Nat) (o p s:Value) (ad:Addr) (l:List Ac):Nat→Value→World→Prop
 | 0,v,_=>v=.pointer (some ⟨q,3,none⟩)
 | 1,v,_=>v=o
 | 2,v,w=>Zce B 49 v w
 | 3,v,_=>v=.pointer (some ⟨gp,3,none⟩)
 | 4,v,_=>v=p
 | 5,v,_=>v=.int .i64 (i:Int)
 | 6,v,_=>v=.pointer (some (ad.add i))
 | 7,v,_=>v=s
 | 8,v,w=>w.ownsRow B 49 6 v l.length (acs l)
 | 9,v,w=>∃g x,v=.slice (some ⟨g,0,none⟩) 1 1∧w.cell? ⟨g,0,none⟩=some x∧g<w.heap.size∧w.ownsRow B 49 6 x l.length (acs l)
 | _,_,_=>True
theorem ZcR {B gp q i n:Nat} {o p s:Value} {ad:Addr} {l:List Ac}:StK (KT5 B gp q i n o p s ad l):=fun j v w w' h hb=>by
 match j with
 | 0 | 1 | 3 | 4 | 5 | 6 | 7=>exact h
 | 2=>exact Zce.below h hb
 | 8=>exact Zx h hb lr_
 | 9 =>
  obtain ⟨g,x,e,h1,h2,h3⟩:=h;exact ⟨g,x,e,(hb.cell (p:=⟨g,0,none⟩) h2).trans h1,Nat.lt_of_lt_of_le h2 hb.size,Zx h3 hb lr_⟩
 | _+10=>trivial
theorem Zl9 {W w:World} {P:Pl} {q:Nat} {g v t m:Value} {vs:Nat→Value} (hb:Below W.heap.size W w) (hq:W.heap.size≤q) (hk:Blk w q 28 Zgj) (o1:w.ownsRow W.heap.size 4 1 g P.gh.length (ZZ P.gh)) (o2:w.ownsRow W.heap.size 51 3 v P.vs.length (vrs P.vs)) (o3:w.ownsRow W.heap.size 3 1 t P.ts.length (Zm P.ts)) (o4:w.ownsRow W.heap.size 49 6 m P.ms.length (acs P.ms)) (h17:vs 17=.pointer (some ⟨q,0,none⟩)) :
 FT1 W P vs (((((w.setCell ⟨q,0,none⟩ g).setCell ⟨q,1,none⟩ v).setCell ⟨q,2,none⟩ t).setCell ⟨q,3,none⟩ (.slice none 0 0)).setCell ⟨q,4,none⟩ m):=by
 have ho:Only (fun k=>k=q) w (((((w.setCell ⟨q,0,none⟩ g).setCell ⟨q,1,none⟩ v).setCell ⟨q,2,none⟩ t).setCell ⟨q,3,none⟩ (.slice none 0 0)).setCell ⟨q,4,none⟩ m) :=
  (((((Only.refl (fun k=>k=q) w).setCell (p:=⟨q,0,none⟩) (.inl rfl) _).setCell (p:=⟨q,1,none⟩) (.inl rfl) _).setCell (p:=⟨q,2,none⟩) (.inl rfl) _).setCell (p:=⟨q,3,none⟩) (.inl rfl) _).setCell (p:=⟨q,4,none⟩) (.inl rfl) _
 have hrow:∀ {e:TypeId} {size n:Nat} {x:Value} {xs:List Value},e≠28→w.ownsRow W.heap.size e size x n xs→(((((w.setCell ⟨q,0,none⟩ g).setCell ⟨q,1,none⟩ v).setCell ⟨q,2,none⟩ t).setCell ⟨q,3,none⟩ (.slice none 0 0)).setCell ⟨q,4,none⟩ m).ownsRow W.heap.size e size x n xs :=
  fun hd h9=>ZaG h9 ho (fun k hk1 hk2=>ZX h9 hk hd (by rw [hk1,hk2]))
 exact ⟨q,g,v,t,m,h17,((((hk.set_ 0 g).set_ 1 v).set_ 2 t).set_ 3 (.slice none 0 0)).set_ 4 m,hq,hrow (by decide) o1,hrow (by decide) o2,hrow (by decide) o3,hrow (by decide) o4,World.ownsRow_nil _ _ _ _,fun k l hk _=>absurd hk (Nat.not_lt_zero k),hb.trans (ho.below (fun k hk=>by rw [hk];exact hq) hb.size)⟩
theorem ZkT (P:Pl) (w:World) (q:PlV) (rs:List (Option Addr×Nat)) (h:PlMem w q P rs) (k1:P.gh.length≤100) (k2:P.vs.length≤100) (k3:P.ts.length≤100) (k4:P.on.length≤100) (k5:∀l ∈ P.on++[P.ms],l.length≤262144) :
 Calls Try.prog 36 #[q.val] w fun en w'=>∃(g v t o m:Value) (us:List Value),en=.returned (.agg #[g,v,t,o,m])∧w'.ownsRow w.heap.size 4 1 g P.gh.length (ZZ P.gh)∧w'.ownsRow w.heap.size 51 3 v P.vs.length (vrs P.vs)∧w'.ownsRow w.heap.size 3 1 t P.ts.length (Zm P.ts) ∧
  w'.ownsRow w.heap.size 26 1 o P.on.length us∧(∀(i:Nat) (l:List Ac),P.on[i]? = some l→∃u,us[i]? = some u∧w'.ownsRow w.heap.size 49 6 u l.length (acs l))∧w'.ownsRow w.heap.size 49 6 m P.ms.length (acs P.ms)∧Below w.heap.size w w':=by
 have HRES:=Za (show Try.f36.results=#[.cell 2 28] by kernel_rfl);have HM0:=Za h;have HROW:=Za k5;obtain ⟨e1,e2,e3,e4,e5,_,_,_,_,_,_⟩:=h;obtain ⟨ga,va,ta,oa,ma,gl,gc,vl,vc,tl,tc,ol,oc,ml,mc⟩:=q;simp only at e1 e2 e3 e4 e5;subst e1 e2 e3 e4 e5;simp only [PlV.val];have hbx:=Blk.new w 28 #[.slice ga P.gh.length gc,.slice va P.vs.length vc,.slice ta P.ts.length tc,.slice oa P.on.length oc,.slice ma P.ms.length mc];go_enter Try.func36,Try.ntmps36;have hb0:=((Below.refl w.heap.size w).alloc lr_ (.cells #[.slice ga P.gh.length gc,.slice va P.vs.length vc,.slice ta P.ts.length tc,.slice oa P.on.length oc,.slice ma P.ms.length mc] 28)).alloc (by simp) (.cells #[.slice none 0 0,.slice none 0 0,.slice none 0 0,.slice none 0 0,.slice none 0 0] 28);have hbk:=hbx.alloc (.cells #[.slice none 0 0,.slice none 0 0,.slice none 0 0,.slice none 0 0,.slice none 0 0] 28);go_upto_region 1 with fail;have HB1:=Za hb0;have HK1:=Za hbk;have hsz1:((w.alloc (.cells #[.slice ga P.gh.length gc,.slice va P.vs.length vc,.slice ta P.ts.length tc,.slice oa P.on.length oc,.slice ma P.ms.length mc] 28)).alloc (.cells #[.slice none 0 0,.slice none 0 0,.slice none 0 0,.slice none 0 0,.slice none 0 0] 28)).heap.size=w.heap.size+2:=by simp
 have hkr:=Blk.new (w.alloc (.cells #[.slice ga P.gh.length gc,.slice va P.vs.length vc,.slice ta P.ts.length tc,.slice oa P.on.length oc,.slice ma P.ms.length mc] 28)) 28 #[.slice none 0 0,.slice none 0 0,.slice none 0 0,.slice none 0 0,.slice none 0 0];have hs9:(w.alloc (.cells #[.slice ga P.gh.length gc,.slice va P.vs.length vc,.slice ta P.ts.length tc,.slice oa P.on.length oc,.slice ma P.ms.length mc] 28)).heap.size=w.heap.size+1:=by simp
 rw [hs9] at hkr;have HKR:=Za hkr;clear hb0 hbk hbx hs9 hkr;generalize ((w.alloc (.cells #[.slice ga P.gh.length gc,.slice va P.vs.length vc,.slice ta P.ts.length tc,.slice oa P.on.length oc,.slice ma P.ms.length mc] 28)).alloc (.cells #[.slice none 0 0,.slice none 0 0,.slice none 0 0,.slice none 0 0,.slice none 0 0] 28))=W1 at HB1 HK1 hsz1 HKR ⊢;have HM:=Za (HM0.out.below HB1.out);have hrl:=HM.out.e.1;simp only [List.length_append,List.length_cons,List.length_nil] at hrl;have hrl2:rs.length=P.on.length:=by omega
 have HSM:=Za ((HM.out.e.2 P.on.length ma mc P.ms (by rw [←hrl2];simp) (by simp)).1);have hms:P.ms.length≤262144:=k5 _ (by simp);have b0:W1.cell? ⟨w.heap.size,0,none⟩=some (.slice ga P.gh.length gc):=HK1.out.cell 0;have b1:W1.cell? ⟨w.heap.size,1,none⟩=some (.slice va P.vs.length vc):=HK1.out.cell 1;have b2:W1.cell? ⟨w.heap.size,2,none⟩=some (.slice ta P.ts.length tc):=HK1.out.cell 2;have b3:W1.cell? ⟨w.heap.size,3,none⟩=some (.slice oa P.on.length oc):=HK1.out.cell 3;have b4:W1.cell? ⟨w.heap.size,4,none⟩=some (.slice ma P.ms.length mc):=HK1.out.cell 4;have hpl:w.heap.size<W1.heap.size:=by omega
 have HPL:=Za hpl;have HZ1:=Za hsz1;refine ZB (JL 18 W1 (KT1 W1.heap.size w.heap.size (.slice ga P.gh.length gc) (.slice va P.vs.length vc) (.slice ta P.ts.length tc) (.slice ma P.ms.length mc) P) (FT1 W1 P)) [[],[],[1],[0,1,2],[],[],[5],[0,1,2,3,4,5,6],[],[],[9],[0,1,2,3,4,5,6,7,8,9,10],[],[],[13],[0,1,2,3,4,5,6,7,8,9,10,11,12,13,14],[0,1,2,3,4,5,6,7,8,9,10,11,12,13,14,15],[],[0,1,2,3,4,5,6,7,8,9,10,11,12,13,14,15,16,17]] (by kernel_rfl) (by kernel_rfl) (fun vs=>JL.start vs (fun i v w hi=>by match i,hi with | _+19,_=>trivial)) (fun vs=>?_);refine Zb rfl (fun S w9 hS hA hD hJ R hR=>?_) (fun K hK=>?_)
 · have h9:S 18=false:=hD 18 (by decide) (by decide);have hbj:=(hJ.j h9).b;go_simp;exact hR _ _ (hJ.step (by decide) Zbi h9 ((Below.refl _ w9).alloc lr_ _) ⟨w9.heap.size,rfl,hbj.size,Blk.new _ _ _⟩)
 go_simp;refine hK _ ?_;clear hK K;refine Zb rfl (fun S w9 hS hA hD hJ R hR=>?_) (fun K hK=>?_)
 · have h9:S 18=false:=hD 18 (by decide) (by decide);have hbj:=(hJ.j h9).b;go_simp;exact hR _ _ (hJ.step (by decide) Zbi h9 br_ rfl)
 go_simp;refine hK _ ?_;clear hK K;refine Zb rfl (fun S w9 hS hA hD hJ R hR=>?_) (fun K hK=>?_)
 · have h9:S 18=false:=hD 18 (by decide) (by decide);have hbj:=(hJ.j h9).b;have k1:vs 1=_:=(hJ.j h9).k 1 (hA 1 (by decide));have z0:=(hbj.cell (p:=⟨w.heap.size,0,none⟩) hpl).trans b0;simp only [k1];go_simp;exact hR _ _ (hJ.step (by decide) Zbi h9 br_ rfl)
 go_simp;refine hK _ ?_;clear hK K;refine Zb rfl (fun S w9 hS hA hD hJ R hR=>?_) (fun K hK=>?_)
 · have h9:S 18=false:=hD 18 (by decide) (by decide);have hbj:=(hJ.j h9).b;have k2:vs 2=_:=(hJ.j h9).k 2 (hA 2 (by decide));obtain ⟨g9,k0,hg9,hk9⟩:=(hJ.j h9).k 0 (hA 0 (by decide));obtain ⟨u9,v9,hrun,r1,r2⟩:=Zdu (c:=gc) elB 22 hk9 hg9 (HM.out.g.below hbj) (Zg2 _) (by omega) (by decide);have hfin:=hR _ _ (hJ.step (by decide) Zbi h9 r2 r1);exact Zaq (.tmp 5) (.tmp 7) 22 (by rfl) _ _ (by simp [Act.eval,Act.put,k0]) (by simp [Act.eval,Act.put,k2]) hrun hfin
 go_simp;refine hK _ ?_;clear hK K;refine Zb rfl (fun S w9 hS hA hD hJ R hR=>?_) (fun K hK=>?_)
 · have h9:S 18=false:=hD 18 (by decide) (by decide);have hbj:=(hJ.j h9).b;go_simp;exact hR _ _ (hJ.step (by decide) Zbi h9 ((Below.refl _ w9).alloc lr_ _) ⟨w9.heap.size,rfl,hbj.size,Blk.new _ _ _⟩)
 go_simp;refine hK _ ?_;clear hK K;refine Zb rfl (fun S w9 hS hA hD hJ R hR=>?_) (fun K hK=>?_)
 · have h9:S 18=false:=hD 18 (by decide) (by decide);have hbj:=(hJ.j h9).b;go_simp;exact hR _ _ (hJ.step (by decide) Zbi h9 br_ rfl)
 go_simp;refine hK _ ?_;clear hK K;refine Zb rfl (fun S w9 hS hA hD hJ R hR=>?_) (fun K hK=>?_)
 · have h9:S 18=false:=hD 18 (by decide) (by decide);have hbj:=(hJ.j h9).b;have k5:vs 5=_:=(hJ.j h9).k 5 (hA 5 (by decide));have z0:=(hbj.cell (p:=⟨w.heap.size,1,none⟩) hpl).trans b1;simp only [k5];go_simp;exact hR _ _ (hJ.step (by decide) Zbi h9 br_ rfl)
 go_simp;refine hK _ ?_;clear hK K;refine Zb rfl (fun S w9 hS hA hD hJ R hR=>?_) (fun K hK=>?_)
 · have h9:S 18=false:=hD 18 (by decide) (by decide);have hbj:=(hJ.j h9).b;have k6:vs 6=_:=(hJ.j h9).k 6 (hA 6 (by decide));obtain ⟨g9,k4,hg9,hk9⟩:=(hJ.j h9).k 4 (hA 4 (by decide));obtain ⟨u9,v9,hrun,r1,r2⟩:=Zdu (c:=vc) elV 23 hk9 hg9 (HM.out.v.below hbj) (Zit _) (by omega) (by decide);have hfin:=hR _ _ (hJ.step (by decide) Zbi h9 r2 r1);exact Zaq (.tmp 9) (.tmp 11) 23 (by rfl) _ _ (by simp [Act.eval,Act.put,k4]) (by simp [Act.eval,Act.put,k6]) hrun hfin
 go_simp;refine hK _ ?_;clear hK K;refine Zb rfl (fun S w9 hS hA hD hJ R hR=>?_) (fun K hK=>?_)
 · have h9:S 18=false:=hD 18 (by decide) (by decide);have hbj:=(hJ.j h9).b;go_simp;exact hR _ _ (hJ.step (by decide) Zbi h9 ((Below.refl _ w9).alloc lr_ _) ⟨w9.heap.size,rfl,hbj.size,Blk.new _ _ _⟩)
 go_simp;refine hK _ ?_;clear hK K;refine Zb rfl (fun S w9 hS hA hD hJ R hR=>?_) (fun K hK=>?_)
 · have h9:S 18=false:=hD 18 (by decide) (by decide);have hbj:=(hJ.j h9).b;go_simp;exact hR _ _ (hJ.step (by decide) Zbi h9 br_ rfl)
 go_simp;refine hK _ ?_;clear hK K;refine Zb rfl (fun S w9 hS hA hD hJ R hR=>?_) (fun K hK=>?_)
 · have h9:S 18=false:=hD 18 (by decide) (by decide);have hbj:=(hJ.j h9).b;have k9:vs 9=_:=(hJ.j h9).k 9 (hA 9 (by decide));have z0:=(hbj.cell (p:=⟨w.heap.size,2,none⟩) hpl).trans b2;simp only [k9];go_simp;exact hR _ _ (hJ.step (by decide) Zbi h9 br_ rfl)
 go_simp;refine hK _ ?_;clear hK K;refine Zb rfl (fun S w9 hS hA hD hJ R hR=>?_) (fun K hK=>?_)
 · have h9:S 18=false:=hD 18 (by decide) (by decide);have hbj:=(hJ.j h9).b;have k10:vs 10=_:=(hJ.j h9).k 10 (hA 10 (by decide));obtain ⟨g9,k8,hg9,hk9⟩:=(hJ.j h9).k 8 (hA 8 (by decide));obtain ⟨u9,v9,hrun,r1,r2⟩:=Zdu (c:=tc) elI 24 hk9 hg9 (HM.out.t.below hbj) (ZgZ _) (by omega) (by decide);have hfin:=hR _ _ (hJ.step (by decide) Zbi h9 r2 r1);exact Zaq (.tmp 13) (.tmp 15) 24 (by rfl) _ _ (by simp [Act.eval,Act.put,k8]) (by simp [Act.eval,Act.put,k10]) hrun hfin
 go_simp;refine hK _ ?_;clear hK K;refine Zb rfl (fun S w9 hS hA hD hJ R hR=>?_) (fun K hK=>?_)
 · have h9:S 18=false:=hD 18 (by decide) (by decide);have hbj:=(hJ.j h9).b;go_simp;exact hR _ _ (hJ.step (by decide) Zbi h9 ((Below.refl _ w9).alloc lr_ _) ⟨w9.heap.size,rfl,hbj.size,Blk.new _ _ _⟩)
 go_simp;refine hK _ ?_;clear hK K;refine Zb rfl (fun S w9 hS hA hD hJ R hR=>?_) (fun K hK=>?_)
 · have h9:S 18=false:=hD 18 (by decide) (by decide);have hbj:=(hJ.j h9).b;go_simp;exact hR _ _ (hJ.step (by decide) Zbi h9 br_ rfl)
 go_simp;refine hK _ ?_;clear hK K;refine Zb rfl (fun S w9 hS hA hD hJ R hR=>?_) (fun K hK=>?_)
 · have h9:S 18=false:=hD 18 (by decide) (by decide);have hbj:=(hJ.j h9).b;have k13:vs 13=_:=(hJ.j h9).k 13 (hA 13 (by decide));have z0:=(hbj.cell (p:=⟨w.heap.size,4,none⟩) hpl).trans b4;simp only [k13];go_simp;exact hR _ _ (hJ.step (by decide) Zbi h9 br_ rfl)
 go_simp;refine hK _ ?_;clear hK K;refine Zb rfl (fun S w9 hS hA hD hJ R hR=>?_) (fun K hK=>?_)
 · have h9:S 18=false:=hD 18 (by decide) (by decide);have hbj:=(hJ.j h9).b;have k14:vs 14=_:=(hJ.j h9).k 14 (hA 14 (by decide));obtain ⟨g9,k12,hg9,hk9⟩:=(hJ.j h9).k 12 (hA 12 (by decide));obtain ⟨u9,v9,hrun,r1,r2⟩:=Zdu (c:=mc) elA 26 hk9 hg9 (HSM.out.below hbj) (Ze6 _) (by omega) (by decide);have hfin:=hR _ _ (hJ.step (by decide) Zbi h9 r2 r1);exact Zaq (.tmp 17) (.tmp 19) 26 (by rfl) _ _ (by simp [Act.eval,Act.put,k12]) (by simp [Act.eval,Act.put,k14]) hrun hfin
 go_simp;refine hK _ ?_;clear hK K;refine Zb rfl (fun S w9 hS hA hD hJ R hR=>?_) (fun K hK=>?_)
 · have h9:S 18=false:=hD 18 (by decide) (by decide);have hbj:=(hJ.j h9).b;have q3:=(hJ.j h9).k 3 (hA 3 (by decide));have q7:=(hJ.j h9).k 7 (hA 7 (by decide));have q11:=(hJ.j h9).k 11 (hA 11 (by decide));have q15:=(hJ.j h9).k 15 (hA 15 (by decide));have hfin:=hR _ _ (hJ.step (by decide) Zbi h9 br_ (u:=.agg #[vs 3,vs 7,vs 11,.slice none 0 0,vs 15]) ⟨_,_,_,_,rfl,q3,q7,q11,q15⟩);obtain ⟨o3,c3,e3⟩:=Zg q3;obtain ⟨o7,c7,e7⟩:=Zg q7;obtain ⟨o11,c11,e11⟩:=Zg q11;obtain ⟨o15,c15,e15⟩:=Zg q15;rw [e3,e7,e11,e15] at hfin;simp only [e3,e7,e11,e15];go_simp;exact hfin
 go_simp;refine hK _ ?_;clear hK K;refine Zb rfl (fun S w9 hS hA hD hJ R hR=>?_) (fun K hK=>?_)
 · have h9:S 18=false:=hD 18 (by decide) (by decide);have hbj:=(hJ.j h9).b;have hfin:=hR _ _ (hJ.step (by decide) Zbi h9 ((Below.refl _ w9).alloc lr_ (.cells Zgj 28)) (j:=17) (u:=.pointer (some ⟨w9.heap.size,0,none⟩)) ⟨w9.heap.size,rfl,hbj.size,Blk.new _ _ _⟩);go_simp;exact hfin
 go_simp;refine hK _ ?_;clear hK K;refine Zb rfl (fun S w9 hS hA hD hJ R hR=>?_) (fun K hK=>?_)
 · have h9:S 18=false:=hS;have hbj:=(hJ.j h9).b;obtain ⟨qb,k17,hq,hbk⟩:=(hJ.j h9).k 17 (hA 17 (by decide));obtain ⟨g,v,t,m,k16,o1,o2,o3,o4⟩:=(hJ.j h9).k 16 (hA 16 (by decide));have hfin:=hR undef _ (JL.last (m:=18) (u:=undef) (F:=FT1 W1 P) (Zl9 hbj hq hbk o1 o2 o3 o4 ((Zd (by decide)).trans k17)));obtain ⟨oo1,oc1,eo1⟩:=Zg o1;obtain ⟨oo2,oc2,eo2⟩:=Zg o2;obtain ⟨oo3,oc3,eo3⟩:=Zg o3;obtain ⟨oo4,oc4,eo4⟩:=Zg o4;rw [eo1,eo2,eo3,eo4] at hfin;rw [eo1,eo2,eo3,eo4] at k16;obtain ⟨z0,z1,z2,z3,z4,y0,y1,y2,y3,y4⟩:=ZeJ hbk;simp only [k17,k16];go_simp;exact hfin
 go_simp;refine hK _ ?_;clear hK K;refine Z2 (fun wx hJ=>?_);obtain ⟨qb,g,v,t,m,k17,htw⟩:=hJ.f rfl;have HTW:=Za htw;have b3x:wx.cell? ⟨w.heap.size,3,none⟩=some (.slice oa P.on.length oc):=(htw.b.cell hpl).trans b3;clear hJ htw;simp only [k17];clear k17 b0 b1 b2 b3 b4;obtain ⟨N,hN⟩:∃N,P.on.length=N:=⟨_,rfl⟩;rw [hN] at b3x k4;have HN:=Za hN;have HB3X:=Za b3x;clear hN b3x;go_wp2_with fail;go_loopw [4] (fun t4 Wi=>∃(i:Nat) (o:Value) (us:List Value),t4=.int .i64 (i:Int)∧i≤N∧Tw W1 P qb g v t m o i us Wi) (fun t4 _=>N - (intOf t4).toNat)
 case atStart=>exact ⟨0,.slice none 0 0,[],rfl,Nat.zero_le _,HTW.out⟩
 case round =>
  obtain ⟨i,o,us,rfl,hi,htw⟩:=hrel;rename World=>Wi
  have HTI:=Za htw;have hq2:=IntWalk.i64_in ((i:Int)+1) (by omega);have hi0:(0:Int)≤(i:Int):=by omega
  have x3:Wi.cell? ⟨w.heap.size,3,none⟩=some (.slice oa N oc):=by have h9:=(htw.b.cell (p:=⟨w.heap.size,3,none⟩) HPL.out).trans (HK1.out.cell 3);rw [←HN.out];exact h9
  by_cases hil:i<N
  · have hiI:(i:Int)<(N:Int):=by omega
    obtain ⟨l,hl⟩:∃l,P.on[i]? = some l:=⟨_,ge_ (by rw [HN.out];exact hil)⟩;obtain ⟨⟨ra,rc⟩,hr⟩:∃r,rs[i]? = some r:=⟨_,ge_ (by rw [hrl2,HN.out];exact hil)⟩;obtain ⟨ad,e,hab,q0⟩:=Za3 (HM.out.below htw.b).o (i:=i) (v:=.slice ra l.length rc) (by rw [HN.out];omega) (ZaS _ _ i _ _ hr hl);simp only at e;subst e;have HSL:=Za ((HM.out.below htw.b).e.2 i ra rc l (by rw [List.getElem?_append_left (by rw [hrl2,HN.out];exact hil)];exact hr) (by rw [List.getElem?_append_left (by rw [HN.out];exact hil)];exact hl)).1;have hll:l.length≤262144:=HROW.out l (List.mem_append_left _ (List.mem_of_getElem? hl));have HL:=Za hl;have hk:=htw.k;obtain ⟨z0,z1,z2,z3,z4,y0,y1,y2,y3,y4⟩:=ZeJ hk;have hqlt:=hk.lt;have hplt:w.heap.size<Wi.heap.size:=Nat.lt_of_lt_of_le HPL.out htw.b.size;obtain ⟨i4,hi4,hy0,hy1,hy2⟩:=ZD Zc2;have HAB:=Za (show (ad.add i).block<Wi.heap.size by rw [Zl];exact hab);clear hl hr htw hk;go_upto_region 5 with fail;refine ZB (JT5 Wi (KT5 Wi.heap.size w.heap.size qb i N o (.slice (some ad) N oc) (.slice ra l.length rc) ad l) (fun y w6=>∃x,App5 Wi W1.heap.size qb i o us l x y w6) (.pointer (some ⟨qb,3,none⟩)) (fun w7=>∃x y w6,App5 Wi W1.heap.size qb i o us l x y w6∧w7=w6.setCell ⟨qb,3,none⟩ y)) [[],[0],[],[],[3],[],[3,4,5],[3,4,5,6],[2,3,4,5,6,7],[2,3,4,5,6,7,8],[0,1,2,3,4,5,6,7,8,9],[0,1,2,3,4,5,6,7,8,9,10],[0,1,2,3,4,5,6,7,8,9,10,11]] (by kernel_rfl) (by kernel_rfl) (fun vs=>JT5.start vs (fun i v w hi=>by match i,hi with | _+13,_=>trivial)) (fun vs=>?_);refine Zb rfl (fun S w9 hS hA hD hJ R hR=>?_) (fun K hK=>?_)
    · have h9:S 10=false:=hD 10 (by decide) (by decide);have h12:S 12=false:=hD 12 (by decide) (by decide);have hbj:=(hJ.j h9).b;go_simp;exact hR _ _ (hJ.step (by decide) ZcR h9 h12 br_ rfl)
    go_simp;refine hK _ ?_;clear hK K;refine Zb rfl (fun S w9 hS hA hD hJ R hR=>?_) (fun K hK=>?_)
    · have h9:S 10=false:=hD 10 (by decide) (by decide);have h12:S 12=false:=hD 12 (by decide) (by decide);have hbj:=(hJ.j h9).b;have k0:vs 0=_:=(hJ.j h9).k 0 (hA 0 (by decide));have z9:=(hbj.cell (p:=⟨qb,3,none⟩) hqlt).trans z3;simp only [k0];go_simp;exact hR _ _ (hJ.step (by decide) ZcR h9 h12 br_ rfl)
    go_simp;refine hK _ ?_;clear hK K;refine Zb rfl (fun S w9 hS hA hD hJ R hR=>?_) (fun K hK=>?_)
    · have h9:S 10=false:=hD 10 (by decide) (by decide);have h12:S 12=false:=hD 12 (by decide) (by decide);have hbj:=(hJ.j h9).b;go_simp;exact hR _ _ (hJ.step (by decide) ZcR h9 h12 ((Below.refl _ w9).alloc lr_ _) ⟨w9.heap.size,rfl,hbj.size,Blk.new _ _ _⟩)
    go_simp;refine hK _ ?_;clear hK K;refine Zb rfl (fun S w9 hS hA hD hJ R hR=>?_) (fun K hK=>?_)
    · have h9:S 10=false:=hD 10 (by decide) (by decide);have h12:S 12=false:=hD 12 (by decide) (by decide);have hbj:=(hJ.j h9).b;go_simp;exact hR _ _ (hJ.step (by decide) ZcR h9 h12 br_ rfl)
    go_simp;refine hK _ ?_;clear hK K;refine Zb rfl (fun S w9 hS hA hD hJ R hR=>?_) (fun K hK=>?_)
    · have h9:S 10=false:=hD 10 (by decide) (by decide);have h12:S 12=false:=hD 12 (by decide) (by decide);have hbj:=(hJ.j h9).b;have k3:vs 3=_:=(hJ.j h9).k 3 (hA 3 (by decide));have z9:=(hbj.cell (p:=⟨w.heap.size,3,none⟩) hplt).trans x3;simp only [k3];go_simp;exact hR _ _ (hJ.step (by decide) ZcR h9 h12 br_ rfl)
    go_simp;refine hK _ ?_;clear hK K;refine Zb rfl (fun S w9 hS hA hD hJ R hR=>?_) (fun K hK=>?_)
    · have h9:S 10=false:=hD 10 (by decide) (by decide);have h12:S 12=false:=hD 12 (by decide) (by decide);have hbj:=(hJ.j h9).b;go_simp;exact hR _ _ (hJ.step (by decide) ZcR h9 h12 br_ rfl)
    go_simp;refine hK _ ?_;clear hK K;refine Zb rfl (fun S w9 hS hA hD hJ R hR=>?_) (fun K hK=>?_)
    · have h9:S 10=false:=hD 10 (by decide) (by decide);have h12:S 12=false:=hD 12 (by decide) (by decide);have hbj:=(hJ.j h9).b;have k4:vs 4=_:=(hJ.j h9).k 4 (hA 4 (by decide));have k5:vs 5=_:=(hJ.j h9).k 5 (hA 5 (by decide));simp only [k4,k5];go_simp;exact hR _ _ (hJ.step (by decide) ZcR h9 h12 br_ rfl)
    go_simp;refine hK _ ?_;clear hK K;refine Zb rfl (fun S w9 hS hA hD hJ R hR=>?_) (fun K hK=>?_)
    · have h9:S 10=false:=hD 10 (by decide) (by decide);have h12:S 12=false:=hD 12 (by decide) (by decide);have hbj:=(hJ.j h9).b;have k6:vs 6=_:=(hJ.j h9).k 6 (hA 6 (by decide));have z9:=(hbj.cell (p:=ad.add i) HAB.out).trans q0;simp only [k6];go_simp;exact hR _ _ (hJ.step (by decide) ZcR h9 h12 br_ rfl)
    go_simp;refine hK _ ?_;clear hK K;refine Zb rfl (fun S w9 hS hA hD hJ R hR=>?_) (fun K hK=>?_)
    · have h9:S 10=false:=hD 10 (by decide) (by decide);have h12:S 12=false:=hD 12 (by decide) (by decide);have hbj:=(hJ.j h9).b;have k7:vs 7=_:=(hJ.j h9).k 7 (hA 7 (by decide));obtain ⟨g9,k2,hg9,hk9⟩:=(hJ.j h9).k 2 (hA 2 (by decide));obtain ⟨u9,v9,hrun,r1,r2⟩:=Zdu (c:=rc) elA 26 hk9 hg9 (HSL.out.below hbj) (Ze6 _) (by omega) (by decide);have hfin:=hR _ _ (hJ.step (by decide) ZcR h9 h12 r2 r1);exact Zaq (.tmp 31) (.tmp 36) 26 (by rfl) _ _ (by simp [Act.eval,Act.put,k2]) (by simp [Act.eval,Act.put,k7]) hrun hfin
    go_simp;refine hK _ ?_;clear hK K;refine Zb rfl (fun S w9 hS hA hD hJ R hR=>?_) (fun K hK=>?_)
    · have h9:S 10=false:=hD 10 (by decide) (by decide);have h12:S 12=false:=hD 12 (by decide) (by decide);have hbj:=(hJ.j h9).b;have q8:=(hJ.j h9).k 8 (hA 8 (by decide));obtain ⟨ox,cx,ex⟩:=Zg q8;have hfin:=hR _ _ (hJ.step (by decide) ZcR h9 h12 ((Below.refl _ w9).alloc lr_ (.cells #[vs 8] 26)) (j:=9) (u:=.slice (some ⟨w9.heap.size,0,none⟩) 1 1) ⟨w9.heap.size,vs 8,rfl,(Blk.new w9 26 #[vs 8]).cell 0,by simp,Zix q8⟩);rw [ex] at hfin;simp only [ex];go_simp;exact hfin
    go_simp;refine hK _ ?_;clear hK K;refine Zb rfl (fun S w9 hS hA hD hJ R hR=>?_) (fun K hK=>?_)
    · have h9:S 10=false:=hS;have h12:S 12=false:=hD 12 (by decide) (by decide);have hbj:=(hJ.j h9).b;have k1:vs 1=_:=(hJ.j h9).k 1 (hA 1 (by decide));obtain ⟨gx,xv,k9,hx1,hx2,hx3⟩:=(hJ.j h9).k 9 (hA 9 (by decide));have hone:xv.oneCell'=true:=by obtain ⟨ox,cx,ex⟩:=Zg hx3;rw [ex];rfl
      obtain ⟨u9,v9,hrun,r1,r2,_,r3⟩:=run_append_own_at (P:=Try.prog) w9 W1.heap.size 25 25 26 i4 _ 1 24 Try.underlying25 hi4 hy0 hy1 hy2 rfl (by decide) o i us (Zx HTI.out.o1 hbj lr_) ⟨gx,0,none⟩ 1 1 [xv] rfl (ZgL hx1) (by intro u hu;simp at hu;rw [hu];exact hone) (by unfold maxLen;omega) (by omega) (Nat.le_trans HTI.out.b.size hbj.size);have hfin:=hR _ _ (hJ.app (hD 11 (by decide) (by decide)) h12 ⟨xv,⟨⟨w9,hbj,hx3,r2⟩,r1,r3.imp id fun e=>⟨_,e,hbj.size⟩⟩⟩);exact Zaq (.tmp 30) (.tmp 38) 25 (by rfl) _ _ (by simp [Act.eval,Act.put,k1]) (by simp [Act.eval,Act.put,k9]) hrun hfin
    go_simp;refine hK _ ?_;clear hK K;refine Zb rfl (fun S w9 hS hA hD hJ R hR=>?_) (fun K hK=>?_)
    · have h9:S 10=true:=hA 10 (by decide);have h12:S 12=false:=hD 12 (by decide) (by decide);go_simp;exact hR _ _ (hJ.late h9 h12)
    go_simp;refine hK _ ?_;clear hK K;refine Zb rfl (fun S w9 hS hA hD hJ R hR=>?_) (fun K hK=>?_)
    · have h9:S 10=true:=hA 10 (by decide);have h12:S 12=false:=hS;obtain ⟨⟨xv,hap⟩,hk11⟩:=hJ.a h9 h12;have k11:=hk11 (hA 11 (by decide));have hap2:=hap;obtain ⟨⟨w5,hb5,_,hg5⟩,hr5,_⟩:=hap;have hk6:=(HTI.out.k.below hb5 HTI.out.k.lt).grown hg5 (fun e=>ZX HTI.out.o1 HTI.out.k (by decide) e.symm);have hfz:=hk6.frozen 3;have hcz:=hk6.cell 3;obtain ⟨ox,cx,ex⟩:=Zg hr5;have hfin:=hR undef _ (JT5.last (c11:=.pointer (some ⟨qb,3,none⟩)) (A:=fun y w6=>∃x,App5 Wi W1.heap.size qb i o us l x y w6) h9 ⟨xv,vs 10,w9,hap2,rfl⟩);generalize i+1=m9 at ex;obtain ⟨oy,hy⟩:∃oy,oy=vs 10:=⟨_,rfl⟩;have ey:=hy.trans ex;rw [←hy] at hfin ⊢;clear hy ex hJ hR hr5 hg5 hap2;subst ey;simp only [k11];go_simp;exact hfin
    go_simp;refine hK _ ?_;clear hK K;refine Z2 (fun w7 hJ=>?_);obtain ⟨x9,y9,w6,ha,e7⟩:=hJ.f rfl;have HT7:=Za (show Tw W1 P qb g v t m y9 (i+1) (us++[x9]) w7 by rw [e7];exact HTI.out.next HL.out ha);clear hJ ha e7;go_wp2_with fail;go_roundw
    case rel=>exact ⟨i+1,y9,us++[x9],by go_num,by omega,HT7.out⟩
    case measure =>
     simp only [intOf];omega
  · have hie:i=N:=by omega
    subst hie;have hiI:¬(i:Int)<(i:Int):=by omega
    obtain ⟨z0,z1,z2,z3,z4,y0,y1,y2,y3,y4⟩:=ZeJ htw.k;have hkr:Blk Wi (w.heap.size+1) 28 #[.slice none 0 0,.slice none 0 0,.slice none 0 0,.slice none 0 0,.slice none 0 0]:=HKR.out.below htw.b (by have:=HKR.out.lt;omega);obtain ⟨v0,v1,v2,v3,v4,u0,u1,u2,u3,u4⟩:=ZeJ hkr;obtain ⟨og,cg,eg⟩:=Zg htw.g1;obtain ⟨ov,cv,ev⟩:=Zg htw.v1;obtain ⟨ot,ct,et⟩:=Zg htw.t1;obtain ⟨oo,co,eo⟩:=Zg htw.o1;obtain ⟨om,cm,em⟩:=Zg htw.m1;have hWB:=HB1.out.trans (htw.b.mono (by have:=HZ1.out;omega));clear htw hkr;subst eg ev et eo em;have HFIN:=Za (fun a b c d e=>Zho (B:=w.heap.size) (a:=a) (b:=b) (c:=c) (d:=d) (e:=e) HTI.out HKR.out lr_ (by have:=HZ1.out;omega) hWB);clear hWB;go_wp2_with fail;refine bodyPost_ret (v:=.agg #[.slice og P.gh.length cg,.slice ov P.vs.length cv,.slice ot P.ts.length ct,.slice oo i co,.slice om P.ms.length cm]) ?_ rfl ?_
    · simp only [results,HRES.out];go_simp
    rw [HN.out];have h9:=HFIN.out (.slice og P.gh.length cg) (.slice ov P.vs.length cv) (.slice ot P.ts.length ct) (.slice oo i co) (.slice om P.ms.length cm);exact ⟨_,_,_,_,_,rfl,h9.1,h9.2.1,h9.2.2.1,us,h9.2.2.2.1,fun k l hl=>h9.2.2.2.2.1 k l (by have:=(gs_ hl).1;rw [HN.out] at this;exact this) hl,h9.2.2.2.2.2.1,h9.2.2.2.2.2.2⟩
end
end Go.Proofs.Ytdpokdcendgfeaa
