/- Several texts in one: fold.row on kids as a value; the walk of fold.without. A region that draws its order, by an invariant: what holds of the operations that are listed, whatever their order. Nothing here names the program. A region that draws its order, walked once in the order of its text, with a letter for each operation's value: what J says of what is listed stands whatever the order. Nothing here names the program. Regions that draw their order over worlds that only grow: a law for each operation. An append behind a full row. Conditions: those of each. -/
import Derived.Test.YtdpokdcendgfeaaW4
import Derived.Test.YtdpokdcendgfeaaW1
import Derived.Orders
import Derived.Tactics
import Derived.Tactics2
import Derived.Still
import Derived.KernelRfl
set_option linter.unusedSimpArgs false
set_option linter.unusedVariables false
set_option maxHeartbeats 80000000
set_option maxRecDepth 100000
namespace Go.Proofs.Ytdpokdcendgfeaa
open Go.RowKit
theorem Zgf {w:World} {B n:Nat} {u:Value} {l:List Ac} (h:w.ownsRow B 49 6 u n (acs l)):Rin w u (some l):=by
 have hl:l.length=n:=by have:=h.1;rw [ZbG] at this;omega
 subst hl;rcases h.2 with ⟨e,h0⟩ | ⟨g,cap,cur,e,hb,hg,h1,h2,h3,h4⟩
 · have h9:=Zg h;obtain ⟨oa,c,e2⟩:=h9;rw [e] at e2;injection e2 with e2 e3 e4;subst e2 e4;refine ⟨none,0,by rw [e,h0],fun hp=>by omega,by omega,by decide⟩
 · subst e;exact ⟨_,cap,rfl,Zak h,h1,h2⟩
theorem Zd9 (w:World) (x:Ac) (v:Value) (ks:List (List Ac)) (h:KsM w v ks) (hl:ks.length≤200000) (ht:Zh ks≤200000) :
 Calls Try.prog 120 #[x.val,v] w fun en w'=>∃u,en=.returned u∧Rin w' u (some (x.kid ks.length::ks.flatten))∧Below w.heap.size w w':=by
 obtain ⟨oa,c,rs,rfl,h1,h2,_⟩:=h
 cases oa with
 | none =>
  have h0:ks=[]:=by
   rcases Nat.eq_zero_or_pos ks.length with h0 | h0
   · exact List.eq_nil_of_length_eq_zero h0
   · obtain ⟨ad,e,_⟩:=h1 h0
     cases e
  subst h0;refine (ZjP w x c).mono fun en w' ⟨u,e,ho,hb⟩=>⟨u,e,Zgf ho,hb⟩
 | some ad=>exact (Zi3 w x ad c rs ks h1 h2 hl ht).mono fun en w' ⟨u,e,ho,hb⟩=>⟨u,e,Zgf ho,hb⟩
theorem KsM.tail {w:World} {ad:Addr} {n c:Nat} {k:List Ac} {ks:List (List Ac)} (h:KsM w (.slice (some ad) n c) (k::ks)):KsM w (.slice (some (ad.add 1)) (n - 1) (c - 1)) ks:=by
 obtain ⟨oa,c2,rs,e,h1,h2,h9⟩:=h;injection e with e1 e2 e3;subst e1 e2
 cases rs with
 | nil=>have:=h2.1;simp at this
 | cons r rs =>
  obtain ⟨ra,rc⟩:=r;refine ⟨some (ad.add 1),c - 1,rs,by simp,fun hp=>?_,⟨by have:=h2.1;simpa using this,fun i oa c l e1 e2=>h2.2 (i+1) oa c l (by simpa using e1) (by simpa using e2)⟩,by simp at h9;omega⟩;obtain ⟨a2,e2,hb,hx⟩:=h1 (by simp);injection e2 with e2;subst e2;refine ⟨_,rfl,by rw [Zl];exact hb,fun j v hj=>?_⟩;rw [add_add,Nat.add_comm];exact hx (j+1) v (by simpa [slv] using hj)
def Zgg (o:Option (List Ac)):List (List Ac):=match o with | some l=>[l] | none=>[]
def Zi (ks:List (List Ac)) (o:Option (List Ac)):List Ac:=(⟨1,0,0,0,0,0⟩:Ac).kid (Zgg o++ks).length::(Zgg o++ks).flatten
theorem Zb4 (l:List Ac):∀(m k:Nat) (sp:List (Nat×Nat)),ZR l m k=some sp→k≤l.length→Zh (sp.map (sub l))+k≤l.length
 | 0,k,sp,h,hk=>by
  simp only [ZR,Option.some.injEq] at h;subst h;simpa [Zh] using hk
 | m+1,k,sp,h,hk=>by
  unfold ZR at h
  cases he:ZV l k 1 with
  | none=>rw [he] at h;simp at h
  | some e =>
   rw [he] at h;simp only [Option.map_eq_some_iff] at h;obtain ⟨sp',h1,rfl⟩:=h;obtain ⟨h2,h3,h4⟩:=ZcO l _ k 1 e rfl he hk;have h5:=Zb4 l m e sp' h1 h3;have h6:=ZaL (l:=l) (r:=(k,e)) h3;simp only [Zh,List.map_cons,List.map_map,List.sum_cons] at h5 ⊢;rw [h6];simp only;omega
theorem Ziv (w:World) (v:Value) (ks:List (List Ac)) (h:KsM w v ks) (hl:ks.length≤200000) (ht:Zh ks≤200000) :
 Calls Try.prog 120 #[.agg #[.int .i64 1,.int .i64 0,.int .i64 0,.int .i64 0,.int .i64 0,.int .i64 0],v] w fun en w'=>∃u,en=.returned u∧Rin w' u (some ((⟨1,0,0,0,0,0⟩:Ac).kid ks.length::ks.flatten))∧Below w.heap.size w w' :=
 Zd9 w ⟨1,0,0,0,0,0⟩ v ks h hl ht
theorem KsM.cons {w':World} {B cl:Nat} {rs:List (Option Addr×Nat)} {ks:List (List Ac)} {l:List Ac} {al:Addr} {u:Value} (he:ZaW w' rs ks) (hl:Ro w' al cl l) (hu:w'.ownsRow B 26 1 u (1+ks.length) ([Value.slice (some al) l.length cl]++slv rs ks)):KsM w' u (l::ks):=by
 obtain ⟨oa,c,rfl⟩:=Zg hu;rw [Nat.add_comm] at hu;refine ⟨oa,c,(some al,cl)::rs,by rw [List.length_cons,Nat.add_comm],Zak hu,⟨by simp [he.1],fun i oa c l' e1 e2=>?_⟩,ZeV hu⟩
 cases i with
 | zero =>
  simp at e1 e2;obtain ⟨rfl,rfl⟩:=e1;subst e2;exact ⟨hl.s,hl.n,hl.m⟩
 | succ i=>exact he.2 i oa c l' (by simpa using e1) (by simpa using e2)
theorem ZlP {ops:Array Oper} {rest:List Oper} {o:Oper} {a:Act} {Q:Exit→Act→World→Prop} {w:World} (hgd:o.guard=none) (s x:Operand) (ho:o.op=.call { callee:=.builtin .append,args:=#[s,x],argTypes:=#[25,25] })
 (w0:World) {g n C cl L:Nat} {A al:Addr} {ks:List (List Ac)} {l:List Ac} (hs:a.eval s=.slice (some ⟨g,0,none⟩) 1 1) (hlit:w.ownsRow w0.heap.size 26 1 (.slice (some ⟨g,0,none⟩) 1 1) 1 [Value.slice (some al) L cl]) (hL:l.length=L)
 (hx:a.eval x=.slice (some A) n C) (hk0:KsM w0 (.slice (some A) n C) ks) (hro:Ro w0 al cl l) (hw:Below w0.heap.size w0 w) (hkl:ks.length≤200000)
 (h:∀u w',KsM w' u (l::ks)→Below w0.heap.size w0 w'→wpList Try.prog ops Q rest (a.put o.dst u) w') :
 wpList Try.prog ops Q (o::rest) a w:=by
 have hg0:=hw.size;obtain ⟨i3,hi3,hz0,hz1,hz2⟩:=ZD Zc2;obtain ⟨oa,c,rs,e,h19,h2,h3⟩:=hk0;have h1:=h19.below hw;injection e with e1 e2 e3;subst e1 e2;subst hL
 refine wpList_append_own_at _ hgd s x 25 ho w0.heap.size 26 i3 _ 1 24 Try.underlying25 hi3 hz0 hz1 hz2 rfl (by decide) _ 1 _ hs hlit A ks.length C (slv rs ks) hx (by rw [ZaU rs ks h2.1];omega) (fun j u hj=>by
  have hjl:=(gs_ hj).1;rw [ZaU rs ks h2.1] at hjl;obtain ⟨ad3,e3,_,hx3⟩:=h1 (by omega)
  cases e3
  exact hx3 j u hj) (ZeU rs ks) (by unfold maxLen;omega) (by omega) hg0 ?_
 intro u7 w7 hown7 hgr7 _ _;have hb7:=hw.trans (Zan hgr7 (fun g hg=>(hlit.lt g hg).1) hg0);exact h u7 w7 (KsM.cons (h2.below hb7) (hro.below hb7) hown7) hb7
theorem ZjF (w:World) {a:Addr} {ca:Nat} {b:List Ac} {b0:Ac} {r:Nat×Nat} {sp:List (Nat×Nat)} {v:Value} {o:Option (List Ac)} (hb:Ro w a ca b) (hs:Z7 b) (h0:b[0]? = some b0) (hks:ZR b b0.n.toNat 1=some (r::sp)) (ho:Rin w v o) (hp:∀l,o=some l→0<l.length)
 (hl:b.length≤131072) (hlo:∀l,o=some l→l.length≤(sub b r).length) :
 Calls Try.prog 169 #[.slice (some a) b.length ca,v] w fun en w'=>∃u,en=.returned u∧Rin w' u (some (Zi (sp.map (sub b)) o))∧Below w.heap.size w w':=by
 have hK1:=Zkc hb hs h0 hks w br_;rw [show ((0:Nat):Int)=0 from rfl] at hK1;have HK:=Za hK1;have HO:=Za ho;have hbl:=(gs_ h0).1;have hrw:=Zb4 b _ _ _ hks (by omega);simp only [Zh,List.map_cons,List.sum_cons] at hrw;have HRW:=Za (show (sub b r).length+Zh (sp.map (sub b))≤131072 by simp only [Zh];omega);have hkl:=(ZaJ b _ _ _ hks (by omega)).1;have hnb:=(hs.2 b0 (List.mem_of_getElem? h0)).2;obtain ⟨ks,hks9⟩:∃ks,sp.map (sub b)=ks:=⟨_,rfl⟩
 have hspl:ks.length≤131072:=by
  have h1:∀l ∈ ks,0<l.length:=fun l hl=>by
   rw [←hks9] at hl;obtain ⟨q,hq,rfl⟩:=List.mem_map.1 hl;obtain ⟨_,h8,h9⟩:=(ZaJ b _ _ _ hks (by omega)).2 q (List.mem_cons_of_mem _ hq);rw [ZaL h9];omega
  have h2:∀(ls:List (List Ac)),(∀l ∈ ls,0<l.length)→ls.length≤Zh ls:=fun ls=>by
   induction ls with
   | nil=>intro _;simp
   | cons x ls ih =>
    intro h;have h3:=ih (fun l hl=>h l (List.mem_cons_of_mem _ hl));have h4:=h x (List.mem_cons_self ..);simp only [Zh,List.map_cons,List.sum_cons,List.length_cons] at h3 ⊢;omega
  have h3:=h2 ks h1;have h4:=HRW.out;rw [hks9] at h4;omega
 rw [List.map_cons,hks9] at HK;rw [hks9] at HRW;rw [hks9];clear hK1 hks hrw hkl hnb hks9 h0 hs hb
 cases o with
 | none =>
  obtain rfl:v=.slice none 0 0:=ho;have HRB:=Za (fun (W:World) (v:Value) (h:KsM W v ks)=>Ziv W v ks h (by omega) (by have:=HRW.out;omega));go_enter Try.func169,Try.ntmps169
  go_wp2_with (
   go_at_call 114;with_reducible refine HK.out.mono ?_
   rintro en w2 ⟨v,rfl,hkm,hb2⟩;obtain ⟨adk,ck,rfl,habk,hck,hx⟩:=hkm.at_ (by simp);have HB2:=Za hb2;have ht1:=hkm.tail;rw [show adk.add 1=⟨adk.block,adk.off+1,none⟩ by simp [Addr.add]] at ht1
   have ht2:ck=1→KsM w2 (.slice (some adk) (ks.length+1 - 1) 0) ks:=fun h1=>by
    have h0:ks=[]:=List.eq_nil_of_length_eq_zero (by simp at hck;omega);subst h0;exact ⟨some adk,0,[],rfl,fun h=>absurd h (by simp),⟨rfl,fun i oa c l h1 h2=>by simp at h1⟩,lr_⟩
   simp only [List.length_cons] at ht1 hck ⊢;obtain ⟨nk,hnk⟩:∃nk,ks.length+1=nk:=⟨_,rfl⟩;rw [hnk] at ht1 ht2;rw [hnk];have hnkp:(1:Int)≤(nk:Int):=by omega
   have HT1:=Za (HRB.out _ _ ht1);have HT2:=Za (fun h=>HRB.out _ _ (ht2 h))
   clear hkm hx hnk hb2 ht1 ht2)
  all_goals
   go_wp2_with (
    go_at_call 120;with_reducible refine (by first | exact HT1.out | exact HT2.out (by omega):Calls Try.prog 120 _ _ _).mono ?_
    rintro en w3 ⟨u,rfl,hu,hb3⟩;have HU:=Za hu;have HB3:=Za hb3
    clear hu hb3)
   go_ret;exact ⟨_,rfl,HU.out,HB2.out.trans (HB3.out.mono HB2.out.size)⟩
 | some l =>
  have hlp:=hp l rfl;have hll:=hlo l rfl;obtain ⟨oal,cl,rfl,hsl,hlc,hlm⟩:=ho;obtain ⟨al,e9,hbal,_⟩:=hsl hlp;subst e9;have HRO:=Za (Ro.mk hsl hlc hlm);have HRB:=Za (fun (W:World) (v:Value) (h:KsM W v (l::ks))=>Ziv W v (l::ks) h (by simp;omega) (by have:=HRW.out;simp only [Zh,List.map_cons,List.sum_cons] at this ⊢;omega));obtain ⟨L,hL⟩:∃L,l.length=L:=⟨_,rfl⟩;rw [hL] at hlp;rw [hL];have HL:=Za hL;obtain ⟨i3,hi3,hz0,hz1,hz2⟩:=ZD Zc2;clear hp hlo hsl hlc hlm hL;go_enter Try.func169,Try.ntmps169
  go_wp2_with (first
   | (
    go_at_call 114;with_reducible refine HK.out.mono ?_
    rintro en w2 ⟨v,rfl,hkm,hb2⟩;obtain ⟨adk,ck,rfl,habk,hck,hx⟩:=hkm.at_ (by simp);have HB2:=Za hb2;have ht1:=hkm.tail;rw [show adk.add 1=⟨adk.block,adk.off+1,none⟩ by simp [Addr.add]] at ht1
    have ht2:ck=1→KsM w2 (.slice (some adk) (ks.length+1 - 1) 0) ks:=fun h1=>by
     have h0:ks=[]:=List.eq_nil_of_length_eq_zero (by simp at hck;omega);subst h0;exact ⟨some adk,0,[],rfl,fun h=>absurd h (by simp),⟨rfl,fun i oa c l h1 h2=>by simp at h1⟩,lr_⟩
    simp only [List.length_cons] at ht1 hck ⊢;obtain ⟨nk,hnk⟩:∃nk,ks.length+1=nk:=⟨_,rfl⟩;rw [hnk] at ht1 ht2;rw [hnk];have hnkp:(1:Int)≤(nk:Int):=by omega
    obtain ⟨A,hA⟩:∃A:Addr,(if ck=1 then some adk else some ⟨adk.block,adk.off+1,none⟩)=some A:=by split <;> exact ⟨_,rfl⟩
    have hta:KsM w2 (.slice (some A) (nk - 1) (ck - 1)) ks:=by
     by_cases h1:ck=1
     · rw [if_pos h1] at hA;injection hA with hA;rw [←hA,show ck - 1=0 by omega];exact ht2 h1
     · rw [if_neg h1] at hA;injection hA with hA;rw [←hA];exact ht1
    have HIF:=Za hA;have HTA:=Za hta;clear hA hta;have HLIT:=Za (World.ownsRow_lit (base:=w2.heap.size) (e:=26) (size:=1) w2 #[.slice (some al) L cl] 1 lr_ (by decide) rfl);have HB3:=Za ((Below.refl w2.heap.size w2).alloc lr_ (.cells #[.slice (some al) L cl] 26));have HRO2:=Za (HRO.out.below hb2)
    clear hkm hx hnk hb2 ht1 ht2)
   | (
    at_builtin
    refine ZlP rfl (.tmp 13) (.tmp 14) rfl w2 rfl HLIT.out HL.out (congrArg (fun o=>Value.slice o (nk - 1) (ck - 1)) HIF.out) HTA.out HRO2.out HB3.out (by omega) ?_;intro u7 w7 hk7 hb7;have HRW7:=Za (HRB.out _ _ hk7);have HB7:=Za hb7
    clear hk7 hb7)
   | (
    go_at_call 120;with_reducible refine HRW7.out.mono ?_
    rintro en w8 ⟨u,rfl,hu,hb8⟩;have HU:=Za hu;have HB8:=Za hb8
    clear hu hb8))
  all_goals
   go_ret;exact ⟨_,rfl,HU.out,HB2.out.trans ((HB7.out.trans (HB8.out.mono HB7.out.size)).mono HB2.out.size)⟩
theorem Zg0:∀(l:List Bool) (j:Nat),l[j]? = some false→(l.set j true).count false+1=l.count false
 | [],j,h=>by simp at h
 | b::l,0,h=>by
  simp at h;subst h
  simp
 | b::l,j+1,h=>by
  have ih:=Zg0 l j (by simpa using h);simp only [List.set_cons_succ,List.count_cons];omega
theorem ZfY:∀(l:List Bool),l.count false=0→∀(j:Nat) (b:Bool),l[j]? = some b→b=true
 | [],_,j,b,h=>by simp at h
 | x::l,h0,0,b,h=>by
  simp at h;subst h
  cases x
  · simp at h0
  · rfl
 | x::l,h0,j+1,b,h=>ZfY l (by rw [List.count_cons] at h0;omega) j b (by simpa using h)
section
variable {P:Program} {md:Region.Mode} {ops:Array Oper} {Q:Exit→Act→World→Prop}
theorem Zhy {listed:Array Bool} (hs:listed.size=ops.size) (h:∀j,j<ops.size→listed.getD j false=true):Region.ready md ops listed=[]:=by
 rw [List.eq_nil_iff_forall_not_mem];intro j hj;obtain ⟨h1,o,ho,_⟩:=mem_ready.1 hj;have hlt:=(Array.getElem?_eq_some_iff.1 ho).1;have h2:=h j hlt;simp only [Array.getD,hs,hlt,dite_true] at h1 h2;rw [h1] at h2
 cases h2
theorem Zh5 {listed:Array Bool} (hs:listed.size=ops.size) (hord:∀(j:Nat) (o:Oper),ops[j]? = some o→∀e ∈ o.after,e.on<j) (h:Region.ready md ops listed=[]):∀j,j<ops.size→listed.getD j false=true:=by
 intro j
 induction j using Nat.strongRecOn with
 | ind j ih =>
  intro hj
  cases hl:listed.getD j false with
  | true=>rfl
  | false =>
   have hm:j ∈ Region.ready md ops listed:=by
    refine mem_ready.2 ⟨?_,_,Array.getElem?_eq_getElem hj,fun e he _=>ih e.on (hord j _ (Array.getElem?_eq_getElem hj) e he) (Nat.lt_trans (hord j _ (Array.getElem?_eq_getElem hj) e he) hj)⟩;simp only [Array.getD,hs,hj,dite_true] at hl ⊢;exact hl
   rw [h] at hm
   cases hm
theorem Zgy (J:Array Bool→Act→World→Prop) (hord:∀(j:Nat) (o:Oper),ops[j]? = some o→∀e ∈ o.after,e.on<j)
 (hstep:∀(listed:Array Bool) (a:Act) (w:World) (j:Nat) (o:Oper),J listed a w→listed.getD j true=false→ops[j]? = some o→(∀e ∈ o.after,Region.binds md e=true→listed.getD e.on false=true)→wpOp P ops Q j (fun a' w'=>J (listed.setIfInBounds j true) a' w') a w)
 (hend:∀(listed:Array Bool) (a:Act) (w:World),J listed a w→(∀j,j<ops.size→listed.getD j false=true)→Q .normal a w) :
 ∀(fuel:Nat) (listed:Array Bool) (a:Act) (w:World),J listed a w→listed.size=ops.size→listed.toList.count false≤fuel→wpAny P md ops Q fuel listed a w
 | 0,listed,a,w,hJ,hs,hc=>by
  have hall:∀j,j<ops.size→listed.getD j false=true:=fun j hj=>by
   have h1:=ZfY listed.toList (by omega) j (listed[j]'(by omega)) (by rw [Array.getElem?_toList,Array.getElem?_eq_getElem (by omega)]);simp only [Array.getD,hs,hj,dite_true];exact h1
  exact ⟨Zhy hs hall,hend _ _ _ hJ hall⟩
 | fuel+1,listed,a,w,hJ,hs,hc=>by
  refine ⟨fun h0=>hend _ _ _ hJ (Zh5 hs hord h0),fun i hi=>?_⟩;obtain ⟨h1,o,ho,h2⟩:=mem_ready.1 hi;have hlt:=(Array.getElem?_eq_some_iff.1 ho).1;refine wpOp_mono (fun a' w' hJ'=>Zgy J hord hstep hend fuel _ a' w' hJ' (by simpa using hs) ?_) (hstep listed a w i o hJ h1 ho h2)
  have h3:listed.toList[i]? = some false:=by
   rw [Array.getElem?_toList,Array.getElem?_eq_getElem (by omega)];simp only [Array.getD,hs,hlt,dite_true] at h1;simpa using h1
  have h4:=Zg0 listed.toList i h3;simp only [Array.toList_setIfInBounds];omega
theorem Zg5 {id:Nat} {a:Act} {w:World} {l:List Oper} (J:Array Bool→Act→World→Prop) (hm:P.follows .mixedOrders=true) (hord:∀(j:Nat) (o:Oper),l.toArray[j]? = some o→∀e ∈ o.after,e.on<j)
 (hstart:J (Array.replicate l.toArray.size false) a w.drew)
 (hstep:∀(listed:Array Bool) (a:Act) (w:World) (j:Nat) (o:Oper),J listed a w→listed.getD j true=false→l.toArray[j]? = some o→(∀e ∈ o.after,Region.binds .any e=true→listed.getD e.on false=true)→wpOp P l.toArray Q j (fun a' w'=>J (listed.setIfInBounds j true) a' w') a w)
 (hend:∀(listed:Array Bool) (a:Act) (w:World),J listed a w→(∀j,j<l.toArray.size→listed.getD j false=true)→Q .normal a w):(Code.region id l.toArray true).wp P Q a w :=
 wp_region_any hm (Zgy J hord hstep hend _ _ _ _ hstart (by simp) (by simp))
end
def upn {α : Type} (f:Nat→α) (j:Nat) (v:α):Nat→α:=fun k=>if k=j then v else f k
theorem Zd {α : Type} {f:Nat→α} {j k:Nat} {v:α} (h:k≠j):upn f j v k=f k:=if_neg h
theorem Ze {α : Type} {f:Nat→α} {j:Nat} {v:α}:upn f j v j=v:=if_pos rfl
def Zah (P:Program) (R:Value→World→Prop):Result Next→Prop
 | .ok (.value u) w'=>R u w'
 | .ok .skip w'=>R undef w'
 | .ok (.enter f args) w'=>Calls P f args w' (fun e w''=>∃u,e=.returned u∧R u w'')
 | _=>False
def par (P:Program) (o:Oper) (a:Act) (w:World) (R:Value→World→Prop):Prop:=Zah P R ((execOp a.eval o).run P w)
theorem ZjE {P:Program} {o:Oper} {a b:Act} {w:World} {R:Value→World→Prop} {K:Act→World→Prop} {Q:Exit→Act→World→Prop} (he:execOp a.eval o=execOp b.eval o) (h:par P o b w R) (hK:∀u w',R u w'→K (a.put o.dst u) w'):o.wp P a w K Q:=by
 unfold par at h;rw [←he] at h;unfold Oper.wp;generalize (execOp a.eval o).run P w=r at *
 cases r with
 | ok n w' =>
  cases n <;> simp only [Zah] at h <;> simp only [Oper.upon]
  case value u=>exact hK _ _ h
  case skip=>exact hK _ _ h
  case enter f args =>
   exact h.mono fun e w'' ⟨u,he,hu⟩=>by subst he;exact hK _ _ hu
 | halt x w'=>simp only [Zah] at h
def ZaI:List Oper→Nat→(Nat→Bool)→(Nat→Value)→Act→Act
 | [],_,_,_,a=>a
 | o::l,i,S,vs,a=>ZaI l (i+1) S vs (if S i then a.put o.dst (vs i) else a)
section
variable {ops:Array Oper}
def ZdJ (o:Oper) (ops:Array Oper) (a b:Act):Prop:=∀t ∈ o.looksAt ops,a.tmps[t]? = b.tmps[t]?
theorem Zge {a:Act} {dst:Option Tmp} {v:Value} {t:Tmp} (h:dst≠some t):(a.put dst v).tmps[t]? = a.tmps[t]?:=by
 cases dst with
 | none=>rfl
 | some d =>
  have hne:d≠t:=fun e=>h (e▸rfl)
  simp [Act.put,Array.getElem?_setIfInBounds_ne hne]
theorem ZkK {o:Oper} {a b:Act} {dst:Option Tmp} {v:Value} (hs:a.tmps.size=b.tmps.size) (h:ZdJ o ops a b):ZdJ o ops (a.put dst v) (b.put dst v):=by
 intro t ht
 cases dst with
 | none=>exact h t ht
 | some d =>
  by_cases hd:d=t
  · subst hd;simp only [Act.put,Array.getElem?_setIfInBounds,hs]
    simp
  · rw [Zge (by simpa using hd),Zge (by simpa using hd)];exact h t ht
theorem Zk4 {a:Act} {dst:Option Tmp} {v:Value}:(a.put dst v).tmps.size=a.tmps.size:=by
 cases dst <;> simp [Act.put]
theorem Zf4 {o:Oper}:∀(l:List Oper) (i:Nat) (S T:Nat→Bool) (vs:Nat→Value) (a b:Act),a.tmps.size=b.tmps.size→ZdJ o ops a b→(∀k x,l[k]? = some x→S (i+k)=T (i+k)∨∀d,x.dst=some d→d ∉ o.looksAt ops)→ZdJ o ops (ZaI l i S vs a) (ZaI l i T vs b)
 | [],_,_,_,_,_,_,_,h,_=>h
 | x::l,i,S,T,vs,a,b,hs,h,hl=>by
  unfold ZaI;have h0:=hl 0 x rfl;refine Zf4 l (i+1) S T vs _ _ ?_ ?_ (fun k y hk=>by have:=hl (k+1) y (by simpa using hk);rwa [Nat.add_assoc,Nat.add_comm 1 k])
  · split <;> split <;> simp [Zk4,hs]
  · rcases h0 with h0 | h0
    · rw [Nat.add_zero] at h0;rw [h0];split
      · exact ZkK hs h
      · exact h
    · have hput:∀(c:Act) v,ZdJ o ops (c.put x.dst v) c:=fun c v t ht=>Zge (fun e=>h0 t e ht)
      intro t ht;split <;> split
      · exact ((hput a _ t ht).trans (h t ht)).trans (hput b _ t ht).symm
      · exact (hput a _ t ht).trans (h t ht)
      · exact (h t ht).trans (hput b _ t ht).symm
      · exact h t ht
theorem Zjv {o:Oper} {a b:Act} (hs:∀cs b,o.op≠.select cs b) (h:ZdJ o ops a b):execOp a.eval o=execOp b.eval o :=
 execOp_congr o hs fun x hx=>by
  cases x with
  | tmp t =>
   have:=h t (List.mem_append_left _ (List.mem_filterMap.2 ⟨.tmp t,by simpa using hx,rfl⟩));simp only [Act.eval];rw [Array.getD_eq_getD_getElem?,Array.getD_eq_getD_getElem?,this]
  | _=>rfl
theorem Zhi {o:Oper} {a b:Act} (h:ZdJ o ops a b):Region.wanted o (yielded ops a.tmps)=Region.wanted o (yielded ops b.tmps):=by
 unfold Region.wanted
 cases hg:o.guard with
 | none=>rfl
 | some gw =>
  obtain ⟨g,want⟩:=gw
  have hy:yielded ops a.tmps g=yielded ops b.tmps g:=by
   unfold yielded
   cases ht:(ops[g]?).bind (·.dst) with
   | none=>rfl
   | some t =>
    have h1:=h t (by simp [Oper.looksAt,hg,ht]);simp only [Option.bind_some,h1]
  simp only [hy]
theorem ZhH:∀(l:List Oper) (i:Nat) (S:Nat→Bool) (vs:Nat→Value) (a:Act) (d:Option Tmp) (u:Value),(∀(k:Nat) (x:Oper),l[k]? = some x→∀t,x.dst=some t→d≠some t)→ZaI l i S vs (a.put d u)=(ZaI l i S vs a).put d u
 | [],_,_,_,_,_,_,_=>rfl
 | x::l,i,S,vs,a,d,u,h=>by
  unfold ZaI;have h0:=h 0 x rfl;have ih:=fun c=>ZhH l (i+1) S vs c d u (fun k y hk=>h (k+1) y (by simpa using hk))
  split
  · rw [Act.put_comm a u (vs i) (fun t ht ht2=>h0 t ht2 ht),ih]
  · rw [ih]
theorem Zeb:∀(l:List Oper) (i:Nat) (S T:Nat→Bool) (vs us:Nat→Value) (a:Act),(∀k,k<l.length→S (i+k)=T (i+k)∧vs (i+k)=us (i+k))→ZaI l i S vs a=ZaI l i T us a
 | [],_,_,_,_,_,_,_=>rfl
 | x::l,i,S,T,vs,us,a,h=>by
  unfold ZaI;have h0:=h 0 (by simp);rw [Nat.add_zero] at h0;rw [h0.1,h0.2];exact Zeb l (i+1) S T vs us _ (fun k hk=>by have:=h (k+1) (by simpa using hk);rwa [Nat.add_assoc,Nat.add_comm 1 k])
theorem ZgV:∀(l:List Oper) (i:Nat) (S:Nat→Bool) (vs:Nat→Value) (a:Act) (j:Nat) (o:Oper) (u:Value),l[j]? = some o→S (i+j)=false→(∀(k k':Nat) (x y:Oper),l[k]? = some x→l[k']? = some y→k≠k'→∀t,x.dst=some t→y.dst≠some t)→(ZaI l i S vs a).put o.dst u=ZaI l i (upn S (i+j) true) (upn vs (i+j) u) a
 | [],_,_,_,_,_,_,_,h,_,_=>by simp at h
 | x::l,i,S,vs,a,0,o,u,h,hS,hd=>by
  simp at h;subst h;rw [Nat.add_zero] at hS;unfold ZaI;rw [hS];simp only [Nat.add_zero,Bool.false_eq_true,if_false,upn,if_true];rw [←ZhH l (i+1) S vs a x.dst u (fun k y hk t ht ht2=>hd (k+1) 0 y x (by simpa using hk) rfl (by omega) t ht ht2)];refine Zeb _ _ _ _ _ _ _ (fun k hk=>?_);have h1:i+1+k≠i:=by omega
  exact ⟨(if_neg h1).symm,(if_neg h1).symm⟩
 | x::l,i,S,vs,a,j+1,o,u,h,hS,hd=>by
  unfold ZaI;have hne:i≠i+(j+1):=by omega
  simp only [upn,hne,if_false];have ih:=ZgV l (i+1) S vs (if S i=true then a.put x.dst (vs i) else a) j o u (by simpa using h) (by rwa [Nat.add_assoc,Nat.add_comm 1 j]) (fun k k' y z hk hk' hne=>hd (k+1) (k'+1) y z (by simpa using hk) (by simpa using hk') (by omega));rw [ih];refine Zeb _ _ _ _ _ _ _ (fun k hk=>?_);have e:i+1+j=i+(j+1):=by omega
  rw [e];exact ⟨rfl,rfl⟩
end
def Zdf (o:Oper):List Nat:=(o.after.toList.filter fun e=>Region.binds .any e).map (·.on)
def Zm5 (l:List Oper) (anc:List (List Nat)):Bool :=
 let n:=l.length
 (List.range n).all fun j=>match l[j]? with
  | none=>false
  | some o =>
   (match o.op with | .select _ _=>false | _=>true) &&
   (o.after.toList.all fun e=>decide (e.on<j)) &&
   ((anc.getD j []).all fun i=>(Zdf o).contains i||(Zdf o).any fun k=>(anc.getD k []).contains i) &&
   ((List.range n).all fun i=>i == j||match l[i]? with
    | none=>false
    | some x=>match x.dst with
     | none=>true
     | some d=>o.dst != some d&&(!(o.looksAt l.toArray).contains d||(decide (i<j)&&(anc.getD j []).contains i)))
section
variable {P:Program} {Q:Exit→Act→World→Prop}
def Zc5 (P:Program) (ops:Array Oper) (J:(Nat→Bool)→(Nat→Value)→World→Prop) (anc:List (List Nat)) (E:Act→Prop) (vs:Nat→Value):List Oper→Nat→Act→Prop
 | [],_,a=>E a
 | o::rest,j,a =>
  (∀S w,S j=false→(∀i ∈ anc.getD j [],S i=true)→(∀k,k<ops.size→j ∈ anc.getD k []→S k=false)→J S vs w→if Region.wanted o (yielded ops a.tmps) then par P o a w (fun u w'=>J (upn S j true) (upn vs j u) w') else J (upn S j true) (upn vs j undef) w) ∧
  Zc5 P ops J anc E vs rest (j+1) (a.put o.dst (vs j))
theorem Z2 {ops:Array Oper} {J:(Nat→Bool)→(Nat→Value)→World→Prop} {anc:List (List Nat)} {E:Act→Prop} {vs:Nat→Value} {j:Nat} {a:Act} (h:E a):Zc5 P ops J anc E vs [] j a:=h
theorem ZiQ {ops:Array Oper} {J:(Nat→Bool)→(Nat→Value)→World→Prop} {anc:List (List Nat)} {E:Act→Prop} {vs:Nat→Value} {o:Oper} {rest:List Oper} {j:Nat} {a:Act}
 (h:∀S w,S j=false→(∀i ∈ anc.getD j [],S i=true)→(∀k,k<ops.size→j ∈ anc.getD k []→S k=false)→J S vs w→∀R:Value→World→Prop,(∀u w',J (upn S j true) (upn vs j u) w'→R u w')→if Region.wanted o (yielded ops a.tmps) then par P o a w R else R undef w)
 (hr:∀K:Act→Prop,(∀b,Zc5 P ops J anc E vs rest (j+1) b→K b)→K (a.put o.dst (vs j))):Zc5 P ops J anc E vs (o::rest) j a :=
 ⟨fun S w h1 h2 h3 h4=>h S w h1 h2 h3 h4 _ (fun _ _ h=>h),hr _ (fun _ h=>h)⟩
theorem Zb {ops:Array Oper} {J:(Nat→Bool)→(Nat→Value)→World→Prop} {anc:List (List Nat)} {E:Act→Prop} {vs:Nat→Value} {o:Oper} {rest:List Oper} {j:Nat} {a:Act} (hg:o.guard=none)
 (h:∀S w,S j=false→(∀i ∈ anc.getD j [],S i=true)→(∀k,k<ops.size→j ∈ anc.getD k []→S k=false)→J S vs w→∀R:Value→World→Prop,(∀u w',J (upn S j true) (upn vs j u) w'→R u w')→par P o a w R)
 (hr:∀K:Act→Prop,(∀b,Zc5 P ops J anc E vs rest (j+1) b→K b)→K (a.put o.dst (vs j))):Zc5 P ops J anc E vs (o::rest) j a :=
 ZiQ (fun S w h1 h2 h3 h4 R hR=>by
  have hw:Region.wanted o (yielded ops a.tmps)=true:=by simp [Region.wanted,hg]
  rw [if_pos hw]
  exact h S w h1 h2 h3 h4 R hR) hr
theorem Zgw {ops:Array Oper} {J:(Nat→Bool)→(Nat→Value)→World→Prop} {anc:List (List Nat)} {E:Act→Prop} {vs:Nat→Value}:∀(l:List Oper) (i:Nat) (a:Act) (j:Nat) (o:Oper),Zc5 P ops J anc E vs l i a→l[j]? = some o →
 ∀S w,S (i+j)=false→(∀k ∈ anc.getD (i+j) [],S k=true)→(∀k,k<ops.size→i+j ∈ anc.getD k []→S k=false)→J S vs w→if Region.wanted o (yielded ops (ZaI l i (fun k=>decide (k<i+j)) vs a).tmps) then par P o (ZaI l i (fun k=>decide (k<i+j)) vs a) w (fun u w'=>J (upn S (i+j) true) (upn vs (i+j) u) w') else J (upn S (i+j) true) (upn vs (i+j) undef) w
 | [],_,_,_,_,_,h=>by simp at h
 | x::l,i,a,0,o,h,hj=>by
  simp at hj;subst hj
  have e:ZaI (x::l) i (fun k=>decide (k<i+0)) vs a=a:=by
   have:∀(l:List Oper) (m:Nat),i≤m→ZaI l m (fun k=>decide (k<i+0)) vs a=a:=by
    intro l
    induction l with
    | nil=>intro m _;rfl
    | cons y l ih =>
     intro m hm;unfold ZaI;rw [if_neg (by simp;omega)];exact ih (m+1) (by omega)
   exact this _ _ lr_
  rw [e];exact h.1
 | x::l,i,a,j+1,o,h,hj=>by
  have ih:=Zgw l (i+1) _ j o h.2 (by simpa using hj);have e2:i+1+j=i+(j+1):=by omega
  rw [e2] at ih;unfold ZaI;rw [if_pos (by simp)];exact ih
theorem Zgx {ops:Array Oper} {J:(Nat→Bool)→(Nat→Value)→World→Prop} {anc:List (List Nat)} {E:Act→Prop} {vs:Nat→Value}:∀(l:List Oper) (i:Nat) (a:Act) (S:Nat→Bool),Zc5 P ops J anc E vs l i a→(∀k,k<l.length→S (i+k)=true)→E (ZaI l i S vs a)
 | [],_,_,_,h,_=>h
 | x::l,i,a,S,h,hS=>by
  unfold ZaI;rw [if_pos (by simpa using hS 0 (by simp))];exact Zgx l (i+1) _ S h.2 (fun k hk=>by have:=hS (k+1) (by simpa using hk);rwa [Nat.add_assoc,Nat.add_comm 1 k])
theorem ZgU:∀(l:List Oper) (i:Nat) (S:Nat→Bool) (vs:Nat→Value) (a:Act),(∀k,k<l.length→S (i+k)=false)→ZaI l i S vs a=a
 | [],_,_,_,_,_=>rfl
 | x::l,i,S,vs,a,h=>by
  unfold ZaI;rw [if_neg (by simpa using h 0 (by simp))];exact ZgU l (i+1) S vs a (fun k hk=>by have:=h (k+1) (by simpa using hk);rwa [Nat.add_assoc,Nat.add_comm 1 k])
theorem ZB {id:Nat} {a:Act} {w:World} {l:List Oper} (J:(Nat→Bool)→(Nat→Value)→World→Prop) (anc:List (List Nat)) (hm:P.follows .mixedOrders=true) (hB:Zm5 l anc=true)
 (h0:∀vs,J (fun i=>decide (l.length≤i)) vs w.drew)
 (h:∀vs,Zc5 P l.toArray J anc (fun a'=>∀w',J (fun _=>true) vs w'→Q .normal a' w') vs l 0 a):(Code.region id l.toArray true).wp P Q a w:=by
 have hB':∀(j:Nat) (o:Oper),l[j]? = some o→(∀cs b,o.op≠.select cs b)∧(∀e ∈ o.after,e.on<j)∧(∀i ∈ anc.getD j [],i ∈ Zdf o∨∃k ∈ Zdf o,i ∈ anc.getD k [])∧(∀i x,l[i]? = some x→i≠j→∀d,x.dst=some d→o.dst≠some d∧(d ∈ o.looksAt l.toArray→i<j∧i ∈ anc.getD j [])):=by
  intro j o ho;have hj:j<l.length:=(gs_ ho).1;simp only [Zm5,List.all_eq_true,List.mem_range] at hB;have h1:=hB j hj;rw [ho] at h1;simp only [Bool.and_eq_true,List.all_eq_true,List.mem_range,Bool.or_eq_true,decide_eq_true_eq,List.contains_iff_mem,List.any_eq_true,beq_iff_eq] at h1;obtain ⟨⟨⟨h2,h3⟩,h4⟩,h5⟩:=h1;refine ⟨fun cs b e=>by rw [e] at h2;simp at h2,fun e he=>h3 e (by simpa using he),h4,fun i x hx hne d hd=>?_⟩;have h6:=h5 i (gs_ hx).1;rcases h6 with h6 | h6
  · exact absurd h6 hne
  · rw [hx] at h6;simp only [hd,Bool.and_eq_true,Bool.or_eq_true,bne_iff_ne,ne_eq,Bool.not_eq_true',List.contains_iff_mem,decide_eq_true_eq] at h6;refine ⟨h6.1,fun hm=>?_⟩;rcases h6.2 with h7 | h7
    · exact absurd hm (by simpa using h7)
    · exact h7
 have hsz:∀(listed:Array Bool) (j:Nat),(fun i=>(listed.setIfInBounds j true).getD i true)=upn (fun i=>listed.getD i true) j true:=by
  intro listed j;funext i;simp only [upn,Array.getD_eq_getD_getElem?,Array.getElem?_setIfInBounds]
  by_cases hij:i=j
  · subst hij
    simp
    split <;> rfl
  · simp [hij,Ne.symm hij]
 refine Zg5 (fun listed a' w'=>∃vs,a'=ZaI l 0 (fun i=>listed.getD i true) vs a∧J (fun i=>listed.getD i true) vs w'∧(∀j,j<l.length→listed.getD j true=true→∀i ∈ anc.getD j [],listed.getD i true=true)∧listed.size=l.length) hm (fun j o ho=>(hB' j o (by simpa using ho)).2.1) ?_ ?_ ?_
 · have e:(fun i=>(Array.replicate l.toArray.size false).getD i true)=fun i=>decide (l.length≤i):=by
    funext i;simp only [Array.getD_eq_getD_getElem?,Array.getElem?_replicate]
    by_cases hi:i<l.length
    · simp [hi];
    · simp [hi];omega
   refine ⟨fun _=>undef,?_,?_,fun j hj hl=>?_,by simp⟩
   · rw [e,ZgU];intro k hk;simp only [Nat.zero_add];simpa using hk
   · rw [e];exact h0 _
   · have h1:(Array.replicate l.toArray.size false).getD j true=decide (l.length≤j):=congrFun e j;rw [h1] at hl;simp at hl;omega
 · rintro listed a' w' j o ⟨vs,rfl,hJ,hcl,hlz⟩ hj ho hafter;have ho':l[j]? = some o:=by simpa using ho
   obtain ⟨hs1,hs2,hs3,hs4⟩:=hB' j o ho';have hjl:j<l.length:=(gs_ ho').1
   have hdir:∀k ∈ Zdf o,k<j∧listed.getD k true=true:=by
    intro k hk;simp only [Zdf,List.mem_map,List.mem_filter] at hk;obtain ⟨e,⟨he1,he2⟩,rfl⟩:=hk;have h1:=hafter e (by simpa using he1) he2;refine ⟨hs2 e (by simpa using he1),?_⟩;rw [Array.getD_eq_getD_getElem?] at h1 ⊢
    cases hq:listed[e.on]? with
    | none=>rfl
    | some b=>rw [hq] at h1;simpa using h1
   have hanc:∀i ∈ anc.getD j [],listed.getD i true=true:=by
    intro i hi;rcases hs3 i hi with h1 | ⟨k,hk,h1⟩
    · exact (hdir i h1).2
    · exact hcl k (by have:=(hdir k hk).1;omega) (hdir k hk).2 i h1
   have hg:=Zgw l 0 a j o (h vs) ho' (fun i=>listed.getD i true) w' (by simpa using hj) (by simpa using hanc) (fun k hk hm=>by
    cases hq:listed.getD k true with
    | false=>rfl
    | true =>
     have h1:=hcl k (by simpa using hk) hq j (by simpa using hm);rw [hj] at h1
     cases h1) hJ
   simp only [Nat.zero_add] at hg
   have hal:ZdJ o l.toArray (ZaI l 0 (fun i=>listed.getD i true) vs a) (ZaI l 0 (fun k=>decide (k<j)) vs a):=by
    refine Zf4 l 0 _ _ vs a a rfl (fun t _=>rfl) (fun k x hk=>?_);rw [Nat.zero_add]
    by_cases hkj:k=j
    · subst hkj;left;rw [hj]
      simp
    · by_cases hin:∃d,x.dst=some d∧d ∈ o.looksAt l.toArray
      · obtain ⟨d,hd,hdm⟩:=hin;obtain ⟨h1,h2⟩:=(hs4 k x hk hkj d hd).2 hdm;left;rw [hanc k h2];simp [h1]
      · right;exact fun d hd hdm=>hin ⟨d,hd,hdm⟩
   have hw:=Zhi hal;have hx:=Zjv hs1 hal
   have hput:∀u w'',J (upn (fun i=>listed.getD i true) j true) (upn vs j u) w''→∃vs',(ZaI l 0 (fun i=>listed.getD i true) vs a).put o.dst u=ZaI l 0 (fun i=>(listed.setIfInBounds j true).getD i true) vs' a∧J (fun i=>(listed.setIfInBounds j true).getD i true) vs' w''∧(∀m,m<l.length→(listed.setIfInBounds j true).getD m true=true→∀i ∈ anc.getD m [],(listed.setIfInBounds j true).getD i true=true)∧(listed.setIfInBounds j true).size=l.length:=by
    intro u w'' hj';have hup:∀i,(listed.setIfInBounds j true).getD i true=upn (fun i=>listed.getD i true) j true i:=fun i=>congrFun (hsz listed j) i
    refine ⟨upn vs j u,?_,by rw [hsz];exact hj',fun m hm hl i hi=>?_,by simpa using hlz⟩
    · rw [hsz];have:=ZgV l 0 (fun i=>listed.getD i true) vs a j o u ho' (by simpa using hj) (fun k k' x y hk hk' hne t ht ht2=>(hB' k' y hk').2.2.2 k x hk hne t ht |>.1 ht2);simpa using this
    · rw [hup] at hl ⊢;simp only [upn] at hl ⊢;split
      · rfl
      · by_cases hmj:m=j
        · subst hmj;exact hanc i hi
        · rw [if_neg hmj] at hl;exact hcl m hm hl i hi
   unfold wpOp;simp only [ho];rw [hw];split
   · rename_i hwt
     rw [if_pos hwt] at hg;exact .inl (ZjE hx hg hput)
   · rename_i hwt
     rw [if_neg hwt] at hg;exact hput _ _ hg
 · rintro listed a' w' ⟨vs,rfl,hJ,_,hlz⟩ hall
   have e:(fun i=>listed.getD i true)=fun _=>true:=by
    funext i
    by_cases hi:i<l.length
    · have h1:=hall i (by simpa using hi);rw [Array.getD_eq_getD_getElem?] at h1 ⊢
      cases hq:listed[i]? with
      | none=>rfl
      | some b=>rw [hq] at h1;simpa using h1
    · simp only [Array.getD_eq_getD_getElem?];rw [Array.getElem?_eq_none (by omega)];rfl
   rw [e] at hJ ⊢;exact Zgx l 0 a _ (h vs) (fun _ _=>rfl) w' hJ
theorem Zaq {o:Oper} {a:Act} {w:World} {R:Value→World→Prop} (s x:Operand) (t:TypeId) (hop:o.op=Op.call { callee:=Callee.builtin Builtin.append,args:=#[s,x],argTypes:=#[t,t] })
 (v vx:Value) (hs:a.eval s=v) (hx:a.eval x=vx) {u:Value} {w':World} (hrun:(Builtin.append_ #[t,t] o.type #[v,vx]).run P w=.ok u w') (hR:R u w'):par P o a w R:=by
 unfold par;simp [execOp,hop,resolve,invoke,builtin,hs,hx,hrun,Result.andThen,Zah];exact hR
theorem Zdn {o:Oper} {a:Act} {w:World} {R:Value→World→Prop} (f:Nat) (x:Operand) (t:TypeId) (hop:o.op=Op.call { callee:=Callee.value (Operand.func f),args:=#[x],argTypes:=#[t] })
 (F : Func) (hF : P.funcs[f]? = some F) (hF1 : F.name ≠ "runtime.NumGoroutine") (hF2 : F.body ≠ none) (v : Value) (hx : a.eval x = v) (hc : Calls P f #[v] w fun e w' => ∃ u, e = .returned u ∧ R u w') : par P o a w R := by
 obtain ⟨fv,hf⟩:∃fv,a.eval (Operand.func f)=fv:=⟨_,rfl⟩;have hf2:=hf;simp only [Act.eval] at hf2;subst hf2;unfold par;simp [execOp,hop,resolve,invoke,hx,hf,Deferred.ofValue,callFunc,hF,hF1,hF2,Result.andThen,Zah];exact hc
end
structure JG (W:World) (K:Nat→Value→World→Prop) (S:Nat→Bool) (vs:Nat→Value) (w:World):Prop where
 b:Below W.heap.size W w
 k:∀i,S i=true→K i (vs i) w
def StK (K:Nat→Value→World→Prop):Prop:=∀i v w w',K i v w→Below w.heap.size w w'→K i v w'
theorem JG.step {W w w':World} {K:Nat→Value→World→Prop} {S:Nat→Bool} {vs:Nat→Value} {j:Nat} {u:Value} (h:JG W K S vs w) (hK:StK K) (hb:Below w.heap.size w w') (hu:K j u w'):JG W K (upn S j true) (upn vs j u) w':=by
 refine ⟨h.b.trans (hb.mono h.b.size),fun i hi=>?_⟩
 by_cases e:i=j
 · subst e;rw [Ze];exact hu
 · rw [Zd e] at hi ⊢;exact hK i _ _ _ (h.k i hi) hb
theorem JG.start {W:World} {K:Nat→Value→World→Prop} {n:Nat} (vs:Nat→Value) (h:∀i v w,n≤i→K i v w):JG W K (fun i=>decide (n≤i)) vs W.drew :=
 ⟨(Below.refl _ W).drew,fun i hi=>h i _ _ (by simpa using hi)⟩
theorem ZbZ {P:Program} {o:Oper} {a:Act} {w:World} {R:Value→World→Prop} (f:Nat) (xs:Array Operand) (ts:Array TypeId) (hop:o.op=Op.call { callee:=Callee.value (Operand.func f),args:=xs,argTypes:=ts })
 (F : Func) (hF : P.funcs[f]? = some F) (hF1 : F.name ≠ "runtime.NumGoroutine") (hF2 : F.body ≠ none) (vs : Array Value) (hx : xs.map a.eval = vs) (hc : Calls P f vs w fun e w' => ∃ u, e = .returned u ∧ R u w') : par P o a w R := by
 obtain ⟨fv,hf⟩:∃fv,a.eval (Operand.func f)=fv:=⟨_,rfl⟩;have hf2:=hf;simp only [Act.eval] at hf2;subst hf2;unfold par;simp [execOp,hop,Go.resolve,invoke,hx,hf,Deferred.ofValue,callFunc,hF,hF1,hF2,Result.andThen,Zah];exact hc
theorem Zb2 {w':World} {g c n:Nat} {rs:List (Option Addr×Nat)} {ks:List (List Ac)} {rest:List Value} (he:ZaW w' rs ks) (hg:Blk w' g 26 (slv rs ks++rest).toArray) (hc:n≤c) (hn:ks.length=n):KsM w' (.slice (some ⟨g,0,none⟩) n c) ks:=by
 subst hn;refine ⟨some ⟨g,0,none⟩,c,rs,rfl,fun _=>⟨_,rfl,hg.lt,fun j v hj=>?_⟩,he,hc⟩;have hadd:(⟨g,0,none⟩:Addr).add j=⟨g,j,none⟩:=by unfold Addr.add;split <;> simp_all
 rw [hadd,hg.cell,List.getElem?_toArray,List.getElem?_append_left (gs_ hj).1];exact hj
theorem ZfL {w:World} (ty:TypeId) (i:TypeInfo) (hi:Try.prog.info? 26=some i) (g n:Nat) (oa:Option Addr) (rc:Nat) :
 (Builtin.append_ #[25,25] ty #[.slice (some ⟨g,0,none⟩) n n,.slice oa 0 rc]).run Try.prog w=.ok (.slice (some ⟨g,0,none⟩) n n) w:=by
 cases oa <;> simp [Builtin.append_,run_underlying Try.underlying25,sizeOf,typeInfo,hi,Builtin.lenOf,Builtin.firstCells,storeCells,loadCells,loadCellsFrom]
theorem Zfy {w:World} (ty:TypeId) {g:Nat} {ra:List (Option Addr×Nat)} {ka kb:List (List Ac)} {v:Value} (hg:Blk w g 26 (slv ra ka).toArray) (he:ZaW w ra ka) (hk:KsM w v kb) (hka:0<ka.length) (hl:ka.length+kb.length≤1000) :
 ∃u w',(Builtin.append_ #[25,25] ty #[.slice (some ⟨g,0,none⟩) ka.length ka.length,v]).run Try.prog w=.ok u w'∧Below w.heap.size w w'∧KsM w' u (ka++kb):=by
 obtain ⟨i3,hi3,hz0,hz1,hz2⟩:=ZD Zc2;obtain ⟨oa,c,rb,rfl,h1,h2,h3⟩:=hk;rcases Nat.eq_zero_or_pos kb.length with h0 | h0
 · have hkb:=List.eq_nil_of_length_eq_zero h0;subst hkb;refine ⟨_,_,ZfL ty i3 hi3 g ka.length oa c,Below.refl _ _,?_⟩;rw [List.append_nil];exact Zb2 (rest:=[]) he (by rw [List.append_nil];exact hg) lr_ rfl
 · obtain ⟨ad,rfl,hb,hx⟩:=h1 h0;have hla:=ZaU ra ka he.1;have hlb:=ZaU rb kb h2.1
   have hrun:=run_append_grow (P:=Try.prog) (w:=w) 25 ty 26 i3 _ Try.underlying25 hi3 hz0 ⟨g,0,none⟩ ka.length ka.length (slv ra ka) (by rw [hla,hz1];omega) (fun j v hj=>by
    have hadd:(⟨g,0,none⟩:Addr).add j=⟨g,j,none⟩:=by unfold Addr.add;split <;> simp_all
    rw [hadd,hg.cell]
    simpa using hj) ad kb.length c (slv rb kb) (by rw [hlb,hz1];omega) (fun j v hj=>hx j v hj) (by omega) (by omega) (by
     rw [hz2];have h9:=nextslicecap_le (need:=ka.length+kb.length) (old:=ka.length) (by omega)
     omega)
   refine ⟨_,_,hrun,((Below.refl _ w).drew).alloc lr_ _,?_⟩;have hnb:=Blk.new w.drew 26 ((slv ra ka).toArray++(slv rb kb).toArray++Builtin.zeroCells (Value.cells (.slice none 0 0)) (grownCap w (ka.length+kb.length) ka.length 26 - (ka.length+kb.length)));have hbel:Below w.heap.size w (w.drew.alloc (.cells ((slv ra ka).toArray++(slv rb kb).toArray++Builtin.zeroCells (Value.cells (.slice none 0 0)) (grownCap w (ka.length+kb.length) ka.length 26 - (ka.length+kb.length))) 26)):=((Below.refl _ w).drew).alloc lr_ _
   have heab:ZaW w (ra++rb) (ka++kb):=by
    refine ⟨by rw [List.length_append,List.length_append,he.1,h2.1],fun i oa c l e1 e2=>?_⟩
    by_cases hi:i<ka.length
    · rw [List.getElem?_append_left (by rw [he.1];exact hi)] at e1;rw [List.getElem?_append_left hi] at e2;exact he.2 i oa c l e1 e2
    · rw [List.getElem?_append_right (by rw [he.1];omega),he.1] at e1;rw [List.getElem?_append_right (by omega)] at e2;exact h2.2 _ oa c l e1 e2
   have hsl:∀(ra:List (Option Addr×Nat)) (ka:List (List Ac)),ra.length=ka.length→slv (ra++rb) (ka++kb)=slv ra ka++slv rb kb:=fun ra=>by
    induction ra with
    | nil =>
     intro ka h
     cases ka with
     | nil=>rfl
     | cons=>simp at h
    | cons r ra ih =>
     intro ka h
     cases ka with
     | nil=>simp at h
     | cons k ka =>
      obtain ⟨r1,r2⟩:=r;simp only [List.cons_append,slv];rw [ih ka (by simpa using h)]
   have hge:=grownCap_ge w (ka.length+kb.length) ka.length 26;refine Zb2 (rs:=ra++rb) (rest:=(Builtin.zeroCells (Value.cells (.slice none 0 0)) (grownCap w (ka.length+kb.length) ka.length 26 - (ka.length+kb.length))).toList) (heab.below hbel) ?_ hge (by rw [List.length_append]);rw [hsl ra ka he.1]
   have e9:((slv ra ka++slv rb kb)++(Builtin.zeroCells (Value.cells (.slice none 0 0)) (grownCap w (ka.length+kb.length) ka.length 26 - (ka.length+kb.length))).toList).toArray=(slv ra ka).toArray++(slv rb kb).toArray++Builtin.zeroCells (Value.cells (.slice none 0 0)) (grownCap w (ka.length+kb.length) ka.length 26 - (ka.length+kb.length)):=by
    apply Array.ext'
    simp
   rw [e9];exact hnb
def ZjD (f : Nat) : Prop := ∃ F : Func, Try.prog.funcs[f]? = some F ∧ F.name ≠ "runtime.NumGoroutine" ∧ F.body ≠ none
theorem pc_ {o:Oper} {a:Act} {w:World} {R:Value→World→Prop} {f:Nat} {xs:Array Operand} {ts:Array TypeId} {vs:Array Value} (hf:ZjD f) (hc:Calls Try.prog f vs w fun e w'=>∃u,e=.returned u∧R u w') (hop:o.op=Op.call { callee:=Callee.value (Operand.func f),args:=xs,argTypes:=ts }) (hx:xs.map a.eval=vs):par Try.prog o a w R:=by
 obtain ⟨F,h1,h2,h3⟩:=hf;exact ZbZ f xs ts hop F h1 h2 h3 vs hx hc
theorem kc_ {f:Nat} {vs:Array Value} {w:World} {v:Value} {B:World→Prop} {R:Value→World→Prop} (h:Calls Try.prog f vs w fun en w'=>en=.returned v∧B w') (hk:∀w',B w'→R v w'):Calls Try.prog f vs w fun e w'=>∃u,e=.returned u∧R u w' :=
 h.mono fun en w' hh=>⟨_,hh.1,hk _ hh.2⟩
theorem kd_ {f:Nat} {vs:Array Value} {w:World} {A:Value→World→Prop} {B:World→Prop} {R:Value→World→Prop} (h:Calls Try.prog f vs w fun en w'=>∃u,en=.returned u∧A u w'∧B w') (hk:∀u w',A u w'→B w'→R u w'):Calls Try.prog f vs w fun e w'=>∃u,e=.returned u∧R u w' :=
 h.mono fun en w' hh=>by
  obtain ⟨u,e1,e2,e3⟩:=hh;exact ⟨u,e1,hk _ _ e2 e3⟩
theorem Zhb:ZjD 114:=⟨_,Try.func114,by decide,by unfold Try.f114;simp⟩
theorem Zel:ZjD 120:=⟨_,Try.func120,by decide,by unfold Try.f120;simp⟩
theorem Zf2:ZjD 169:=⟨_,Try.func169,by decide,by unfold Try.f169;simp⟩
end Go.Proofs.Ytdpokdcendgfeaa
