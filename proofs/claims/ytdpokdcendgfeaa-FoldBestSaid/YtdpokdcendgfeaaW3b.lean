/- Several texts in one: The walk of gen.ends. gen's writer in memory; the walks of here, kids. The walks of gen's say, here, kids. The walks of slices.Concat at rows and of fold.join. The walk of fold.row. The walks of fold.asBool, fold.floor. Conditions: those of each. -/
import Derived.Test.YtdpokdcendgfeaaW3
import Derived.Test.YtdpokdcendgfeaaW1
import Derived.Laws.MakeOwn
import Derived.Test.YtdpokdcendgfeaaW2
import Derived.Maps.AppendAt
import Derived.Deep.CutBlock
import Derived.Deep.DeepCutAuto
set_option linter.unusedSimpArgs false
set_option linter.unusedVariables false
set_option maxHeartbeats 80000000
set_option maxRecDepth 100000
namespace Go.Proofs.Ytdpokdcendgfeaa
open Go.RowKit
def ZnJ (l:List Ac) (m:Nat):List Int:=(List.range l.length).map fun j=>if m≤j then (((ZV l j 1).getD 0:Nat):Int) else 0
theorem Zg7 {P:Program} (t e:TypeId) (i:TypeInfo) (z:Value) (ht:P.underlying t=some (.slice e)) (hi:P.info? e=some i) (hz:i.zero=some z)
 (kl kc:IntKind) (n c:Nat) (hnc:n≤c) (hbytes:i.bytes*c≤281474976710656) (h63:c≤9223372036854775807) (w:World) :
 (Instr.makeSlice t (.int kl (n:Int)) (.int kc (c:Int))).run P w=.ok (.slice (some ⟨w.heap.size,0,none⟩) n c) (w.alloc (.cells (madeCells z.cells (c*i.size)) e)):=by
 have hb:(i.bytes:Int)*(c:Int)≤281474976710656:=by
  have h:((i.bytes*c:Nat):Int)≤281474976710656:=by omega
  rwa [Int.natCast_mul] at h
 have hr:=run_make (P:=P) w t e i z ht hi hz kl kc n c (by omega) (by omega) hb (by omega);simp only [Int.toNat_natCast] at hr;exact hr
theorem Zj5 (n:Nat):madeCells #[.int .i64 0] (n*1)=(Zm (List.replicate n 0)).toArray:=by
 apply Array.ext_getElem?;intro j
 by_cases hj:j<n
 · simp [madeCells,Zm,hj,Nat.mod_one]
 · simp [madeCells,Zm,hj]
theorem ZeB (w:World) (n:Nat) (h:n≤4194304):(Instr.makeSlice 24 (.int .i64 (n:Int)) (.int .i64 (n:Int))).run Try.prog w=.ok (.slice (some ⟨w.heap.size,0,none⟩) n n) (w.alloc (.cells (Zm (List.replicate n 0)).toArray 3)):=by
 obtain ⟨i0,hi,hz0,hz1,hz2⟩:=ZD Zjk;have:=Zg7 (P:=Try.prog) 24 3 i0 (.int .i64 0) Try.underlying24 hi hz0 .i64 .i64 n n lr_ (by rw [hz2];omega) (by omega) w;rw [hz1,show (Value.int IntKind.i64 0).cells=#[.int .i64 0] from rfl,Zj5] at this;exact this
theorem Zlj {l:List Int} {j:Nat} {x:Int} (h:l[j]? = some x):(Zm l)[j]? = some (.int .i64 x):=by simp [Zm,h]
theorem ZbS (l:List Int) (j:Nat) (x:Int):(Zm l).toArray.setIfInBounds j (.int .i64 x)=(Zm (l.set j x)).toArray:=by simp [Zm,List.map_set]
theorem Zae {W:World} {g:Nat} {l:List Int} {t:TypeId} (h:Blk W g t (Zm l).toArray) {j:Nat} {x:Int} (hj:l[j]? = some x):W.cell? ⟨g,j,none⟩=some (.int .i64 x):=by
 rw [h.cell];simpa using Zlj hj
def In.cells (x:In):List Value:=[.int .i64 x.o,.int .i64 x.a,.int .i64 x.b,.int .i64 x.c,.int .i64 x.d]
def In.val (x:In):Value:=.agg #[.int .i64 x.o,.int .i64 x.a,.int .i64 x.b,.int .i64 x.c,.int .i64 x.d]
def ins (l:List In):List Value:=(l.map In.cells).flatten
structure Wv where
 (c r l s:Value)
def Wv.in_ (v:Wv) (b k:Nat):Prop:=k=b∨v.c.ownBlock=some k∨v.r.ownBlock=some k∨v.l.ownBlock=some k∨v.s.ownBlock=some k
structure GEnv (W:World) (l:List Ac) (ad:Addr) (ge B:Nat):Prop where
 src:Src W (some ad) l.length (acs l)
 en:Blk W ge 3 (Zm (ZnJ l 0)).toArray
 b1:ad.block<B
 b2:ge<B
def Zns (l:List Ac) (ad:Addr) (ca ge:Nat) (v:Wv):Array Value:=#[.slice (some ad) l.length ca,.slice (some ⟨ge,0,none⟩) l.length l.length,v.c,v.r,v.l,v.s]
structure Gw (W:World) (B b:Nat) (l:List Ac) (ad:Addr) (ca ge:Nat) (v:Wv) (cd:List In) (rw:List Int) (lt:List Value) (sn:Nat):Prop where
 kk:Blk W b 119 (Zns l ad ca ge v)
 kb:B≤b
 kc:W.ownsRow B 56 5 v.c cd.length (ins cd)
 kr:W.ownsRow B 3 1 v.r rw.length (Zm rw)
 kl:W.ownsRow B 1 1 v.l lt.length lt
 ks:∃st:List Int,W.ownsRow B 3 1 v.s sn (Zm st)
 ka:∀k,v.r.ownBlock=some k→v.s.ownBlock≠some k
 ke:GEnv W l ad ge B
structure Wto (W W':World) (b:Nat) (v v':Wv):Prop where
 o:Only (v.in_ b) W W'
 n:∀k,v'.in_ b k→v.in_ b k∨W.heap.size≤k
section
variable {W W' W'':World} {B b:Nat} {l:List Ac} {ad:Addr} {ca ge:Nat} {v v' v'':Wv} {cd:List In} {rw:List Int} {lt:List Value} {sn:Nat}
theorem Wto.refl (W:World) (b:Nat) (v:Wv):Wto W W b v v:=⟨Only.refl _ _,fun _ h=>.inl h⟩
theorem Wto.trans (h:Wto W W' b v v') (h2:Wto W' W'' b v' v''):Wto W W'' b v v'' :=
 ⟨h.o.trans2 h2.o h.n,fun k hk=>by
  rcases h2.n k hk with h3 | h3
  · exact h.n k h3
  · have:=h.o.size;exact .inr (by omega)⟩
theorem Gw.low (h:Gw W B b l ad ca ge v cd rw lt sn):∀k,v.in_ b k→B≤k:=by
 intro k hk;rcases hk with rfl | hk | hk | hk | hk
 · exact h.kb
 · exact (h.kc.lt k hk).1
 · exact (h.kr.lt k hk).1
 · exact (h.kl.lt k hk).1
 · obtain ⟨st,hs⟩:=h.ks;exact (hs.lt k hk).1
theorem Gw.size (h:Gw W B b l ad ca ge v cd rw lt sn):B≤W.heap.size:=by have:=h.kb;have:=h.kk.lt;omega
theorem Wto.below (h:Wto W W' b v v') (hg:Gw W B b l ad ca ge v cd rw lt sn):Below B W W':=h.o.below hg.low hg.size
theorem GEnv.below (h:GEnv W l ad ge B) (hb:Below B W W'):GEnv W' l ad ge B:=by
 refine ⟨fun h0=>?_,h.en.below hb h.b2,h.b1,h.b2⟩;obtain ⟨ad',e,hl,hx⟩:=h.src h0
 cases e
 exact ⟨ad,rfl,Nat.lt_of_lt_of_le hl hb.size,fun j u hj=>(hb.cell (by rw [Zl];exact h.b1)).trans (hx j u hj)⟩
theorem Gw.only {S:Nat→Prop} (h:Gw W B b l ad ca ge v cd rw lt sn) (ho:Only S W W') (hS:∀k,v.in_ b k→¬S k) (hB:∀k,S k→B≤k):Gw W' B b l ad ca ge v cd rw lt sn:=by
 obtain ⟨st,hs⟩:=h.ks;exact ⟨h.kk.only ho (hS b (.inl rfl)),h.kb,ZaG h.kc ho (fun k hk=>hS k (.inr (.inl hk))),ZaG h.kr ho (fun k hk=>hS k (.inr (.inr (.inl hk)))),ZaG h.kl ho (fun k hk=>hS k (.inr (.inr (.inr (.inl hk))))),⟨st,ZaG hs ho (fun k hk=>hS k (.inr (.inr (.inr (.inr hk)))))⟩,h.ka,h.ke.below (ho.below hB h.size)⟩
theorem Gw.grow (h:Gw W B b l ad ca ge v cd rw lt sn) (hb:Below W.heap.size W W'):Gw W' B b l ad ca ge v cd rw lt sn :=
 h.only (S:=fun _=>False) (Only.of_new hb) (fun _ _=>id) (fun _=>False.elim)
theorem Wto.grow (hb:Below W.heap.size W W'):Wto W W' b v v:=⟨Only.of_new hb,fun _ h=>.inl h⟩
theorem ZbC {w:World} {B B':Nat} {t t':TypeId} {sz sz' n n':Nat} {u u':Value} {xs xs':List Value} (h:w.ownsRow B t sz u n xs) (h':w.ownsRow B' t' sz' u' n' xs') (ht:t≠t'):∀k,u.ownBlock=some k→u'.ownBlock≠some k:=by
 intro k hk;rcases h.2 with ⟨rfl,_⟩ | ⟨g,cap,cur,rfl,_,hh,_⟩
 · simp [Value.ownBlock] at hk
 · have:g=k:=by simpa [Value.ownBlock] using hk
   subst this;exact ZX h' hh (Ne.symm ht)
end
theorem Zg {w:World} {B:Nat} {t:TypeId} {sz n:Nat} {u:Value} {xs:List Value} (h:w.ownsRow B t sz u n xs):∃oa c,u=.slice oa n c:=by
 rcases h.2 with ⟨rfl,h0⟩ | ⟨g,cap,cur,rfl,_⟩
 · exact ⟨none,0,by rw [h0]⟩
 · exact ⟨_,_,rfl⟩
section
variable {W:World} {B b:Nat} {l:List Ac} {ad:Addr} {ca ge:Nat} {v:Wv} {cd:List In} {rw:List Int} {lt:List Value} {sn:Nat}
end
theorem Zkn {ls:List (List Ac)} {j:Nat} {l:List Ac} (h:ls[j]? = some l):acs (ls.take (j+1)).flatten=acs (ls.take j).flatten++acs l:=by
 rw [List.take_add_one,h];simp [acs]
theorem ZbG (l:List Ac):(acs l).length=l.length*6:=by
 induction l with
 | nil=>rfl
 | cons x l ih=>simp only [acs,List.map_cons,List.flatten_cons,List.length_append,List.length_cons] at ih ⊢;rw [ih];simp [Ac.cells];omega
theorem Zfz (l:List Ac):∀u ∈ acs l,u.oneCell'=true:=by
 intro u h;simp only [acs,List.mem_flatten,List.mem_map] at h;obtain ⟨_,⟨x,_,rfl⟩,h⟩:=h;simp [Ac.cells] at h;rcases h with rfl | rfl | rfl | rfl | rfl | rfl <;> rfl
theorem ZfM {w:World} (base:Nat) (ty:TypeId) (i:TypeInfo) (hi:Try.prog.info? 49=some i) (v:Value) (n rc:Nat) (xs:List Value) (hown:w.ownsRow base 49 6 v n xs) :
 (Builtin.append_ #[26,26] ty #[v,.slice none 0 rc]).run Try.prog w=.ok v w:=by
 rcases hown.2 with ⟨rfl,rfl⟩ | ⟨g,cap,cur,rfl,_,_,hnc,_⟩
 · simp [Builtin.append_,run_underlying Try.underlying26,sizeOf,typeInfo,hi,Builtin.lenOf,Builtin.firstCells]
 · simp [Builtin.append_,run_underlying Try.underlying26,sizeOf,typeInfo,hi,Builtin.lenOf,Builtin.firstCells,hnc,storeCells]
theorem ZlF (w:World) (oa:Option Addr) (c:Nat) (rs:List (Option Addr×Nat)) (ls:List (List Ac)) (h:Src w oa ls.length (slv rs ls)) (he:ZaW w rs ls) (hl:ls.length≤262144) (ht:Zh ls≤262144) :
 Calls Try.prog 134 #[.slice oa ls.length c] w fun en w'=>∃u,en=.returned u∧w'.ownsRow w.heap.size 49 6 u (Zh ls) (acs ls.flatten)∧Below w.heap.size w w':=by
 have HS:=Za h;have HE:=Za he;obtain ⟨i3,hi3,hz0,hz1,hz2⟩:=ZD Zjl;have HG:=Za (Znr w (Zh ls) (by omega));clear h he;go_enter Try.func134,Try.ntmps134;go_wp2_with fail;go_loopw [3,11] (fun t3 t11 W=>∃j:Nat,t3=.int .i64 ((Zh (ls.take j):Nat):Int)∧t11=.int .i64 (j:Int)∧j≤ls.length∧W=w) (fun _ t11 _=>ls.length - (intOf t11).toNat)
 case atStart=>exact ⟨0,by simp [Zh],rfl,Nat.zero_le _,rfl⟩
 case round =>
  obtain ⟨j,rfl,rfl,hj,rfl⟩:=hrel;have hq:=IntWalk.i64_in ((j:Int)+1) (by omega)
  by_cases hjl:j<ls.length
  · have hjI:(j:Int)<(ls.length:Int):=by omega
    obtain ⟨l,hlj⟩:∃l,ls[j]? = some l:=⟨_,ge_ hjl⟩;obtain ⟨⟨ra,rc⟩,hr⟩:∃r,rs[j]? = some r:=⟨_,ge_ (by rw [HE.out.1];exact hjl)⟩;obtain ⟨ad,e,hab,c0⟩:=Za3 HS.out (by omega) (ZaS rs ls j _ _ hr hlj);subst e;simp only at c0;have hs:=Zby hlj;have hle:=Zd8 ls (j+1);have HSU:=Za hs;obtain ⟨sm,hsm⟩:∃sm,Zh (ls.take j)=sm:=⟨_,rfl⟩;rw [hsm] at hs HSU ⊢;have hb9:sm+l.length≤262144:=by omega
    have hq3:=IntWalk.i64_in ((sm:Int)+(l.length:Int)) (by omega);have hpos:¬((sm:Int)+(l.length:Int))<0:=by omega
    clear hsm hs hle hlj hr hab;go_wp2_with fail;go_roundw
    case rel=>exact ⟨j+1,by rw [HSU.out];go_num,by go_num,by omega,trivial⟩
    case measure =>
     simp only [intOf];omega
  · have hje:j=ls.length:=by omega
    have hjI:¬(j:Int)<(ls.length:Int):=by omega
    have HT:=Za (show Zh (ls.take j)=Zh ls by rw [hje,List.take_length]);rw [HT.out];clear hje hjl;go_upto_region 10 with (go_at_call 172;refine HG.out.mono ?_;rintro en w1 ⟨u1,rfl,hown,hb⟩;have HO:=Za hown;have HB:=Za hb;clear hown hb);go_wp2_with fail;go_loopw [6,27] (fun t6 t27 W2=>∃k:Nat,t27=.int .i64 (k:Int)∧k≤ls.length∧W2.ownsRow wr.heap.size 49 6 t6 (Zh (ls.take k)) (acs (ls.take k).flatten)∧Below wr.heap.size wr W2) (fun _ t27 _=>ls.length - (intOf t27).toNat)
    case atStart=>exact ⟨0,rfl,Nat.zero_le _,by simpa [Zh,acs] using HO.out,HB.out⟩
    case round =>
     clear hjI hj hq;obtain ⟨k,rfl,hk,hown,hb⟩:=hrel;rename World=>W2
     have HO2:=Za hown;have HB2:=Za hb;have hq2:=IntWalk.i64_in ((k:Int)+1) (by omega)
     by_cases hkl:k<ls.length
     · have hkI:(k:Int)<(ls.length:Int):=by omega
       obtain ⟨l,hlj⟩:∃l,ls[k]? = some l:=⟨_,ge_ hkl⟩;obtain ⟨⟨ra,rc⟩,hr⟩:∃r,rs[k]? = some r:=⟨_,ge_ (by rw [HE.out.1];exact hkl)⟩;obtain ⟨ad,e,hab,c0⟩:=Za3 (HS.out.below hb) (by omega) (ZaS rs ls k _ _ hr hlj);subst e;simp only at c0;have hs:=Zby hlj;have hle:=Zd8 ls (k+1);have HSU:=Za hs;have HFL:=Za (Zkn hlj);have HSL:=Za ((HE.out.2 k ra rc l hr hlj).1.below hb);have hb9:Zh (ls.take k)+l.length≤262144:=by omega
       clear hs hle hlj hr hab hown
       cases ra with
       | none =>
        have hl0:l=[]:=by
         rcases Nat.eq_zero_or_pos l.length with h0 | h0
         · exact List.eq_nil_of_length_eq_zero h0
         · obtain ⟨ad2,e2,_⟩:=HSL.out h0
           cases e2
        subst hl0;have HRN:=Za (fun ty=>ZfM (w:=W2) wr.heap.size ty i3 hi3 u6 (Zh (ls.take k)) rc (acs (ls.take k).flatten) HO2.out);clear hb;go_wp2_with (at_builtin;refine Lib.wpList_append_run _ rfl _ _ _ _ rfl _ _ rfl rfl _ _ (HRN.out _) ?_);go_roundw
        case rel=>exact ⟨k+1,by go_num,by omega,by rw [HSU.out,HFL.out];simpa [acs] using HO2.out,HB2.out⟩
        case measure =>
         simp only [intOf];omega
       | some ad2 =>
        have HC:=Za (show ∀(j:Nat) (u:Value),(acs l)[j]? = some u→W2.cell? (ad2.add j)=some u from fun j u hj=>by
         have hjl:=(gs_ hj).1;rw [ZbG] at hjl;obtain ⟨ad3,e3,_,hx⟩:=HSL.out (by omega)
         cases e3
         exact hx j u hj)
        have hbw:wr.heap.size≤W2.heap.size:=hb.size;clear hb;go_wp2_with (at_builtin;refine wpList_append_own_at _ rfl (.tmp 31) (.tmp 32) 26 rfl wr.heap.size 49 i3 _ 6 48 Try.underlying26 hi3 hz0 hz1 hz2 rfl (by decide) u6 (Zh (ls.take k)) (acs (ls.take k).flatten) rfl HO2.out ad2 l.length rc (acs l) rfl (ZbG l) HC.out (Zfz l) (by unfold maxLen;omega) (by omega) hbw ?_;intro u7 w7 hown7 hgr7 _ _;have HO7:=Za hown7;have HB7:=Za (HB2.out.trans (Zan hgr7 (fun g hg=>(HO2.out.lt g hg).1) hbw));clear hown7 hgr7);go_roundw
        case rel=>exact ⟨k+1,by go_num,by omega,by rw [HSU.out,HFL.out];exact HO7.out,HB7.out⟩
        case measure =>
         simp only [intOf];omega
     · have hke:k=ls.length:=by omega
       have hkI:¬(k:Int)<(ls.length:Int):=by omega
       have HF:=Za (show W2.ownsRow wr.heap.size 49 6 u6 (Zh ls) (acs ls.flatten) by rw [hke,List.take_length] at hown;exact hown);clear hown hb hke hkl;go_wp2_with fail;go_ret;exact ⟨_,rfl,HF.out,HB2.out⟩
theorem ZfU (w:World) (oa:Option Addr) (c:Nat) (rs:List (Option Addr×Nat)) (ls:List (List Ac)) (h:Src w oa ls.length (slv rs ls)) (he:ZaW w rs ls) (hl:ls.length≤262144) (ht:Zh ls≤262144) :
 Calls Try.prog 100 #[.slice oa ls.length c] w fun en w'=>∃u,en=.returned u∧w'.ownsRow w.heap.size 49 6 u (Zh ls) (acs ls.flatten)∧Below w.heap.size w w':=by
 have HC:=Za (ZlF w oa c rs ls h he hl ht);clear h he;go_enter Try.func100,Try.ntmps100;go_wp2_with (go_at_call 134;refine HC.out.mono ?_;rintro en w1 ⟨u1,rfl,hown,hb⟩;have HO:=Za hown;have HB:=Za hb;clear hown hb);go_ret;exact ⟨_,rfl,HO.out,HB.out⟩
theorem Zak {w:World} {B:Nat} {t:TypeId} {sz n c:Nat} {oa:Option Addr} {xs:List Value} (h:w.ownsRow B t sz (.slice oa n c) n xs):Src w oa n xs:=fun h0=>by
 rcases h.2 with ⟨e,h1⟩ | ⟨g,cap,cur,e,hb,hg,h1,h2,h3,h4⟩
 · omega
 · simp only [Value.slice.injEq] at e;obtain ⟨rfl,_,rfl⟩:=e;have hk:Blk w g t cur:=hg;refine ⟨_,rfl,hk.lt,fun j v hj=>?_⟩;have hadd:(⟨g,0,none⟩:Addr).add j=⟨g,j,none⟩:=by unfold Addr.add;split <;> simp_all
   rw [hadd,hk.cell];have hj2:=(gs_ hj).1;have hl:xs.length=n*sz:=h.1;have h5:(cur.toList.take (n*sz))[j]? = xs[j]?:=by rw [h4]
   rw [List.getElem?_take,if_pos (by omega),hj] at h5;simpa using h5
theorem Zfo {w:World} (base:Nat) (ty:TypeId) (i:TypeInfo) (hi:Try.prog.info? 26=some i) (v:Value) (n rc:Nat) (xs:List Value) (hown:w.ownsRow base 26 1 v n xs) :
 (Builtin.append_ #[25,25] ty #[v,.slice none 0 rc]).run Try.prog w=.ok v w:=by
 rcases hown.2 with ⟨rfl,rfl⟩ | ⟨g,cap,cur,rfl,_,_,hnc,_⟩
 · simp [Builtin.append_,run_underlying Try.underlying25,sizeOf,typeInfo,hi,Builtin.lenOf,Builtin.firstCells]
 · simp [Builtin.append_,run_underlying Try.underlying25,sizeOf,typeInfo,hi,Builtin.lenOf,Builtin.firstCells,hnc,storeCells]
def Ac.kid (x:Ac) (n:Nat):Ac:={ x with n:=(n:Int) }
theorem ZjP (w:World) (x:Ac) (kc:Nat) :
 Calls Try.prog 120 #[x.val,.slice none 0 kc] w fun en w'=>∃u,en=.returned u∧w'.ownsRow w.heap.size 49 6 u (Zh []+1) (acs (x.kid 0::List.flatten []))∧Below w.heap.size w w':=by
 obtain ⟨i3,hi3,hz0,hz1,hz2⟩:=ZD Zc2;simp only [Ac.val];have HE:=Za (show ZaW w [] [] from ⟨rfl,fun i oa c l h1 h2=>by simp at h1⟩);have HB1:=Za ((Below.refl w.heap.size w).alloc lr_ (.cells #[.int .i64 x.k,.int .i64 x.a,.int .i64 x.b,.int .i64 x.c,.int .i64 x.d,.int .i64 0] 49));have hkx:=Blk.new w 49 #[.int .i64 x.k,.int .i64 x.a,.int .i64 x.b,.int .i64 x.c,.int .i64 x.d,.int .i64 0];go_enter Try.func120,Try.ntmps120;go_upto_region 2 with fail;generalize w.alloc (.cells #[.int .i64 x.k,.int .i64 x.a,.int .i64 x.b,.int .i64 x.c,.int .i64 x.d,.int .i64 0] 49)=W1 at HB1 hkx;have y0:W1.cell? ⟨w.heap.size,0,none⟩=some (.int .i64 x.k):=hkx.cell 0;have y1:W1.cell? ⟨w.heap.size,1,none⟩=some (.int .i64 x.a):=hkx.cell 1;have y2:W1.cell? ⟨w.heap.size,2,none⟩=some (.int .i64 x.b):=hkx.cell 2;have y3:W1.cell? ⟨w.heap.size,3,none⟩=some (.int .i64 x.c):=hkx.cell 3;have y4:W1.cell? ⟨w.heap.size,4,none⟩=some (.int .i64 x.d):=hkx.cell 4;have y5:W1.cell? ⟨w.heap.size,5,none⟩=some (.int .i64 0):=hkx.cell 5;have hsz:(W1.alloc (.cells #[.int .i64 x.k,.int .i64 x.a,.int .i64 x.b,.int .i64 x.c,.int .i64 x.d,.int .i64 0] 49)).heap.size=W1.heap.size+1:=by simp
 have hbs:=HB1.out.size;have hlit:=World.ownsRow_lit (base:=w.heap.size) (e:=26) (size:=1) (W1.alloc (.cells #[.int .i64 x.k,.int .i64 x.a,.int .i64 x.b,.int .i64 x.c,.int .i64 x.d,.int .i64 0] 49)) #[.slice (some ⟨W1.heap.size,0,none⟩) 1 1] 1 (by omega) (by decide) rfl;have hk3:=(Blk.new W1 49 #[.int .i64 x.k,.int .i64 x.a,.int .i64 x.b,.int .i64 x.c,.int .i64 x.d,.int .i64 0]).alloc (.cells #[.slice (some ⟨W1.heap.size,0,none⟩) 1 1] 26);have HB3:=Za ((HB1.out.alloc HB1.out.size (.cells #[.int .i64 x.k,.int .i64 x.a,.int .i64 x.b,.int .i64 x.c,.int .i64 x.d,.int .i64 0] 49)).alloc (by omega) (.cells #[.slice (some ⟨W1.heap.size,0,none⟩) 1 1] 26));have hs3:W1.heap.size+1<((W1.alloc (.cells #[.int .i64 x.k,.int .i64 x.a,.int .i64 x.b,.int .i64 x.c,.int .i64 x.d,.int .i64 0] 49)).alloc (.cells #[.slice (some ⟨W1.heap.size,0,none⟩) 1 1] 26)).heap.size:=by simp
 rw [hsz] at hlit;have HLIT:=Za hlit;have HK3:=Za hk3;have HS3:=Za hs3;clear hlit hk3 hkx hsz hs3
 have HEV:=Za (show ∀w3:World,Below w.heap.size w w3→Blk w3 W1.heap.size 49 #[.int .i64 x.k,.int .i64 x.a,.int .i64 x.b,.int .i64 x.c,.int .i64 x.d,.int .i64 0]→ZaW w3 ((some ⟨W1.heap.size,0,none⟩,1)::[]) ([x.kid 0]::[]) from fun w3 hb hk9=>by
  refine ⟨by simp [HE.out.1],fun i oa c l h1 h2=>?_⟩
  cases i with
  | zero =>
   simp at h1 h2;obtain ⟨rfl,rfl⟩:=h1;subst h2;exact ⟨ZaM 1 hk9,lr_,by decide⟩
  | succ i=>simp at h1)
 have HFL:=Za (show acs (List.flatten ([x.kid 0]::[]))=acs (x.kid 0::List.flatten []) by simp);have HRV:=Za (show Zh ([x.kid 0]::[])=Zh []+1 by simp [Zh] <;> omega);have HRN:=Za (fun ty=>Zfo w.heap.size ty i3 hi3 _ 1 kc _ HLIT.out);have HJ:=Za (ZfU _ _ 1 _ _ (Zak HLIT.out) (HEV.out _ HB3.out HK3.out) (by simp) (by rw [HRV.out];simp [Zh]));simp only [List.length_cons,List.length_nil] at HJ
 go_wp2_with (first
  | (at_builtin;refine Lib.wpList_append_run _ rfl _ _ _ _ rfl _ _ rfl rfl _ _ (HRN.out _) ?_)
  | (go_at_call 100;refine HJ.out.mono ?_;rintro en w5 ⟨u5,rfl,ho5,hb5⟩;have HO5:=Za ho5;have HB5:=Za hb5;clear ho5 hb5))
 go_ret;refine ⟨_,rfl,?_,HB3.out.trans (HB5.out.mono HB3.out.size)⟩;have:=Zv HO5.out HB3.out.size;rw [HRV.out,HFL.out] at this;exact this
theorem Zi3 (w:World) (x:Ac) (ad2:Addr) (kc:Nat) (rs:List (Option Addr×Nat)) (ls:List (List Ac)) (h:Src w (some ad2) ls.length (slv rs ls)) (he:ZaW w rs ls) (hl:ls.length≤200000) (ht:Zh ls≤200000) :
 Calls Try.prog 120 #[x.val,.slice (some ad2) ls.length kc] w fun en w'=>∃u,en=.returned u∧w'.ownsRow w.heap.size 49 6 u (Zh ls+1) (acs (x.kid ls.length::List.flatten ls))∧Below w.heap.size w w':=by
 obtain ⟨i3,hi3,hz0,hz1,hz2⟩:=ZD Zc2;simp only [Ac.val];have HH:=Za h;have HE:=Za he;have HB1:=Za ((Below.refl w.heap.size w).alloc lr_ (.cells #[.int .i64 x.k,.int .i64 x.a,.int .i64 x.b,.int .i64 x.c,.int .i64 x.d,.int .i64 (ls.length:Int)] 49));have hkx:=Blk.new w 49 #[.int .i64 x.k,.int .i64 x.a,.int .i64 x.b,.int .i64 x.c,.int .i64 x.d,.int .i64 (ls.length:Int)];clear h he;go_enter Try.func120,Try.ntmps120;go_upto_region 2 with fail;generalize w.alloc (.cells #[.int .i64 x.k,.int .i64 x.a,.int .i64 x.b,.int .i64 x.c,.int .i64 x.d,.int .i64 (ls.length:Int)] 49)=W1 at HB1 hkx;have y0:W1.cell? ⟨w.heap.size,0,none⟩=some (.int .i64 x.k):=hkx.cell 0;have y1:W1.cell? ⟨w.heap.size,1,none⟩=some (.int .i64 x.a):=hkx.cell 1;have y2:W1.cell? ⟨w.heap.size,2,none⟩=some (.int .i64 x.b):=hkx.cell 2;have y3:W1.cell? ⟨w.heap.size,3,none⟩=some (.int .i64 x.c):=hkx.cell 3;have y4:W1.cell? ⟨w.heap.size,4,none⟩=some (.int .i64 x.d):=hkx.cell 4;have y5:W1.cell? ⟨w.heap.size,5,none⟩=some (.int .i64 (ls.length:Int)):=hkx.cell 5;have hsz:(W1.alloc (.cells #[.int .i64 x.k,.int .i64 x.a,.int .i64 x.b,.int .i64 x.c,.int .i64 x.d,.int .i64 (ls.length:Int)] 49)).heap.size=W1.heap.size+1:=by simp
 have hbs:=HB1.out.size;have hlit:=World.ownsRow_lit (base:=w.heap.size) (e:=26) (size:=1) (W1.alloc (.cells #[.int .i64 x.k,.int .i64 x.a,.int .i64 x.b,.int .i64 x.c,.int .i64 x.d,.int .i64 (ls.length:Int)] 49)) #[.slice (some ⟨W1.heap.size,0,none⟩) 1 1] 1 (by omega) (by decide) rfl;have hk3:=(Blk.new W1 49 #[.int .i64 x.k,.int .i64 x.a,.int .i64 x.b,.int .i64 x.c,.int .i64 x.d,.int .i64 (ls.length:Int)]).alloc (.cells #[.slice (some ⟨W1.heap.size,0,none⟩) 1 1] 26);have HB3:=Za ((HB1.out.alloc HB1.out.size (.cells #[.int .i64 x.k,.int .i64 x.a,.int .i64 x.b,.int .i64 x.c,.int .i64 x.d,.int .i64 (ls.length:Int)] 49)).alloc (by omega) (.cells #[.slice (some ⟨W1.heap.size,0,none⟩) 1 1] 26));have hs3:W1.heap.size+1<((W1.alloc (.cells #[.int .i64 x.k,.int .i64 x.a,.int .i64 x.b,.int .i64 x.c,.int .i64 x.d,.int .i64 (ls.length:Int)] 49)).alloc (.cells #[.slice (some ⟨W1.heap.size,0,none⟩) 1 1] 26)).heap.size:=by simp
 rw [hsz] at hlit;have HLIT:=Za hlit;have HK3:=Za hk3;have HS3:=Za hs3;clear hlit hk3 hkx hsz hs3
 have HEV:=Za (show ∀w3:World,Below w.heap.size w w3→Blk w3 W1.heap.size 49 #[.int .i64 x.k,.int .i64 x.a,.int .i64 x.b,.int .i64 x.c,.int .i64 x.d,.int .i64 (ls.length:Int)]→ZaW w3 ((some ⟨W1.heap.size,0,none⟩,1)::rs) ([x.kid ls.length]::ls) from fun w3 hb hk9=>by
  refine ⟨by simp [HE.out.1],fun i oa c l h1 h2=>?_⟩
  cases i with
  | zero =>
   simp at h1 h2;obtain ⟨rfl,rfl⟩:=h1;subst h2;exact ⟨ZaM 1 hk9,lr_,by decide⟩
  | succ i=>exact (HE.out.below hb).2 i oa c l (by simpa using h1) (by simpa using h2))
 have HFL:=Za (show acs (List.flatten ([x.kid ls.length]::ls))=acs (x.kid ls.length::List.flatten ls) by simp);have HRV:=Za (show Zh ([x.kid ls.length]::ls)=Zh ls+1 by simp [Zh] <;> omega);have HSS:=Za (HH.out.below HB3.out)
 have hcell:∀j u,(slv rs ls)[j]? = some u→((W1.alloc (.cells #[.int .i64 x.k,.int .i64 x.a,.int .i64 x.b,.int .i64 x.c,.int .i64 x.d,.int .i64 (ls.length:Int)] 49)).alloc (.cells #[.slice (some ⟨W1.heap.size,0,none⟩) 1 1] 26)).cell? (ad2.add j)=some u:=fun j u hj=>by
  have hjl:=(gs_ hj).1;rw [ZaU rs ls HE.out.1] at hjl;obtain ⟨ad3,e3,_,hx⟩:=HSS.out (by omega)
  cases e3
  exact hx j u hj
 have HCELL:=Za hcell;clear hcell;have hBB:w.heap.size≤((W1.alloc (.cells #[.int .i64 x.k,.int .i64 x.a,.int .i64 x.b,.int .i64 x.c,.int .i64 x.d,.int .i64 (ls.length:Int)] 49)).alloc (.cells #[.slice (some ⟨W1.heap.size,0,none⟩) 1 1] 26)).heap.size:=HB3.out.size;have HBB:=Za hBB;clear hBB
 go_wp2_with (first
  | (
   at_builtin
   refine wpList_append_own_at _ rfl (.tmp 10) (.tmp 11) 25 rfl w.heap.size 26 i3 _ 1 24 Try.underlying25 hi3 hz0 hz1 hz2 rfl (by decide) _ 1 _ rfl HLIT.out ad2 ls.length kc (slv rs ls) rfl (by rw [ZaU rs ls HE.out.1];omega) HCELL.out (ZeU rs ls) (by unfold maxLen;omega) (by omega) HBB.out ?_;intro u7 w7 hown7 hgr7 _ hat7;have hb7:=HB3.out.trans (Zan hgr7 (fun g hg=>(HLIT.out.lt g hg).1) HBB.out);have hk7:=HK3.out.grown hgr7 (fun e9=>by have e10:W1.heap.size=W1.heap.size+1:=Option.some.inj e9;omega);rw [Nat.add_comm 1 ls.length] at hown7;obtain ⟨oa7,cp7,rfl⟩:=Zg hown7;have HJ:=Za (ZfU _ _ cp7 _ _ (Zak (n:=([x.kid ls.length]::ls).length) hown7) (HEV.out _ hb7 hk7) (by simp;omega) (by rw [HRV.out];omega));simp only [List.length_cons] at HJ;have HB7:=Za hb7
   clear hown7 hgr7 hat7 hb7 hk7)
  | (go_at_call 100;refine HJ.out.mono ?_;rintro en w5 ⟨u5,rfl,ho5,hb5⟩;have HO5:=Za ho5;have HB5:=Za hb5;clear ho5 hb5))
 go_ret;refine ⟨_,rfl,?_,HB7.out.trans (HB5.out.mono HB7.out.size)⟩;have:=Zv HO5.out HB7.out.size;rw [HRV.out,HFL.out] at this;exact this
theorem ZlO (w:World) (b:Bool):Calls Try.prog 165 #[.bool b] w fun en w'=>∃oa,en=.returned (.slice oa 1 1)∧Src w' oa 1 (acs [⟨20,if b then 1 else 0,0,0,0,0⟩])∧(∀ad,oa=some ad→w.heap.size≤ad.block)∧Below w.heap.size w w':=by
 go_enter Try.func165,Try.ntmps165
 cases b
 all_goals
  go_wp2_with fail;go_ret;refine ⟨_,rfl,ZaM (t:=49) 1 (by exact Zbh _ _ _ _),fun ad e=>by injection e with e;subst e;exact Nat.le_succ _,?_⟩;exact ((Below.refl _ w).alloc lr_ _).alloc (by simp) _
def Zca (a b:Int):Int:=if b=0 then 0 else Za0 (if a.tmod b≠0∧(decide (a<0) != decide (b<0))=true then a.tdiv b - 1 else a.tdiv b)
theorem ZmM (w:World) (a b:Int) (ha:-1073741824≤a∧a≤1073741824):Calls Try.prog 164 #[.int .i64 a,.int .i64 b] w fun en w'=>en=.returned (.int .i64 (Zca a b))∧w'=w:=by
 have HC:=fun (n:Int)=>Za (ZdX w n)
 have hab:=Int.natAbs_tdiv_le_natAbs a b;have hq1:=IntWalk.i64_in (a.tdiv b) (by omega);have hq2:=IntWalk.i64_in (a.tdiv b - 1) (by omega);clear hab;go_enter Try.func164,Try.ntmps164
 by_cases hb:b=0
 · have hbb:(b == 0)=true:=by simp [hb]
   go_wp2_with fail;go_ret;exact ⟨by simp [Zca,hb],rfl⟩
 · have hbb:(b == 0)=false:=by simp [hb]
   by_cases hr:a.tmod b=0
   · have hrb:(a.tmod b != 0)=false:=by simp [hr]
     go_wp2_with (go_at_call 163;refine (HC _).out.mono ?_;rintro en w1 ⟨rfl,rfl⟩);go_ret;exact ⟨by simp [Zca,hb,hr],rfl⟩
   · have hrb:(a.tmod b != 0)=true:=by simp [hr]
     by_cases h1:a<0
     · by_cases h2:b<0
       all_goals
        go_wp2_with (go_at_call 163;refine (HC _).out.mono ?_;rintro en w1 ⟨rfl,rfl⟩);go_ret;exact ⟨by simp [Zca,hb,hr,h1,h2],rfl⟩
     · have he:=Int.tmod_eq_emod_of_nonneg (show 0≤a by omega) (b:=b);have hre:¬a % b=0:=by rw [←he];exact hr
       have hreb:(a % b != 0)=true:=by simp [hre]
       clear he
       by_cases h2:b<0
       all_goals
        go_wp2_with (go_at_call 163;refine (HC _).out.mono ?_;rintro en w1 ⟨rfl,rfl⟩);go_ret;refine ⟨?_,rfl⟩;simp [Zca,hb,hr,h1,h2,hre]
        try (rw [if_pos (by omega)])
end Go.Proofs.Ytdpokdcendgfeaa
