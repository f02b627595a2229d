/- Several texts in one: The walk of fold.branch. Conditions: those of each. -/
import Derived.Test.YtdpokdcendgfeaaW5
import Derived.WalkSpells
set_option linter.unusedSimpArgs false
set_option linter.unusedVariables false
set_option maxHeartbeats 80000000
set_option maxRecDepth 100000
namespace Go.Proofs.Ytdpokdcendgfeaa
open Go.RowKit
section
attribute [local go_sem] par Zah
theorem Zna (w:World) (a:Option Addr) (n c:Nat):(binOp .eql 26 (.slice a n c) (.slice none 0 0)).run Try.prog w=.ok (.bool a.isNone) w:=by
 simp only [binOp];simp [Op.equal,Op.maxDepth,Lib.run_equalIn_slice_nil w 9999 26 49 a n c 0 0 Try.underlying26]
theorem Zm9 (w:World) (a:Option Addr) (n c:Nat):(binOp .neq 26 (.slice a n c) (.slice none 0 0)).run Try.prog w=.ok (.bool (!a.isNone)) w:=run_neq_slice_nil_any w 26 49 a n c 0 0 Try.underlying26
structure BlkOk (b:List Ac) (b0:Ac):Prop where
 h:b[0]? = some b0
 s:Z7 b
 k:b0.n≠0→∃b1 r sp,b[1]? = some b1∧ZR b b0.n.toNat 1=some (r::sp)∧(b1.k=2→∃q0 q1 sp',ZR b b1.n.toNat 2=some (q0::q1::sp')∧sp'.length≤1∧∀q ∈ q0::q1::sp',q.2≤r.2)
def Zt (b:List Ac):List (List Ac) :=
 match b[0]? with
 | some b0=>match ZR b b0.n.toNat 1 with
  | some (_::sp)=>sp.map (sub b)
  | _=>[]
 | none=>[]
def inK (b:List Ac) (i:Nat):Option (List Ac) :=
 match Zbg b with
 | some sp=>(sp[i]?).map (sub b)
 | none=>none
def Z3 (x:Ac) (c a:List Ac) (ob:Option (List Ac)) (c0 a0 b0:Ac):Option (Nat×Option (List Ac)) :=
 if Zai c0 1 then some (8,some a)
 else if Zai c0 0 then some (8,ob)
 else if c0.k=29 then some (9,some (x.kid 3::[c.drop 1,ob.getD [⟨1,0,0,0,0,0⟩],a].flatten))
 else match ob with
  | none=>if a0.n=0∧ZK c=true then some (11,none)
   else if ZaE a c then some (12,some (x.kid 2::[c,Zi (Zt a) (inK a 1)].flatten)) else none
  | some b=>if b0.n=0 then some (10,some (x.kid 2::[c,a].flatten))
   else if ZaE a c then some (12,some (x.kid 3::[c,Zi (Zt a) (inK a 1),b].flatten))
   else if ZaE b c then some (13,some (x.kid 3::[c,a,Zi (Zt b) (inK b 2)].flatten)) else none
theorem Zfp {w:World} {a:Addr} {c:Nat} {l:List Ac} (h:Ro w a c l) (hl:2≤l.length):Ro w ⟨a.block,a.off+6,none⟩ (c - 1) (l.drop 1):=by
 have h1:=h.s;have h2:=ZeT (r:=(1,l.length)) h1 (by simp;omega) lr_
 have e1:sub l (1,l.length)=l.drop 1:=by
  unfold sub;simp only;rw [List.take_of_length_le (by simp)]
 rw [e1,show a.add ((1,l.length).1*6)=⟨a.block,a.off+6,none⟩ by simp [Addr.add]] at h2;refine ⟨h2,?_,?_⟩
 · rw [List.length_drop];have:=h.n;omega
 · have:=h.m;omega
theorem Zk {W:World} {g:Nat} {t:TypeId} {a b c d e f:Value} (h:Blk W g t #[a,b,c,d,e,f]):W.cell? ⟨g,0,none⟩=some a∧W.cell? ⟨g,1,none⟩=some b∧W.cell? ⟨g,2,none⟩=some c∧W.cell? ⟨g,3,none⟩=some d∧W.cell? ⟨g,4,none⟩=some e∧W.cell? ⟨g,5,none⟩=some f∧g<W.heap.size :=
 ⟨by rw [h.cell];rfl,by rw [h.cell];rfl,by rw [h.cell];rfl,by rw [h.cell];rfl,by rw [h.cell];rfl,by rw [h.cell];rfl,h.lt⟩
theorem Ro.rinN {w:World} {a:Addr} {c n:Nat} {l:List Ac} (h:Ro w a c l) (hn:l.length=n):Rin w (.slice (some a) n c) (some l):=by
 subst hn;exact h.rin
theorem ev3 {w:World} {p q r:Addr} {cp cq cr:Nat} {k l m:List Ac} (h1:Ro w p cp k) (h2:Ro w q cq l) (h3:Ro w r cr m):ZaW w [(some p,cp),(some q,cq),(some r,cr)] [k,l,m] :=
 ⟨rfl,fun i oa c l' e1 e2=>by
  match i with
  | 0=>simp at e1 e2;obtain ⟨rfl,rfl⟩:=e1;subst e2;exact ⟨h1.s,h1.n,h1.m⟩
  | 1=>simp at e1 e2;obtain ⟨rfl,rfl⟩:=e1;subst e2;exact ⟨h2.s,h2.n,h2.m⟩
  | 2=>simp at e1 e2;obtain ⟨rfl,rfl⟩:=e1;subst e2;exact ⟨h3.s,h3.n,h3.m⟩
  | i+3=>simp at e1⟩
theorem ev2 {w:World} {p q:Addr} {cp cq:Nat} {k l:List Ac} (h1:Ro w p cp k) (h2:Ro w q cq l):ZaW w [(some p,cp),(some q,cq)] [k,l] :=
 ⟨rfl,fun i oa c l' e1 e2=>by
  match i with
  | 0=>simp at e1 e2;obtain ⟨rfl,rfl⟩:=e1;subst e2;exact ⟨h1.s,h1.n,h1.m⟩
  | 1=>simp at e1 e2;obtain ⟨rfl,rfl⟩:=e1;subst e2;exact ⟨h2.s,h2.n,h2.m⟩
  | i+2=>simp at e1⟩
theorem Zii {l:List Ac} {m k:Nat} {r:Nat×Nat} {sp:List (Nat×Nat)} (h:ZR l m k=some (r::sp)):r.1=k:=by
 cases m with
 | zero=>simp [ZR] at h
 | succ m =>
  unfold ZR at h
  cases he:ZV l k 1 with
  | none=>rw [he] at h;simp at h
  | some e =>
   rw [he] at h;simp only [Option.map_eq_some_iff] at h;obtain ⟨sp',_,h2⟩:=h;injection h2 with h3 h4;rw [←h3]
theorem Rin.ro {w:World} {v:Value} {l:List Ac} (h:Rin w v (some l)) (hp:0<l.length):∃a c,v=.slice (some a) l.length c∧Ro w a c l:=by
 obtain ⟨oa,c,rfl,h1,h2,h3⟩:=h;obtain ⟨a,rfl,_,_⟩:=h1 hp;exact ⟨a,c,rfl,h1,h2,h3⟩
theorem BlkOk.inn {b c:List Ac} {b0:Ac} (h:BlkOk b b0) (ht:ZaE b c=true):∃r sp q0 q1 sp',ZR b b0.n.toNat 1=some (r::sp)∧Zbg b=some (q0::q1::sp')∧sp'.length≤1∧(∀q ∈ q0::q1::sp',(sub b q).length≤(sub b r).length∧0<(sub b q).length)∧Zt b=sp.map (sub b)∧Zh (Zt b)+(sub b r).length+1≤b.length:=by
 have hbl:=(gs_ h.h).1;unfold ZaE at ht
 cases hi:Zbg b with
 | none=>rw [hi] at ht;cases ht
 | some sp0 =>
  have hi2:=hi;unfold Zbg at hi2;rw [h.h] at hi2
  cases h1:b[1]? with
  | none=>rw [h1] at hi2;cases hi2
  | some b1 =>
   rw [h1] at hi2;simp only at hi2
   by_cases hz:b0.n=0∨b1.k≠2
   · rw [if_pos hz] at hi2;cases hi2
   · rw [if_neg hz] at hi2;have hz1:b0.n≠0:=fun e=>hz (.inl e)
     have hz2:b1.k=2:=by rcases Classical.em (b1.k=2) with e | e;exact e;exact absurd (.inr e) hz
     obtain ⟨b1',r,sp,e1,e2,e3⟩:=h.k hz1;rw [h1] at e1;injection e1 with e1;subst e1;obtain ⟨q0,q1,sp',e4,e5,e6⟩:=e3 hz2;rw [e4] at hi2;injection hi2 with hi2;subst hi2
     have htl:Zt b=sp.map (sub b):=by
      unfold Zt;rw [h.h];simp only;rw [e2]
     have hb1l:=(gs_ h1).1;obtain ⟨_,k1⟩:=ZaJ b _ _ _ e2 (by omega);obtain ⟨_,k2⟩:=ZaJ b _ _ _ e4 (by omega);have hrw:=Zb4 b _ _ _ e2 (by omega);obtain ⟨m1,m2,m3⟩:=k1 r (List.mem_cons_self ..);refine ⟨r,sp,q0,q1,sp',e2,rfl,e5,fun q hq=>?_,htl,?_⟩
     · obtain ⟨n1,n2,n3⟩:=k2 q hq;have n4:=e6 q hq;have m4:r.1=1:=Zii e2;rw [ZaL n3,ZaL m3];omega
     · rw [htl];simp only [Zh,List.map_cons,List.sum_cons] at hrw ⊢;omega
theorem Zht {w:World} {a ac:Addr} {ca cc n m:Nat} {b c:List Ac} {b0:Ac} (hb:Ro w a ca b) (hc:Ro w ac cc c) (h:BlkOk b b0) (hl:b.length≤4194304) (hn:b.length=n) (hm:c.length=m) {t:Bool} (ht:ZaE b c=t) (W:World) (hW:Below w.heap.size w W) :
 Calls Try.prog 168 #[.slice (some a) n ca,.slice (some ac) m cc] W fun en w'=>∃v,en=.returned (.tuple #[v,.bool t])∧(t=true→∃sp,Zbg b=some sp∧KsM w' v (sp.map (sub b)))∧Below W.heap.size W w':=by
 subst hn hm ht
 exact Zm0 W (hb.below hW) (hc.below hW) h.s h.h (fun hz=>by
  obtain ⟨b1,r,sp,e1,e2,e3⟩:=h.k hz
  exact ⟨b1,e1,fun h2=>by
   obtain ⟨q0,q1,sp',e4,_⟩:=e3 h2
   exact ⟨q0,q1::sp',e4⟩⟩) hl
theorem ZcW {w:World} {a:Addr} {ca n:Nat} {b c:List Ac} {b0:Ac} (hb:Ro w a ca b) (h:BlkOk b b0) (ht:ZaE b c=true) (hl:b.length≤131072) (hn:b.length=n) (i:Nat) (hi:0<i) (W:World) (hW:Below w.heap.size w W) (v:Value) (hv:Rin W v (inK b i)) :
 Calls Try.prog 169 #[.slice (some a) n ca,v] W fun en w'=>∃u,en=.returned u∧(∃aw cw,u=.slice (some aw) (Zi (Zt b) (inK b i)).length cw∧Ro w' aw cw (Zi (Zt b) (inK b i)))∧Below W.heap.size W w':=by
 subst hn;obtain ⟨r,sp,q0,q1,sp',e1,e2,e3,e4,e5,e6⟩:=h.inn ht
 have hin:∀l,inK b i=some l→∃q ∈ q0::q1::sp',l=sub b q:=fun l hl9=>by
  unfold inK at hl9;rw [e2] at hl9;simp only [Option.map_eq_some_iff] at hl9;obtain ⟨q,h1,h2⟩:=hl9;exact ⟨q,List.mem_of_getElem? h1,h2.symm⟩
 have hw:=ZjF W (hb.below hW) h.s h.h e1 hv (fun l hl9=>by
  obtain ⟨q,hq,rfl⟩:=hin l hl9
  exact (e4 q hq).2) hl (fun l hl9=>by
  obtain ⟨q,hq,rfl⟩:=hin l hl9
  exact (e4 q hq).1)
 rw [←e5] at hw;exact hw.mono fun en w' ⟨u,h1,h2,h3⟩=>⟨u,h1,h2.ro (by simp [Zi]),h3⟩
theorem Zb8 {b c:List Ac} {b0:Ac} (h:BlkOk b b0) (ht:ZaE b c=true) (i:Nat):(Zi (Zt b) (inK b i)).length≤b.length:=by
 obtain ⟨r,sp,q0,q1,sp',e1,e2,e3,e4,e5,e6⟩:=h.inn ht;unfold Zi inK;rw [e2];simp only
 cases hq:(q0::q1::sp')[i]? with
 | none =>
  simp only [Option.map_none,Zgg,List.nil_append,List.length_cons,List.length_flatten];simp only [Zh] at e6;omega
 | some q =>
  have:=(e4 q (List.mem_of_getElem? hq)).1;simp only [Option.map_some,Zgg,List.cons_append,List.nil_append,List.length_cons,List.length_flatten,List.map_cons,List.sum_cons];simp only [Zh] at e6;omega
def K19 (xv cv av inv ptr in1v tv restv:Value) (c WL:List Ac) (rest:List (List Ac)) (out:List Ac):Nat→Value→World→Prop
 | 0,v,_=>v=xv
 | 1,v,_=>v=cv
 | 2,v,_=>v=av
 | 3,v,_=>v=inv
 | 4,v,_=>v=ptr
 | 5,v,_=>v=in1v
 | 6,v,w=>∃aw cw,v=.slice (some aw) WL.length cw∧Ro w aw cw WL
 | 7,v,w=>∃g rs,v=.slice (some ⟨g,0,none⟩) 2 2∧Blk w g 26 (slv rs [c,WL]).toArray∧ZaW w rs [c,WL]
 | 8,v,_=>v=tv
 | 9,v,_=>v=restv
 | 10,v,w=>KsM w v ([c,WL]++rest)
 | 11,v,w=>Rin w v (some out)
 | 12,v,_=>v=.int .i64 12
 | 13,v,w=>Rin w v (some out)
 | 14,v,_=>v=.bool true
 | _,_,_=>True
theorem ZP (xv cv av inv ptr in1v tv restv:Value) (c WL:List Ac) (rest:List (List Ac)) (out:List Ac):StK (K19 xv cv av inv ptr in1v tv restv c WL rest out):=fun i v w w' h hb=>by
 match i with
 | 0 | 1 | 2 | 3 | 4 | 5 | 8 | 9 | 12 | 14=>exact h
 | 6 =>
  obtain ⟨aw,cw,h1,h2⟩:=h;exact ⟨aw,cw,h1,h2.below hb⟩
 | 7 =>
  obtain ⟨g,rs,h1,h2,h3⟩:=h;exact ⟨g,rs,h1,h2.below hb h2.lt,h3.below hb⟩
 | 10=>exact KsM.below h hb
 | 11 | 13=>exact Rin.below (o:=some out) h hb
 | _+15=>trivial
theorem Zdw (w:World) (x:Ac) (v:Value) (ks:List (List Ac)) (h:KsM w v ks) (hl:ks.length≤200000) (ht:Zh ks≤200000) :
 Calls Try.prog 120 #[(.agg #[.int .i64 x.k,.int .i64 x.a,.int .i64 x.b,.int .i64 x.c,.int .i64 x.d,.int .i64 x.n]),v] w fun en w'=>∃u,en=.returned u∧Rin w' u (some (x.kid ks.length::ks.flatten))∧Below w.heap.size w w':=Zd9 w x v ks h hl ht
def K12 (xv cv c1v bv av:Value) (ks:List (List Ac)) (out:List Ac):Nat→Value→World→Prop
 | 0,v,_=>v=xv
 | 1,v,_=>v=cv
 | 2,v,_=>v=c1v
 | 3,v,_=>v=bv
 | 4,v,_=>v=av
 | 5,v,w=>KsM w v ks
 | 6,v,w=>Rin w v (some out)
 | 7,v,_=>v=.int .i64 9
 | 8,v,w=>Rin w v (some out)
 | 9,v,_=>v=.bool true
 | _,_,_=>True
theorem Za2 (xv cv c1v bv av:Value) (ks:List (List Ac)) (out:List Ac):StK (K12 xv cv c1v bv av ks out):=fun i v w w' h hb=>by
 match i with
 | 0 | 1 | 2 | 3 | 4 | 7 | 9=>exact h
 | 5=>exact KsM.below h hb
 | 6 | 8=>exact Rin.below (o:=some out) h hb
 | _+10=>trivial
theorem ZkH (w:World) (x:Ac) (v:Value) (c a:List Ac) (c0 a0 b0:Ac) (h:KsM w v [c,a]) (hc0:c[0]? = some c0) (ha:BlkOk a a0) (hc29:c0.k=29→2≤c.length) (hlen:c.length+a.length≤131072) :
 Calls Try.prog 121 #[x.val,v] w fun en w'=>ZbJ w' en (Z3 x c a none c0 a0 b0)∧Below w.heap.size w w':=by
 have p0:=(gs_ hc0).1;have p1:=(gs_ ha.h).1;obtain ⟨ad,ck,rfl,hab,hck,hx⟩:=h.at_ (by simp);obtain ⟨ac,cc,q0,rc⟩:=hx 0 c rfl p0;obtain ⟨aa,ca,q1,ra⟩:=hx 1 a rfl p1;rw [show ad.add 0=ad by simp [Addr.add]] at q0;rw [show ad.add 1=⟨ad.block,ad.off+1,none⟩ by simp [Addr.add]] at q1;obtain ⟨t0,ht0⟩:∃b,Zai c0 1=b:=⟨_,rfl⟩;obtain ⟨t1,ht1⟩:∃b,Zai c0 0=b:=⟨_,rfl⟩;obtain ⟨hm,hhm⟩:∃b,ZK c=b:=⟨_,rfl⟩
 have HV0:=Za (show Z3 x c a none c0 a0 b0=if t0 then some (8,some a) else if t1 then some (8,none) else if c0.k=29 then some (9,some (x.kid 3::[c.drop 1,[⟨1,0,0,0,0,0⟩],a].flatten)) else if a0.n=0∧hm=true then some (11,none) else if ZaE a c then some (12,some (x.kid 2::[c,Zi (Zt a) (inK a 1)].flatten)) else none by
  unfold Z3;rw [ht0,ht1,hhm]
  rfl)
 have HT0:=Za (fun W hW=>Zbc rc hc0 1 ht0 W hW);have HT1:=Za (fun W hW=>Zbc rc hc0 0 ht1 W hW);have HH:=Za (fun W hW=>Zb5 rc (by omega) hhm W hW);obtain ⟨⟨pc0,_,_,_,_,_⟩,hbc,_⟩:=rc.row hc0;obtain ⟨⟨_,_,_,_,_,pa5⟩,hba,_⟩:=ra.row ha.h;have RC:=Za rc;have RA:=Za ra;have HA:=Za ha;have H29:=Za hc29;have HLEN:=Za hlen;have HAB:=Za hab;simp only [Ac.val,List.length_cons,List.length_nil] at hck ⊢;have HB1:=Za ((Below.refl w.heap.size w).alloc lr_ (.cells #[.int .i64 x.k,.int .i64 x.a,.int .i64 x.b,.int .i64 x.c,.int .i64 x.d,.int .i64 x.n] 49));have HBX:=Za (Blk.new w 49 #[.int .i64 x.k,.int .i64 x.a,.int .i64 x.b,.int .i64 x.c,.int .i64 x.d,.int .i64 x.n]);have q0':=(HB1.out.cell (p:=ad) hab).trans q0;have q1':=(HB1.out.cell (p:=⟨ad.block,ad.off+1,none⟩) hab).trans q1;obtain ⟨LC,hLC⟩:∃n,c.length=n:=⟨_,rfl⟩;obtain ⟨LA,hLA⟩:∃n,a.length=n:=⟨_,rfl⟩;rw [hLC] at q0' HT0 HT1 HH p0;rw [hLA] at q1' p1;have HLC:=Za hLC;have HLA:=Za hLA;clear q0 q1 h hc0 ha hc29 hlen hx rc ra ht0 ht1 hhm hLC hLA hab;have hnE:=Zna;have hnN:=Zm9;go_enter Try.func121,Try.ntmps121;go_upto_region 1 with fail;generalize (w.alloc (.cells #[.int .i64 x.k,.int .i64 x.a,.int .i64 x.b,.int .i64 x.c,.int .i64 x.d,.int .i64 x.n] 49))=W1 at HB1 HBX q0' q1';go_quiet (fail);go_upto_region 2 with fail;have HB2:=Za (Zc HB1.out nq);have HX2:=Za (HBX.out.below (Zc (Below.refl _ W1) nq) HBX.out.lt);generalize W1.drewN nq=W2 at HB2 HX2;obtain ⟨y0,y1,y2,y3,y4,y5,hbx⟩:=Zk HX2.out;have pc0':=(HB2.out.cell (p:=ac) hbc).trans pc0;have pa5':=(HB2.out.cell (p:=⟨aa.block,aa.off+5,none⟩) hba).trans pa5;have hlc:(0:Int)<(LC:Int):=by omega
 have hla:(0:Int)<(LA:Int):=by omega
 clear q0' q1' HB1 HBX pc0 pa5
 cases t0 with
 | true =>
  have HV:=Za (show Z3 x c a none c0 a0 b0=some (8,some a) by rw [HV0.out];simp );clear HV0;go_wp2_with (go_at_call 122;with_reducible refine (HT0.out _ HB2.out).mono ?_;rintro en w9 ⟨rfl,rfl⟩);go_ret3;exact ⟨by rw [HV.out];exact ⟨_,rfl,(RA.out.below HB2.out).rinN HLA.out⟩,HB2.out⟩
 | false =>
  cases t1 with
  | true =>
   have HV:=Za (show Z3 x c a none c0 a0 b0=some (8,none) by rw [HV0.out];simp );clear HV0;go_wp2_with (go_at_call 122;with_reducible refine (HT0.out _ HB2.out).mono ?_;rintro en w9 ⟨rfl,rfl⟩);go_wp2_with (go_at_call 122;with_reducible refine (HT1.out _ HB2.out).mono ?_;rintro en w9 ⟨rfl,rfl⟩);go_ret3;exact ⟨by rw [HV.out];exact ⟨_,rfl,rfl⟩,HB2.out⟩
  | false =>
   by_cases h29:c0.k=29
   · have HV:=Za (show Z3 x c a none c0 a0 b0=some (9,some (x.kid 3::[c.drop 1,[⟨1,0,0,0,0,0⟩],a].flatten)) by rw [HV0.out];simp [h29]);clear HV0;have h2c:=H29.out h29;have hb29:(c0.k == 29)=true:=by simp [h29]
     rw [HLC.out] at h2c;have hcc:=RC.out.n;rw [HLC.out] at hcc;have hcc1:cc≠1:=by omega
     have hcI:(1:Int)≤(LC:Int):=by omega
     clear h29;go_wp2_with (go_at_call 122;with_reducible refine (HT0.out _ HB2.out).mono ?_;rintro en w9 ⟨rfl,rfl⟩);go_wp2_with (go_at_call 122;with_reducible refine (HT1.out _ HB2.out).mono ?_;rintro en w9 ⟨rfl,rfl⟩);go_upto_region 12 with fail;have HB3:=Za ((Below.refl w9.heap.size w9).alloc lr_ (.cells #[.int .i64 1,.int .i64 0,.int .i64 0,.int .i64 0,.int .i64 0,.int .i64 0] 49));have hnb:=Blk.new w9 49 #[.int .i64 1,.int .i64 0,.int .i64 0,.int .i64 0,.int .i64 0,.int .i64 0];have R3B:=Za (show Ro (w9.alloc (.cells #[.int .i64 1,.int .i64 0,.int .i64 0,.int .i64 0,.int .i64 0,.int .i64 0] 49)) ⟨w9.heap.size,0,none⟩ 1 [⟨1,0,0,0,0,0⟩] from ⟨ZaM 1 hnb,lr_,by decide⟩);clear hnb;generalize (w9.alloc (.cells #[.int .i64 1,.int .i64 0,.int .i64 0,.int .i64 0,.int .i64 0,.int .i64 0] 49))=W3 at HB3 R3B;have HB23:=Za (HB2.out.trans (HB3.out.mono HB2.out.size));have HX3:=Za (HX2.out.below HB3.out HX2.out.lt);clear y0 y1 y2 y3 y4 y5 hbx;obtain ⟨y0,y1,y2,y3,y4,y5,hbx⟩:=Zk HX3.out;have R3C:=Za (Zfp (RC.out.below HB23.out) (by rw [HLC.out];exact h2c));have R3A:=Za (RA.out.below HB23.out)
     have HKS:=Za (fun (w7:World) (hb:Below W3.heap.size W3 w7)=>show KsM (w7.alloc (.cells #[(.slice (some ⟨ac.block,ac.off+6,none⟩) (LC - 1) (cc - 1)),(.slice (some ⟨w9.heap.size,0,none⟩) 1 1),(.slice (some aa) LA ca)] 26)) (.slice (some ⟨w7.heap.size,0,none⟩) 3 3) [c.drop 1,[⟨1,0,0,0,0,0⟩],a] from by
      have hb8:=hb.alloc hb.size (.cells #[(.slice (some ⟨ac.block,ac.off+6,none⟩) (LC - 1) (cc - 1)),(.slice (some ⟨w9.heap.size,0,none⟩) 1 1),(.slice (some aa) LA ca)] 26);refine Zb2 (rest:=[]) (ev3 (R3C.out.below hb8) (R3B.out.below hb8) (R3A.out.below hb8)) ?_ lr_ rfl;have h9:=Blk.new w7 26 #[(.slice (some ⟨ac.block,ac.off+6,none⟩) (LC - 1) (cc - 1)),(.slice (some ⟨w9.heap.size,0,none⟩) 1 1),(.slice (some aa) LA ca)]
      simpa [slv,HLC.out,HLA.out] using h9)
     have HRV:=Za (show Zh [c.drop 1,[⟨1,0,0,0,0,0⟩],a]≤200000 by have:=HLEN.out;simp [Zh];omega);have HBW:=Za HB23.out;refine ZB (JG W3 (K12 (.agg #[.int .i64 x.k,.int .i64 x.a,.int .i64 x.b,.int .i64 x.c,.int .i64 x.d,.int .i64 x.n]) (.slice (some ac) LC cc) (.slice (some ⟨ac.block,ac.off+6,none⟩) (LC - 1) (cc - 1)) (.slice (some ⟨w9.heap.size,0,none⟩) 1 1) (.slice (some aa) LA ca) [c.drop 1,[⟨1,0,0,0,0,0⟩],a] (x.kid 3::([c.drop 1,[⟨1,0,0,0,0,0⟩],a]).flatten))) [[],[],[1],[],[],[1,2,3,4],[0,1,2,3,4,5],[0,1,2,3,4,5,6],[0,1,2,3,4,5,6,7],[0,1,2,3,4,5,6,7,8]] (by kernel_rfl) (by kernel_rfl) (fun vs=>JG.start vs (fun i v w hi=>by match i,hi with | _+10,_=>trivial)) (fun vs=>?_);refine Zb rfl (fun S w9 hS hA hD hJ R hR=>?_) (fun K hK=>?_)
     · have z0:=(hJ.b.cell (p:=⟨w.heap.size,0,none⟩) hbx).trans y0;have z1:=(hJ.b.cell (p:=⟨w.heap.size,1,none⟩) hbx).trans y1;have z2:=(hJ.b.cell (p:=⟨w.heap.size,2,none⟩) hbx).trans y2;have z3:=(hJ.b.cell (p:=⟨w.heap.size,3,none⟩) hbx).trans y3;have z4:=(hJ.b.cell (p:=⟨w.heap.size,4,none⟩) hbx).trans y4;have z5:=(hJ.b.cell (p:=⟨w.heap.size,5,none⟩) hbx).trans y5;go_simp;exact hR _ _ (hJ.step (Za2 _ _ _ _ _ _ _) br_ rfl)
     go_simp;refine hK _ ?_;clear hK K;refine Zb rfl (fun S w9 hS hA hD hJ R hR=>?_) (fun K hK=>?_)
     · go_simp;exact hR _ _ (hJ.step (Za2 _ _ _ _ _ _ _) br_ rfl)
     go_simp;refine hK _ ?_;clear hK K;refine Zb rfl (fun S w9 hS hA hD hJ R hR=>?_) (fun K hK=>?_)
     · have k1:vs 1=_:=hJ.k 1 (hA 1 (by decide));simp only [k1];go_simp;exact hR _ _ (hJ.step (Za2 _ _ _ _ _ _ _) br_ rfl)
     go_simp;refine hK _ ?_;clear hK K;refine Zb rfl (fun S w9 hS hA hD hJ R hR=>?_) (fun K hK=>?_)
     · go_simp;exact hR _ _ (hJ.step (Za2 _ _ _ _ _ _ _) br_ rfl)
     go_simp;refine hK _ ?_;clear hK K;refine Zb rfl (fun S w9 hS hA hD hJ R hR=>?_) (fun K hK=>?_)
     · go_simp;exact hR _ _ (hJ.step (Za2 _ _ _ _ _ _ _) br_ rfl)
     go_simp;refine hK _ ?_;clear hK K;refine Zb rfl (fun S w9 hS hA hD hJ R hR=>?_) (fun K hK=>?_)
     · have k2:vs 2=_:=hJ.k 2 (hA 2 (by decide));have k3:vs 3=_:=hJ.k 3 (hA 3 (by decide));have k4:vs 4=_:=hJ.k 4 (hA 4 (by decide));simp only [k2,k3,k4];go_simp;exact hR _ _ (hJ.step (Za2 _ _ _ _ _ _ _) ((Below.refl _ w9).alloc lr_ _) (HKS.out w9 hJ.b))
     go_simp;refine hK _ ?_;clear hK K;refine Zb rfl (fun S w9 hS hA hD hJ R hR=>?_) (fun K hK=>?_)
     · have k0:vs 0=_:=hJ.k 0 (hA 0 (by decide));have k5:KsM w9 (vs 5) _:=hJ.k 5 (hA 5 (by decide));refine pc_ Zel (kd_ (Zdw w9 x (vs 5) [c.drop 1,[⟨1,0,0,0,0,0⟩],a] k5 (by simp) HRV.out) fun u _ e2 e3=>hR _ _ (hJ.step (Za2 _ _ _ _ _ _ _) e3 e2)) rfl ?_;simp [Act.eval,Act.put,k0]
     go_simp;refine hK _ ?_;clear hK K;refine Zb rfl (fun S w9 hS hA hD hJ R hR=>?_) (fun K hK=>?_)
     · go_simp;exact hR _ _ (hJ.step (Za2 _ _ _ _ _ _ _) br_ rfl)
     go_simp;refine hK _ ?_;clear hK K;refine Zb rfl (fun S w9 hS hA hD hJ R hR=>?_) (fun K hK=>?_)
     · have k6:Rin w9 (vs 6) (some (x.kid 3::([c.drop 1,[⟨1,0,0,0,0,0⟩],a]).flatten)):=hJ.k 6 (hA 6 (by decide));go_simp;exact hR _ _ (hJ.step (Za2 _ _ _ _ _ _ _) br_ k6)
     go_simp;refine hK _ ?_;clear hK K;refine Zb rfl (fun S w9 hS hA hD hJ R hR=>?_) (fun K hK=>?_)
     · go_simp;exact hR _ _ (hJ.step (Za2 _ _ _ _ _ _ _) br_ rfl)
     go_simp;refine hK _ ?_;clear hK K;refine Z2 (fun w7 hJ=>?_);have k7:vs 7=_:=hJ.k 7 rfl;have k8:Rin w7 (vs 8) (some (x.kid 3::([c.drop 1,[⟨1,0,0,0,0,0⟩],a]).flatten)):=hJ.k 8 rfl;have k9:vs 9=_:=hJ.k 9 rfl;have HJB:=Za hJ.b;have HK8:=Za k8;clear hJ k8;simp only [k7,k9];clear k7 k9;go_wp2_with fail;go_ret3;exact ⟨by rw [HV.out];exact ⟨_,rfl,HK8.out⟩,HBW.out.trans (HJB.out.mono HBW.out.size)⟩
   · have hb29:(c0.k == 29)=false:=by simp [h29]
     obtain ⟨ts,hts⟩:∃t,ZaE a c=t:=⟨_,rfl⟩;have HTS:=Za hts;have HSM:=Za (fun (W:World) (hW:Below w.heap.size w W)=>Zht RA.out RC.out HA.out (by have:=HLEN.out;omega) HLA.out HLC.out hts W hW);clear hts
     by_cases hz:a0.n=0
     · have hzb:(a0.n == 0)=true:=by simp [hz]
       cases hm with
       | true =>
        have HV:=Za (show Z3 x c a none c0 a0 b0=some (11,none) by rw [HV0.out];simp [h29,hz]);clear HV0;clear h29 hz;go_wp2_with (go_at_call 122;with_reducible refine (HT0.out _ HB2.out).mono ?_;rintro en w9 ⟨rfl,rfl⟩);go_wp2_with (go_at_call 122;with_reducible refine (HT1.out _ HB2.out).mono ?_;rintro en w9 ⟨rfl,rfl⟩);go_wp2_with (go_at_call 118;with_reducible refine (HH.out _ HB2.out).mono ?_;rintro en w4 ⟨rfl,hb4⟩;have HB4:=Za (HB2.out.trans (hb4.mono HB2.out.size));have HX4:=Za (HX2.out.below hb4 HX2.out.lt);clear hb4);go_ret3;exact ⟨by rw [HV.out];exact ⟨_,rfl,rfl⟩,HB4.out⟩
       | false =>
        have HZM:=Za (show ¬(a0.n=0∧false=true) by simp);clear hz
        cases ts with
        | false =>
         have HV:=Za (show Z3 x c a none c0 a0 b0=none by rw [HV0.out];simp [h29,HTS.out,HZM.out]);clear HV0;clear h29;go_wp2_with (go_at_call 122;with_reducible refine (HT0.out _ HB2.out).mono ?_;rintro en w9 ⟨rfl,rfl⟩);go_wp2_with (go_at_call 122;with_reducible refine (HT1.out _ HB2.out).mono ?_;rintro en w9 ⟨rfl,rfl⟩);go_wp2_with (go_at_call 118;with_reducible refine (HH.out _ HB2.out).mono ?_;rintro en w4 ⟨rfl,hb4⟩;have HB4:=Za (HB2.out.trans (hb4.mono HB2.out.size));have HX4:=Za (HX2.out.below hb4 HX2.out.lt);clear hb4);go_wp2_with (go_at_call 168;with_reducible refine (HSM.out _ HB4.out).mono ?_;rintro en w5 ⟨v5,rfl,-,hb5⟩;have HB5:=Za hb5;clear hb5);go_ret3;exact ⟨by rw [HV.out];rfl,HB4.out.trans (HB5.out.mono HB4.out.size)⟩
        | true =>
         have HV:=Za (show Z3 x c a none c0 a0 b0=some (12,some (x.kid 2::[c,Zi (Zt a) (inK a 1)].flatten)) by rw [HV0.out];simp [h29,HTS.out,HZM.out]);clear HV0;clear h29;go_wp2_with (go_at_call 122;with_reducible refine (HT0.out _ HB2.out).mono ?_;rintro en w9 ⟨rfl,rfl⟩);go_wp2_with (go_at_call 122;with_reducible refine (HT1.out _ HB2.out).mono ?_;rintro en w9 ⟨rfl,rfl⟩);go_wp2_with (go_at_call 118;with_reducible refine (HH.out _ HB2.out).mono ?_;rintro en w4 ⟨rfl,hb4⟩;have HB4:=Za (HB2.out.trans (hb4.mono HB2.out.size));have HX4:=Za (HX2.out.below hb4 HX2.out.lt);clear hb4)
         go_upto_region 19 with (
          go_at_call 168;with_reducible refine (HSM.out _ HB4.out).mono ?_
          rintro en W5 ⟨v5,rfl,hk5,hb5⟩;have HB5:=Za hb5;obtain ⟨sp5,hi5,hkm⟩:=hk5 (by simp);obtain ⟨r,sp,q0,q1,sp2,e1,e2,e3,e4,e5,e6⟩:=HA.out.inn HTS.out;rw [e2] at hi5;injection hi5 with hi5;subst hi5;obtain ⟨adk,ckk,rfl,habk,hckk,hxk⟩:=hkm.at_ (by simp);obtain ⟨a1,c1,qk1,rk1⟩:=hxk 1 (sub a q1) rfl (e4 q1 (by simp)).2;rw [show adk.add 1=⟨adk.block,adk.off+1,none⟩ by simp [Addr.add]] at qk1;have RK1:=Za rk1;have HQ1:=Za (show inK a 1=some (sub a q1) by unfold inK;rw [e2];rfl);obtain ⟨NK,hNK⟩:∃n,(List.map (sub a) (q0::q1::sp2)).length=n:=⟨_,rfl⟩;have hNK2:(1:Int)<(NK:Int):=by rw [←hNK];simp <;> omega
          rw [hNK];obtain ⟨L1,hL1⟩:∃n,(sub a q1).length=n:=⟨_,rfl⟩;have HL1:=Za hL1;rw [hL1] at qk1
          clear hb5 hk5 hkm hxk rk1 e1 e2 e3 e4 e5 e6 hNK hL1)
         have HBW5:=Za (HB4.out.trans (HB5.out.mono HB4.out.size));have HX5:=Za (HX4.out.below HB5.out HX4.out.lt);clear y0 y1 y2 y3 y4 y5 hbx;obtain ⟨y0,y1,y2,y3,y4,y5,hbx⟩:=Zk HX5.out;have HRC:=Za (fun (w7:World) (hb:Below W5.heap.size W5 w7)=>RC.out.below (HBW5.out.trans (hb.mono HBW5.out.size)));have HWO:=Za (fun (w7:World) (hb:Below W5.heap.size W5 w7)=>ZcW RA.out HA.out HTS.out (by have:=HLEN.out;omega) HLA.out 1 (by decide) w7 (HBW5.out.trans (hb.mono HBW5.out.size)) (.slice (some a1) L1 c1) (by rw [HQ1.out];exact (RK1.out.below hb).rinN HL1.out));have HRV5:=Za (show Zh ([c,Zi (Zt a) (inK a 1)]++[])≤200000 by have h1:=HLEN.out;have h2:=Zb8 HA.out HTS.out 1;simp [Zh];omega);have HREST:=Za (fun (w7:World) (hb:Below W5.heap.size W5 w7)=>show KsM w7 (.slice (if ck=2 then some ad else some ⟨ad.block,ad.off+2,none⟩) 0 (ck - 2)) [] from ⟨_,_,[],rfl,fun h=>absurd h (by simp),⟨rfl,fun i oa c l h1 h2=>by simp at h1⟩,Nat.zero_le _⟩);refine ZB (JG W5 (K19 (.agg #[.int .i64 x.k,.int .i64 x.a,.int .i64 x.b,.int .i64 x.c,.int .i64 x.d,.int .i64 x.n]) (.slice (some ac) LC cc) (.slice (some aa) LA ca) (.slice (some adk) NK ckk) (.pointer (some ⟨adk.block,adk.off+1,none⟩)) (.slice (some a1) L1 c1) (.slice (some ad) 2 ck) (.slice (if ck=2 then some ad else some ⟨ad.block,ad.off+2,none⟩) 0 (ck - 2)) c (Zi (Zt a) (inK a 1)) ([]:List (List Ac)) (x.kid ([c,(Zi (Zt a) (inK a 1))]++([]:List (List Ac))).length::([c,(Zi (Zt a) (inK a 1))]++([]:List (List Ac))).flatten))) [[],[],[],[],[3],[3,4],[2,3,4,5],[1,2,3,4,5,6],[],[8],[1,2,3,4,5,6,7,8,9],[0,1,2,3,4,5,6,7,8,9,10],[0,1,2,3,4,5,6,7,8,9,10,11],[0,1,2,3,4,5,6,7,8,9,10,11,12],[0,1,2,3,4,5,6,7,8,9,10,11,12,13]] (by kernel_rfl) (by kernel_rfl) (fun vs=>JG.start vs (fun i v w hi=>by match i,hi with | _+15,_=>trivial)) (fun vs=>?_);refine Zb rfl (fun S w9 hS hA hD hJ R hR=>?_) (fun K hK=>?_)
         · have z0:=(hJ.b.cell (p:=⟨w.heap.size,0,none⟩) hbx).trans y0;have z1:=(hJ.b.cell (p:=⟨w.heap.size,1,none⟩) hbx).trans y1;have z2:=(hJ.b.cell (p:=⟨w.heap.size,2,none⟩) hbx).trans y2;have z3:=(hJ.b.cell (p:=⟨w.heap.size,3,none⟩) hbx).trans y3;have z4:=(hJ.b.cell (p:=⟨w.heap.size,4,none⟩) hbx).trans y4;have z5:=(hJ.b.cell (p:=⟨w.heap.size,5,none⟩) hbx).trans y5;go_simp;exact hR _ _ (hJ.step (ZP _ _ _ _ _ _ _ _ _ _ _ _) br_ rfl)
         go_simp;refine hK _ ?_;clear hK K;refine Zb rfl (fun S w9 hS hA hD hJ R hR=>?_) (fun K hK=>?_)
         · go_simp;exact hR _ _ (hJ.step (ZP _ _ _ _ _ _ _ _ _ _ _ _) br_ rfl)
         go_simp;refine hK _ ?_;clear hK K;refine Zb rfl (fun S w9 hS hA hD hJ R hR=>?_) (fun K hK=>?_)
         · go_simp;exact hR _ _ (hJ.step (ZP _ _ _ _ _ _ _ _ _ _ _ _) br_ rfl)
         go_simp;refine hK _ ?_;clear hK K;refine Zb rfl (fun S w9 hS hA hD hJ R hR=>?_) (fun K hK=>?_)
         · go_simp;exact hR _ _ (hJ.step (ZP _ _ _ _ _ _ _ _ _ _ _ _) br_ rfl)
         go_simp;refine hK _ ?_;clear hK K;refine Zb rfl (fun S w9 hS hA hD hJ R hR=>?_) (fun K hK=>?_)
         · have k3:vs 3=_:=hJ.k 3 (hA 3 (by decide));simp only [k3];go_simp;exact hR _ _ (hJ.step (ZP _ _ _ _ _ _ _ _ _ _ _ _) br_ rfl)
         go_simp;refine hK _ ?_;clear hK K;refine Zb rfl (fun S w9 hS hA hD hJ R hR=>?_) (fun K hK=>?_)
         · have k4:vs 4=_:=hJ.k 4 (hA 4 (by decide));have hc:=(hJ.b.cell (p:=⟨adk.block,adk.off+1,none⟩) habk).trans qk1;simp only [k4];go_simp;exact hR _ _ (hJ.step (ZP _ _ _ _ _ _ _ _ _ _ _ _) br_ rfl)
         go_simp;refine hK _ ?_;clear hK K;refine Zb rfl (fun S w9 hS hA hD hJ R hR=>?_) (fun K hK=>?_)
         · have k2:vs 2=_:=hJ.k 2 (hA 2 (by decide));have k5:vs 5=_:=hJ.k 5 (hA 5 (by decide));refine pc_ Zf2 (kd_ (HWO.out w9 hJ.b) fun u _ e2 e3=>hR _ _ (hJ.step (ZP _ _ _ _ _ _ _ _ _ _ _ _) e3 e2)) rfl ?_;simp [Act.eval,Act.put,k2,k5]
         go_simp;refine hK _ ?_;clear hK K;refine Zb rfl (fun S w9 hS hA hD hJ R hR=>?_) (fun K hK=>?_)
         · have k1:vs 1=_:=hJ.k 1 (hA 1 (by decide));obtain ⟨aw,cw,k6,hrw⟩:=hJ.k 6 (hA 6 (by decide));have HRW9:=Za hrw;clear hrw;have hfin:=hR _ _ (hJ.step (j:=7) (ZP _ _ _ _ _ _ _ _ _ _ _ _) ((Below.refl _ w9).alloc lr_ (.cells #[(.slice (some ac) LC cc),.slice (some aw) (Zi (Zt a) (inK a 1)).length cw] 26)) (⟨w9.heap.size,[(some ac,cc),(some aw,cw)],rfl,by simpa [slv,HLC.out] using Blk.new w9 26 #[(.slice (some ac) LC cc),.slice (some aw) (Zi (Zt a) (inK a 1)).length cw],ev2 (HRC.out _ (hJ.b.alloc hJ.b.size _)) (HRW9.out.below ((Below.refl _ w9).alloc lr_ _))⟩));simp only [k1,k6];go_simp;exact hfin
         go_simp;refine hK _ ?_;clear hK K;refine Zb rfl (fun S w9 hS hA hD hJ R hR=>?_) (fun K hK=>?_)
         · go_simp;exact hR _ _ (hJ.step (ZP _ _ _ _ _ _ _ _ _ _ _ _) br_ rfl)
         go_simp;refine hK _ ?_;clear hK K;refine Zb rfl (fun S w9 hS hA hD hJ R hR=>?_) (fun K hK=>?_)
         · have k8:vs 8=_:=hJ.k 8 (hA 8 (by decide));simp only [k8];go_simp;exact hR _ _ (hJ.step (ZP _ _ _ _ _ _ _ _ _ _ _ _) br_ rfl)
         go_simp;refine hK _ ?_;clear hK K;refine Zb rfl (fun S w9 hS hA hD hJ R hR=>?_) (fun K hK=>?_)
         · obtain ⟨g,rs,k7,hg,he⟩:=hJ.k 7 (hA 7 (by decide));have k9:vs 9=_:=hJ.k 9 (hA 9 (by decide));obtain ⟨u,w8,hrun,hb8,hk8⟩:=Zfy 25 hg he (HREST.out w9 hJ.b) (by simp) (by simp);have hfin:=hR _ _ (hJ.step (j:=10) (ZP _ _ _ _ _ _ _ _ _ _ _ _) hb8 hk8);exact Zaq (.tmp 95) (.tmp 97) 25 (by rfl) _ _ (by simp [Act.eval,Act.put,k7]) (by simp [Act.eval,Act.put,k9]) hrun hfin
         go_simp;refine hK _ ?_;clear hK K;refine Zb rfl (fun S w9 hS hA hD hJ R hR=>?_) (fun K hK=>?_)
         · have k0:vs 0=_:=hJ.k 0 (hA 0 (by decide));have k10:KsM w9 (vs 10) ([c,(Zi (Zt a) (inK a 1))]++([]:List (List Ac))):=hJ.k 10 (hA 10 (by decide));refine pc_ Zel (kd_ (Zdw w9 x (vs 10) ([c,(Zi (Zt a) (inK a 1))]++([]:List (List Ac))) k10 (by simp) HRV5.out) fun u _ e2 e3=>hR _ _ (hJ.step (ZP _ _ _ _ _ _ _ _ _ _ _ _) e3 e2)) rfl ?_;simp [Act.eval,Act.put,k0]
         go_simp;refine hK _ ?_;clear hK K;refine Zb rfl (fun S w9 hS hA hD hJ R hR=>?_) (fun K hK=>?_)
         · go_simp;exact hR _ _ (hJ.step (ZP _ _ _ _ _ _ _ _ _ _ _ _) br_ rfl)
         go_simp;refine hK _ ?_;clear hK K;refine Zb rfl (fun S w9 hS hA hD hJ R hR=>?_) (fun K hK=>?_)
         · have k11:Rin w9 (vs 11) (some (x.kid ([c,(Zi (Zt a) (inK a 1))]++([]:List (List Ac))).length::([c,(Zi (Zt a) (inK a 1))]++([]:List (List Ac))).flatten)):=hJ.k 11 (hA 11 (by decide));go_simp;exact hR _ _ (hJ.step (ZP _ _ _ _ _ _ _ _ _ _ _ _) br_ k11)
         go_simp;refine hK _ ?_;clear hK K;refine Zb rfl (fun S w9 hS hA hD hJ R hR=>?_) (fun K hK=>?_)
         · go_simp;exact hR _ _ (hJ.step (ZP _ _ _ _ _ _ _ _ _ _ _ _) br_ rfl)
         go_simp;refine hK _ ?_;clear hK K;refine Z2 (fun w7 hJ=>?_);have k12:vs 12=_:=hJ.k 12 rfl;have k13:Rin w7 (vs 13) (some (x.kid ([c,(Zi (Zt a) (inK a 1))]++([]:List (List Ac))).length::([c,(Zi (Zt a) (inK a 1))]++([]:List (List Ac))).flatten)):=hJ.k 13 rfl;have k14:vs 14=_:=hJ.k 14 rfl;have HJB:=Za hJ.b;have HK13:=Za k13;clear hJ k13;simp only [k12,k14];clear k12 k14;go_wp2_with fail;go_ret3;exact ⟨by rw [HV.out];exact ⟨_,rfl,by simpa using HK13.out⟩,HBW5.out.trans (HJB.out.mono HBW5.out.size)⟩
     · have hzb:(a0.n == 0)=false:=by simp [hz]
       have HZM:=Za (show ¬(a0.n=0∧hm=true) from fun h=>hz h.1);clear hz
       cases ts with
       | false =>
        have HV:=Za (show Z3 x c a none c0 a0 b0=none by rw [HV0.out];simp [h29,HTS.out,HZM.out]);clear HV0;clear h29;go_wp2_with (go_at_call 122;with_reducible refine (HT0.out _ HB2.out).mono ?_;rintro en w9 ⟨rfl,rfl⟩);go_wp2_with (go_at_call 122;with_reducible refine (HT1.out _ HB2.out).mono ?_;rintro en w9 ⟨rfl,rfl⟩);go_wp2_with (go_at_call 168;with_reducible refine (HSM.out _ HB2.out).mono ?_;rintro en w5 ⟨v5,rfl,-,hb5⟩;have HB5:=Za hb5;clear hb5);go_ret3;exact ⟨by rw [HV.out];rfl,HB2.out.trans (HB5.out.mono HB2.out.size)⟩
       | true =>
        have HV:=Za (show Z3 x c a none c0 a0 b0=some (12,some (x.kid 2::[c,Zi (Zt a) (inK a 1)].flatten)) by rw [HV0.out];simp [h29,HTS.out,HZM.out]);clear HV0;clear h29;go_wp2_with (go_at_call 122;with_reducible refine (HT0.out _ HB2.out).mono ?_;rintro en w9 ⟨rfl,rfl⟩);go_wp2_with (go_at_call 122;with_reducible refine (HT1.out _ HB2.out).mono ?_;rintro en w9 ⟨rfl,rfl⟩)
        go_upto_region 19 with (
         go_at_call 168;with_reducible refine (HSM.out _ HB2.out).mono ?_
         rintro en W5 ⟨v5,rfl,hk5,hb5⟩;have HB5:=Za hb5;obtain ⟨sp5,hi5,hkm⟩:=hk5 (by simp);obtain ⟨r,sp,q0,q1,sp2,e1,e2,e3,e4,e5,e6⟩:=HA.out.inn HTS.out;rw [e2] at hi5;injection hi5 with hi5;subst hi5;obtain ⟨adk,ckk,rfl,habk,hckk,hxk⟩:=hkm.at_ (by simp);obtain ⟨a1,c1,qk1,rk1⟩:=hxk 1 (sub a q1) rfl (e4 q1 (by simp)).2;rw [show adk.add 1=⟨adk.block,adk.off+1,none⟩ by simp [Addr.add]] at qk1;have RK1:=Za rk1;have HQ1:=Za (show inK a 1=some (sub a q1) by unfold inK;rw [e2];rfl);obtain ⟨NK,hNK⟩:∃n,(List.map (sub a) (q0::q1::sp2)).length=n:=⟨_,rfl⟩;have hNK2:(1:Int)<(NK:Int):=by rw [←hNK];simp <;> omega
         rw [hNK];obtain ⟨L1,hL1⟩:∃n,(sub a q1).length=n:=⟨_,rfl⟩;have HL1:=Za hL1;rw [hL1] at qk1
         clear hb5 hk5 hkm hxk rk1 e1 e2 e3 e4 e5 e6 hNK hL1)
        have HBW5:=Za (HB2.out.trans (HB5.out.mono HB2.out.size));have HX5:=Za (HX2.out.below HB5.out HX2.out.lt);clear y0 y1 y2 y3 y4 y5 hbx;obtain ⟨y0,y1,y2,y3,y4,y5,hbx⟩:=Zk HX5.out;have HRC:=Za (fun (w7:World) (hb:Below W5.heap.size W5 w7)=>RC.out.below (HBW5.out.trans (hb.mono HBW5.out.size)));have HWO:=Za (fun (w7:World) (hb:Below W5.heap.size W5 w7)=>ZcW RA.out HA.out HTS.out (by have:=HLEN.out;omega) HLA.out 1 (by decide) w7 (HBW5.out.trans (hb.mono HBW5.out.size)) (.slice (some a1) L1 c1) (by rw [HQ1.out];exact (RK1.out.below hb).rinN HL1.out));have HRV5:=Za (show Zh ([c,Zi (Zt a) (inK a 1)]++[])≤200000 by have h1:=HLEN.out;have h2:=Zb8 HA.out HTS.out 1;simp [Zh];omega);have HREST:=Za (fun (w7:World) (hb:Below W5.heap.size W5 w7)=>show KsM w7 (.slice (if ck=2 then some ad else some ⟨ad.block,ad.off+2,none⟩) 0 (ck - 2)) [] from ⟨_,_,[],rfl,fun h=>absurd h (by simp),⟨rfl,fun i oa c l h1 h2=>by simp at h1⟩,Nat.zero_le _⟩);refine ZB (JG W5 (K19 (.agg #[.int .i64 x.k,.int .i64 x.a,.int .i64 x.b,.int .i64 x.c,.int .i64 x.d,.int .i64 x.n]) (.slice (some ac) LC cc) (.slice (some aa) LA ca) (.slice (some adk) NK ckk) (.pointer (some ⟨adk.block,adk.off+1,none⟩)) (.slice (some a1) L1 c1) (.slice (some ad) 2 ck) (.slice (if ck=2 then some ad else some ⟨ad.block,ad.off+2,none⟩) 0 (ck - 2)) c (Zi (Zt a) (inK a 1)) ([]:List (List Ac)) (x.kid ([c,(Zi (Zt a) (inK a 1))]++([]:List (List Ac))).length::([c,(Zi (Zt a) (inK a 1))]++([]:List (List Ac))).flatten))) [[],[],[],[],[3],[3,4],[2,3,4,5],[1,2,3,4,5,6],[],[8],[1,2,3,4,5,6,7,8,9],[0,1,2,3,4,5,6,7,8,9,10],[0,1,2,3,4,5,6,7,8,9,10,11],[0,1,2,3,4,5,6,7,8,9,10,11,12],[0,1,2,3,4,5,6,7,8,9,10,11,12,13]] (by kernel_rfl) (by kernel_rfl) (fun vs=>JG.start vs (fun i v w hi=>by match i,hi with | _+15,_=>trivial)) (fun vs=>?_);refine Zb rfl (fun S w9 hS hA hD hJ R hR=>?_) (fun K hK=>?_)
        · have z0:=(hJ.b.cell (p:=⟨w.heap.size,0,none⟩) hbx).trans y0;have z1:=(hJ.b.cell (p:=⟨w.heap.size,1,none⟩) hbx).trans y1;have z2:=(hJ.b.cell (p:=⟨w.heap.size,2,none⟩) hbx).trans y2;have z3:=(hJ.b.cell (p:=⟨w.heap.size,3,none⟩) hbx).trans y3;have z4:=(hJ.b.cell (p:=⟨w.heap.size,4,none⟩) hbx).trans y4;have z5:=(hJ.b.cell (p:=⟨w.heap.size,5,none⟩) hbx).trans y5;go_simp;exact hR _ _ (hJ.step (ZP _ _ _ _ _ _ _ _ _ _ _ _) br_ rfl)
        go_simp;refine hK _ ?_;clear hK K;refine Zb rfl (fun S w9 hS hA hD hJ R hR=>?_) (fun K hK=>?_)
        · go_simp;exact hR _ _ (hJ.step (ZP _ _ _ _ _ _ _ _ _ _ _ _) br_ rfl)
        go_simp;refine hK _ ?_;clear hK K;refine Zb rfl (fun S w9 hS hA hD hJ R hR=>?_) (fun K hK=>?_)
        · go_simp;exact hR _ _ (hJ.step (ZP _ _ _ _ _ _ _ _ _ _ _ _) br_ rfl)
        go_simp;refine hK _ ?_;clear hK K;refine Zb rfl (fun S w9 hS hA hD hJ R hR=>?_) (fun K hK=>?_)
        · go_simp;exact hR _ _ (hJ.step (ZP _ _ _ _ _ _ _ _ _ _ _ _) br_ rfl)
        go_simp;refine hK _ ?_;clear hK K;refine Zb rfl (fun S w9 hS hA hD hJ R hR=>?_) (fun K hK=>?_)
        · have k3:vs 3=_:=hJ.k 3 (hA 3 (by decide));simp only [k3];go_simp;exact hR _ _ (hJ.step (ZP _ _ _ _ _ _ _ _ _ _ _ _) br_ rfl)
        go_simp;refine hK _ ?_;clear hK K;refine Zb rfl (fun S w9 hS hA hD hJ R hR=>?_) (fun K hK=>?_)
        · have k4:vs 4=_:=hJ.k 4 (hA 4 (by decide));have hc:=(hJ.b.cell (p:=⟨adk.block,adk.off+1,none⟩) habk).trans qk1;simp only [k4];go_simp;exact hR _ _ (hJ.step (ZP _ _ _ _ _ _ _ _ _ _ _ _) br_ rfl)
        go_simp;refine hK _ ?_;clear hK K;refine Zb rfl (fun S w9 hS hA hD hJ R hR=>?_) (fun K hK=>?_)
        · have k2:vs 2=_:=hJ.k 2 (hA 2 (by decide));have k5:vs 5=_:=hJ.k 5 (hA 5 (by decide));refine pc_ Zf2 (kd_ (HWO.out w9 hJ.b) fun u _ e2 e3=>hR _ _ (hJ.step (ZP _ _ _ _ _ _ _ _ _ _ _ _) e3 e2)) rfl ?_;simp [Act.eval,Act.put,k2,k5]
        go_simp;refine hK _ ?_;clear hK K;refine Zb rfl (fun S w9 hS hA hD hJ R hR=>?_) (fun K hK=>?_)
        · have k1:vs 1=_:=hJ.k 1 (hA 1 (by decide));obtain ⟨aw,cw,k6,hrw⟩:=hJ.k 6 (hA 6 (by decide));have HRW9:=Za hrw;clear hrw;have hfin:=hR _ _ (hJ.step (j:=7) (ZP _ _ _ _ _ _ _ _ _ _ _ _) ((Below.refl _ w9).alloc lr_ (.cells #[(.slice (some ac) LC cc),.slice (some aw) (Zi (Zt a) (inK a 1)).length cw] 26)) (⟨w9.heap.size,[(some ac,cc),(some aw,cw)],rfl,by simpa [slv,HLC.out] using Blk.new w9 26 #[(.slice (some ac) LC cc),.slice (some aw) (Zi (Zt a) (inK a 1)).length cw],ev2 (HRC.out _ (hJ.b.alloc hJ.b.size _)) (HRW9.out.below ((Below.refl _ w9).alloc lr_ _))⟩));simp only [k1,k6];go_simp;exact hfin
        go_simp;refine hK _ ?_;clear hK K;refine Zb rfl (fun S w9 hS hA hD hJ R hR=>?_) (fun K hK=>?_)
        · go_simp;exact hR _ _ (hJ.step (ZP _ _ _ _ _ _ _ _ _ _ _ _) br_ rfl)
        go_simp;refine hK _ ?_;clear hK K;refine Zb rfl (fun S w9 hS hA hD hJ R hR=>?_) (fun K hK=>?_)
        · have k8:vs 8=_:=hJ.k 8 (hA 8 (by decide));simp only [k8];go_simp;exact hR _ _ (hJ.step (ZP _ _ _ _ _ _ _ _ _ _ _ _) br_ rfl)
        go_simp;refine hK _ ?_;clear hK K;refine Zb rfl (fun S w9 hS hA hD hJ R hR=>?_) (fun K hK=>?_)
        · obtain ⟨g,rs,k7,hg,he⟩:=hJ.k 7 (hA 7 (by decide));have k9:vs 9=_:=hJ.k 9 (hA 9 (by decide));obtain ⟨u,w8,hrun,hb8,hk8⟩:=Zfy 25 hg he (HREST.out w9 hJ.b) (by simp) (by simp);have hfin:=hR _ _ (hJ.step (j:=10) (ZP _ _ _ _ _ _ _ _ _ _ _ _) hb8 hk8);exact Zaq (.tmp 95) (.tmp 97) 25 (by rfl) _ _ (by simp [Act.eval,Act.put,k7]) (by simp [Act.eval,Act.put,k9]) hrun hfin
        go_simp;refine hK _ ?_;clear hK K;refine Zb rfl (fun S w9 hS hA hD hJ R hR=>?_) (fun K hK=>?_)
        · have k0:vs 0=_:=hJ.k 0 (hA 0 (by decide));have k10:KsM w9 (vs 10) ([c,(Zi (Zt a) (inK a 1))]++([]:List (List Ac))):=hJ.k 10 (hA 10 (by decide));refine pc_ Zel (kd_ (Zdw w9 x (vs 10) ([c,(Zi (Zt a) (inK a 1))]++([]:List (List Ac))) k10 (by simp) HRV5.out) fun u _ e2 e3=>hR _ _ (hJ.step (ZP _ _ _ _ _ _ _ _ _ _ _ _) e3 e2)) rfl ?_;simp [Act.eval,Act.put,k0]
        go_simp;refine hK _ ?_;clear hK K;refine Zb rfl (fun S w9 hS hA hD hJ R hR=>?_) (fun K hK=>?_)
        · go_simp;exact hR _ _ (hJ.step (ZP _ _ _ _ _ _ _ _ _ _ _ _) br_ rfl)
        go_simp;refine hK _ ?_;clear hK K;refine Zb rfl (fun S w9 hS hA hD hJ R hR=>?_) (fun K hK=>?_)
        · have k11:Rin w9 (vs 11) (some (x.kid ([c,(Zi (Zt a) (inK a 1))]++([]:List (List Ac))).length::([c,(Zi (Zt a) (inK a 1))]++([]:List (List Ac))).flatten)):=hJ.k 11 (hA 11 (by decide));go_simp;exact hR _ _ (hJ.step (ZP _ _ _ _ _ _ _ _ _ _ _ _) br_ k11)
        go_simp;refine hK _ ?_;clear hK K;refine Zb rfl (fun S w9 hS hA hD hJ R hR=>?_) (fun K hK=>?_)
        · go_simp;exact hR _ _ (hJ.step (ZP _ _ _ _ _ _ _ _ _ _ _ _) br_ rfl)
        go_simp;refine hK _ ?_;clear hK K;refine Z2 (fun w7 hJ=>?_);have k12:vs 12=_:=hJ.k 12 rfl;have k13:Rin w7 (vs 13) (some (x.kid ([c,(Zi (Zt a) (inK a 1))]++([]:List (List Ac))).length::([c,(Zi (Zt a) (inK a 1))]++([]:List (List Ac))).flatten)):=hJ.k 13 rfl;have k14:vs 14=_:=hJ.k 14 rfl;have HJB:=Za hJ.b;have HK13:=Za k13;clear hJ k13;simp only [k12,k14];clear k12 k14;go_wp2_with fail;go_ret3;exact ⟨by rw [HV.out];exact ⟨_,rfl,by simpa using HK13.out⟩,HBW5.out.trans (HJB.out.mono HBW5.out.size)⟩
end
end Go.Proofs.Ytdpokdcendgfeaa
