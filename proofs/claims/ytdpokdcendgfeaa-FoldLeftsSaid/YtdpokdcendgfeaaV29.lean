/- Several texts in one: The reference's optimiser: of, Left. Plain law: what fold.Left tells of a right plan is what the reference's Left tells. A plan that is lent is a plan in memory. Conditions: those of each. -/
import Derived.Test.YtdpokdcendgfeaaV27
import Derived.Test.YtdpokdcendgfeaaV28
import Derived.Test.YtdpokdcendgfeaaV24
set_option linter.unusedSimpArgs false
set_option linter.unusedVariables false
set_option maxHeartbeats 80000000
set_option maxRecDepth 100000
namespace Go.Proofs.Ytdpokdcendgfeaa
open Go.RowKit
def Zde (P:Pl):Option (Nat×Nat×Int×List Ac):=(List.range (P.on.length+1)).findSome? fun k=>(ZcT (evP P k)).map fun r=>(k,r)
def Zls (w w':World) (en:Ending) (P:Pl):Option (Nat×Nat×Int×List Ac)→Prop
 | none=>en=.returned (.tuple #[.int .i64 0,.int .i64 0,.int .i64 0,.slice none 0 0])∧Below w.heap.size w w'
 | some (k,i,n,l')=>∃u,en=.returned (.tuple #[.int .i64 (evN P k),.int .i64 (i:Int),.int .i64 n,u])∧w'.ownsRow w.heap.size 49 6 u l'.length (acs l')∧Below w.heap.size w w'
def Zhz (w:World) (oa:Option Addr) (c:Nat) (l:List Ac) (en:Ending) (w':World):Prop:=Below w.heap.size w w'∧∃sa sn sc,en=.returned (.agg #[.slice oa l.length c,.slice sa sn sc])∧(0<l.length→∃ge,sa=some ⟨ge,0,none⟩∧sn=l.length∧sc=l.length∧Blk w' ge 3 (Zn (ZcU l)).toArray)
theorem Znb (l:List Ac) (h:∀j,j<l.length→ZV l j 1≠none):ZaP l 0=ZcU l:=by
 unfold ZaP ZcU;apply List.map_congr_left;intro j hj;have hj2:=List.mem_range.1 hj;rw [if_pos (Nat.zero_le _)];unfold endE endL
 cases he:ZV l j 1 with
 | none=>exact absurd he (h j hj2)
 | some e=>rfl
theorem ZjY {P:Pl} {l:List Ac} (hev:ZO P l=true) (h0:0<l.length):ZaQ l∧∀j,j<l.length→ZV l j 1≠none:=by
 rcases (ZdQ (P:=P) (l:=l)).2 hev with h | ⟨_,h1,h2⟩
 · rw [h] at h0;simp at h0
 · refine ⟨⟨h1,fun j hj=>(h2 j hj).1⟩,fun j hj hn=>?_⟩;obtain ⟨e,he,_⟩:=(ZeD hev).e j hj;rw [hn] at he
   cases he
theorem Zmo (w:World) (oa:Option Addr) (c:Nat):Calls Try.prog 80 #[.slice oa 0 c] w fun en w'=>Below w.heap.size w w'∧∃sa sn sc,en=.returned (.slice sa sn sc):=by
 have HB0:=Za (fun (o:Obj)=>(Below.refl w.heap.size w).alloc lr_ o);have hmk:=Zdu w 0 (by decide);rw [show ((0:Nat):Int)=0 from rfl] at hmk;go_enter Try.func80,Try.ntmps80;go_wp2_with fail;go_loopw [4] (fun t4 W=>t4=.int .i64 (-1)∧Below w.heap.size w W) (fun _ _=>0)
 case atStart=>exact ⟨rfl,HB0.out _⟩
 case round =>
  obtain ⟨rfl,hb⟩:=hrel;have HB:=Za hb;clear hb;go_wp2_with fail;go_ret;exact ⟨HB.out,_,_,_,rfl⟩
theorem Znl (w:World) (oa:Option Addr) (c:Nat) (l:List Ac) (h:Src w oa l.length (acs l)) (hl:l.length≤1048576) (ht:0<l.length→ZaQ l∧∀j,j<l.length→ZV l j 1≠none) :
 Calls Try.prog 58 #[.slice oa l.length c] w fun en w'=>Zhz w oa c l en w':=by
 have HRES:=Za (show Try.f58.results=#[.cell 2 97] by rfl);have HB0:=Za ((Below.refl w.heap.size w).alloc lr_ (.cells #[.slice none 0 0,.slice none 0 0] 97));have HX0:=Za (Blk.new w 97 #[.slice none 0 0,.slice none 0 0])
 have HE:Hid (Calls Try.prog 80 #[.slice oa l.length c] (w.alloc (.cells #[.slice none 0 0,.slice none 0 0] 97)) fun en w'=>Below (w.alloc (.cells #[.slice none 0 0,.slice none 0 0] 97)).heap.size (w.alloc (.cells #[.slice none 0 0,.slice none 0 0] 97)) w'∧∃sa sn sc,en=.returned (.slice sa sn sc)∧(0<l.length→∃ge,w.heap.size<ge∧sa=some ⟨ge,0,none⟩∧sn=l.length∧sc=l.length∧Blk w' ge 3 (Zn (ZcU l)).toArray)):=by
  refine Za ?_
  by_cases h0:0<l.length
  · obtain ⟨ad,rfl,hab,hcells⟩:=h h0;refine (Zid _ ad c l (h.below HB0.out) hl h0).mono ?_;rintro en w3 ⟨hb3,h3⟩;rcases h3 with ⟨_,h3⟩ | ⟨rfl,_,hk3⟩
    · exact absurd (ht h0).1 h3
    · rw [Znb l (ht h0).2] at hk3;exact ⟨hb3,_,_,_,rfl,fun _=>⟨_,HX0.out.lt,rfl,rfl,rfl,hk3⟩⟩
  · have hz:l.length=0:=by omega
    rw [hz];exact (Zmo _ oa c).mono fun en w' ⟨h1,sa,sn,sc,h2⟩=>⟨h1,sa,sn,sc,h2,fun h9=>absurd h9 (by omega)⟩
 obtain ⟨N,hN⟩:∃n,l.length=n:=⟨_,rfl⟩;have HN:=Za hN;rw [hN] at HE;unfold Zhz;rw [hN];clear h ht hN hl;go_enter Try.func58,Try.ntmps58;go_upto_region 1 with fail;generalize w.alloc (.cells #[.slice none 0 0,.slice none 0 0] 97)=W1 at HB0 HX0 HE ⊢;obtain ⟨g0,hg0⟩:∃g,w.heap.size=g:=⟨_,rfl⟩;rw [hg0] at HX0 HE;simp only [hg0];have HG:=Za hg0;clear hg0;go_wp2_with (go_at_call 80;with_reducible refine HE.out.mono ?_;rintro en w3 ⟨hb3,sa,sn,sc,rfl,h3⟩;have HB3:=Za (HB0.out.trans (hb3.mono HB0.out.size));have H3:=Za h3;have HX3:=Za (HX0.out.below hb3 HX0.out.lt);have z0:=HX3.out.cell 0;have z1:=HX3.out.cell 1;have f0:=HX3.out.frozen 0;have f1:=HX3.out.frozen 1;have hgl:=HX3.out.lt;clear hb3 h3);refine bodyPost_ret (v:=.agg #[.slice oa N c,.slice sa sn sc]) ?_ rfl ?_
 · simp only [results,HRES.out];go_simp
 · have hb9:=HB3.out;rw [HG.out] at hb9;rw [HG.out];refine ⟨((hb9.setCell (p:=⟨g0,0,none⟩) lr_ _).setCell (p:=⟨g0,1,none⟩) lr_ _),sa,sn,sc,rfl,fun h0=>?_⟩;obtain ⟨ge,h1,e1,e2,e3,h2⟩:=H3.out h0;exact ⟨ge,e1,e2,e3,(h2.far (p:=⟨g0,0,none⟩) (by show ge≠g0;omega) _).far (p:=⟨g0,1,none⟩) (by show ge≠g0;omega) _⟩
def Zf8 (o:Option (Int×List Ac)):Prop:=∀r,o=some r→0<r.1
theorem ZkF:Zf8 none:=fun r h=>by cases h
theorem ZkE {n:Int} {l:List Ac} (h:0<n):Zf8 (some (n,l)):=fun r e=>by
 injection e with e;rw [←e];exact h
theorem Zl2 {c:Prop} [Decidable c] {a b:Option (Int×List Ac)} (h1:Zf8 a) (h2:Zf8 b):Zf8 (if c then a else b):=by
 by_cases h:c
 · rw [if_pos h];exact h1
 · rw [if_neg h];exact h2
theorem Zes {l:List Ac} {i:Nat} {r:Int×List Ac} (h:ZA l i=some r):0<r.1:=by
 have hp:Zf8 (ZA l i):=by
  unfold ZA Zcn ZdX Za4;simp only
  repeat' (first | exact ZkF | exact ZkE (by decide) | apply Zl2)
 exact hp r h
theorem Znx {W:World} {g:Nat} {t:TypeId} {a b c d e:Value} (h:Blk W g t #[a,b,c,d,e]):W.cell? ⟨g,0,none⟩=some a∧W.cell? ⟨g,1,none⟩=some b∧W.cell? ⟨g,2,none⟩=some c∧W.cell? ⟨g,3,none⟩=some d∧W.cell? ⟨g,4,none⟩=some e∧g<W.heap.size :=
 ⟨by rw [h.cell];rfl,by rw [h.cell];rfl,by rw [h.cell];rfl,by rw [h.cell];rfl,by rw [h.cell];rfl,h.lt⟩
theorem Zmb (w:World) (q:PlV) (P:Pl) (rs:List (Option Addr×Nat)) (h:PlMem w q P rs) (hlen:P.on.length≤16) (hok:∀k,k≤P.on.length→ZO P (evP P k)=true∧(evP P k).length≤131072) :
 Calls Try.prog 31 #[q.val] w fun en w'=>Zls w w' en P (Zde P):=by
 have HB0:=Za ((Below.refl w.heap.size w).alloc lr_ (.cells #[.slice q.ga q.gl q.gc,.slice q.va q.vl q.vc,.slice q.ta q.tl q.tc,.slice q.oa q.ol q.oc,.slice q.ma q.ml q.mc] 28));have HP0:=Za (Blk.new w 28 #[.slice q.ga q.gl q.gc,.slice q.va q.vl q.vc,.slice q.ta q.tl q.tc,.slice q.oa q.ol q.oc,.slice q.ma q.ml q.mc]);have HM:=Za (h.below HB0.out);have HOK:=Za hok;have HRES:=Za (show Try.f31.results=#[.tmp 2,.tmp 3,.tmp 4,.tmp 5] by rfl);obtain ⟨V,hV⟩:∃V,Zde P=V:=⟨_,rfl⟩;rw [hV];have HV:=Za hV;have HOL:=Za h.ol;have HML:=Za h.ml;simp only [PlV.val];clear h hok hV;go_enter Try.func31,Try.ntmps31;go_upto_region 1 with fail;generalize w.alloc (.cells #[.slice q.ga q.gl q.gc,.slice q.va q.vl q.vc,.slice q.ta q.tl q.tc,.slice q.oa q.ol q.oc,.slice q.ma q.ml q.mc] 28)=W1 at HB0 HP0 HM ⊢;obtain ⟨gp,hgp⟩:∃g,w.heap.size=g:=⟨_,rfl⟩;rw [hgp] at HP0
 try simp only [hgp]
 have HG:=Za hgp;clear hgp;obtain ⟨no,hnn⟩:∃n,P.on.length=n:=⟨_,rfl⟩;have HNN:=Za hnn;have hol:=HOL.out;rw [hnn] at hol;have hno:no≤16:=by rw [←hnn];exact hlen
 clear hnn;go_wp2_with fail;go_loopw [6] (fun t6 W=>∃k:Nat,t6=.int .i64 (k:Int)∧k≤no+1∧Hid (∀i,i<k→ZcT (evP P i)=none)∧Below W1.heap.size W1 W) (fun t6 _=>no+1 - (intOf t6).toNat)
 case atStart=>exact ⟨0,rfl,Nat.zero_le _,Za (fun i hi=>absurd hi (Nat.not_lt_zero _)),Below.refl _ _⟩
 case round =>
  obtain ⟨k,rfl,hk,HF,hb⟩:=hrel;have HB:=Za hb;have hx:=HP0.out.below hb HP0.out.lt;obtain ⟨b0,b1,b2,b3,b4,hgl⟩:=Znx hx;rw [hol] at b3;have HXP:=Za hx;clear hb hx;have hq:=IntWalk.i64_in ((k:Int)+1) (by omega)
  by_cases hkn:k<no+1
  · have hkI:(k:Int)≤(no:Int):=by omega
    have hk0:(0:Int)≤(k:Int):=by omega
    have HKN:=Za hkn;obtain ⟨p,oa,c,hp,hpb,hpc,hsr,hlc,hlm⟩:=ZhZ (HM.out.below HB.out) HXP.out (k:=k) (by have:=HNN.out;omega);have hev:=HOK.out k (by rw [HNN.out];omega);obtain ⟨l,hll⟩:∃l,evP P k=l:=⟨_,rfl⟩;rw [hll] at hpc hsr hlc hev;have HLL:=Za hll;have HEV:=Za hev;clear hll;have HOF:=Za (fun (W:World) (hb:Below wr.heap.size wr W)=>Znl W oa c l (hsr.below hb) (by have:=hev.2;omega) (fun h0=>ZjY hev.1 h0));have HSR:=Za hsr;have HLC:=Za hlc;have HLM:=Za hlm;obtain ⟨N,hN⟩:∃n,l.length=n:=⟨_,rfl⟩;have HN:=Za hN;unfold Zhz at HOF;rw [hN] at hpc HOF;have hN0:N≤131072:=by rw [←hN];exact hev.2
    clear hsr hev hlc hlm hN;obtain ⟨n9,hn9⟩:∃n:Int,(if k<no then (k:Int) else -1)=n:=⟨_,rfl⟩;have HN9:=Za (show evN P k=n9 by unfold evN;rw [HNN.out];exact hn9)
    have hcc:(∃ado,q.oa=some ado∧k<no∧n9=(k:Int)∧p=ado.add k)∨(¬k<no∧n9 = -1∧p=⟨gp,4,none⟩):=by
     unfold evQ at hp;rw [HNN.out] at hp
     by_cases hkn2:k<no
     · rw [if_pos hkn2] at hp hn9
       cases ho:q.oa with
       | none=>rw [ho] at hp;cases hp
       | some a =>
        rw [ho] at hp;injection hp with hp;exact .inl ⟨a,rfl,hkn2,hn9.symm,hp.symm⟩
     · rw [if_neg hkn2] at hp hn9;injection hp with hp;exact .inr ⟨hkn2,hn9.symm,hp.symm⟩
    clear hp hn9;rcases hcc with ⟨ado,hado,hkn2,hn9,hpp⟩ | ⟨hkn2,hn9,hpp⟩
    · skip;have hkb:(k:Int)<(no:Int):=by omega
      rw [hado] at b3;subst hpp;have HN99:=Za hn9;subst hn9;clear hado hkn2 hkn;go_upto_region 9 with fail;have HOFW:=Za (HOF.out wr br_);go_upto_region 10 with (go_at_call 58;go_must (with_reducible refine HOFW.out.mono ?_);rintro en w5 ⟨hb5,sa,sn,sc,rfl,h5⟩;have HB5:=Za hb5;have H5:=Za h5;clear hb5 h5);have HB6:=Za (HB5.out.alloc HB5.out.size (.cells #[.slice oa N c,.slice sa sn sc] 97));have HX6:=Za (Blk.new w5 97 #[.slice oa N c,.slice sa sn sc]);have H6:=Za (show 0<N→∃ge,sa=some ⟨ge,0,none⟩∧sn=N∧sc=N∧Blk (w5.alloc (.cells #[.slice oa N c,.slice sa sn sc] 97)) ge 3 (Zn (ZcU l)).toArray from fun h0=>by obtain ⟨ge,e1,e2,e3,e4⟩:=H5.out h0;exact ⟨ge,e1,e2,e3,e4.alloc _⟩);generalize w5.alloc (.cells #[.slice oa N c,.slice sa sn sc] 97)=W6 at HB6 HX6 H6 ⊢;obtain ⟨g6,hg6⟩:∃g,w5.heap.size=g:=⟨_,rfl⟩;rw [hg6] at HX6
      try simp only [hg6]
      clear hg6 b0 b1 b2 b3 b4 hpc;go_wp2_with fail;go_loopw [10] (fun t10 W=>∃i:Nat,t10=.int .i64 (i:Int)∧i≤N∧Hid (∀j,j<i→ZA l j=none)∧Below W6.heap.size W6 W) (fun t10 _=>N - (intOf t10).toNat)
      case atStart=>exact ⟨0,rfl,Nat.zero_le _,Za (fun j hj=>absurd hj (Nat.not_lt_zero _)),Below.refl _ _⟩
      case round =>
       obtain ⟨i,rfl,hi,HFI,hbi⟩:=hrel;have HBI:=Za hbi;have hxi:=HX6.out.below hbi HX6.out.lt;have z0:=hxi.cell 0;have z1:=hxi.cell 1;clear hbi hxi;have hqi:=IntWalk.i64_in ((i:Int)+1) (by omega)
       by_cases hiN:i<N
       · have hiI:(i:Int)<(N:Int):=by omega
         have HIN:=Za hiN;have h0l:0<l.length:=by have:=HN.out;omega
         obtain ⟨ge,e1,e2,e3,e4⟩:=H6.out (by have:=HN.out;omega);obtain ⟨ad,eA,hab,hcs⟩:=HSR.out h0l;have hrs:Rs wr ad c ge l:=⟨⟨(HSR.out.below HB6.out).below HBI.out |> (fun h=>by rw [eA] at h;exact h),HLC.out,HLM.out⟩,e4.below HBI.out e4.lt⟩;have hlk:=Zh3 wr ad c ge hrs HEV.out.1 HEV.out.2 (i:=i) (by rw [HN.out];exact hiN);unfold rsv at hlk;rw [HN.out] at hlk;subst e1 e2 e3;subst eA;have HLK:=Za hlk;clear hlk hrs hcs hab e4 hiN h0l
         cases hlw:ZA l i with
         | none =>
          rw [hlw] at HLK;have HNX:=Za (show ∀j,j<i+1→ZA l j=none from fun j hj=>by rcases Nat.lt_or_ge j i with h1 | h1;exact HFI.out j h1;rw [show j=i by omega];exact hlw);clear hlw;go_wp2_with (go_at_call 59;go_must (with_reducible refine HLK.out.mono ?_);rintro en w8 ⟨rfl,hb8⟩;have HB8:=Za hb8;clear hb8);go_roundw
          case rel=>exact ⟨i+1,by go_num,by have:=HIN.out;omega,Za HNX.out,HBI.out.trans (HB8.out.mono HBI.out.size)⟩
          case measure =>
           simp only [intOf];have:=HIN.out;omega
         | some r8 =>
          obtain ⟨n8,l8⟩:=r8;rw [hlw] at HLK;have hlv:=Zes hlw;have HE2:=Za (show V=some (k,i,n8,l8) by rw [←HV.out];exact Zba (j:=k) (by have:=HNN.out;have:=HKN.out;omega) (fun j hj=>by rw [HF.out j hj];rfl) (by rw [HLL.out];unfold ZcT;rw [Zba (j:=i) (by have:=HN.out;have:=HIN.out;omega) (fun j hj=>by rw [HFI.out j hj];rfl) (by rw [hlw];rfl)];rfl));have hnb:(n8 != 0)=true:=by simp;omega
          clear hlw hlv;go_wp2_with (go_at_call 59;go_must (with_reducible refine HLK.out.mono ?_);rintro en w8 ⟨u8,rfl,ho8,hb8⟩;have HB8:=Za hb8;have HO8:=Za ho8;clear hb8 ho8);refine bodyPost_ret (v:=.tuple #[.int .i64 (k:Int),.int .i64 (i:Int),.int .i64 n8,u8]) ?_ rfl ?_
          · simp only [results,HRES.out];go_simp
          · rw [HE2.out];have hbt:=HB0.out.trans (HB.out.mono HB0.out.size);have hbt2:=hbt.trans (HB6.out.mono hbt.size);have hbt3:=hbt2.trans (HBI.out.mono hbt2.size);exact ⟨u8,by rw [HN9.out],Zr HO8.out hbt3.size,hbt3.trans (HB8.out.mono hbt3.size)⟩
       · have hiI:¬(i:Int)<(N:Int):=by omega
         have HNX:=Za (show ∀j,j<k+1→ZcT (evP P j)=none from fun j hj=>by rcases Nat.lt_or_ge j k with h1 | h1;exact HF.out j h1;rw [show j=k by omega,HLL.out];exact Zcf (fun q hq=>by rw [HFI.out q (by have:=HN.out;omega)];rfl));clear hiN;go_wp2_with fail;go_roundw
         case rel=>exact ⟨_,_,_,_,_,⟨k+1,rfl,by have:=HKN.out;omega,Za HNX.out,HB.out.trans ((HB6.out.trans (HBI.out.mono HB6.out.size)).mono HB.out.size)⟩,rfl,rfl,rfl,rfl,by go_num⟩
         case measure =>
          simp only [intOf];have:=HKN.out;omega
    · skip;have hkb:¬(k:Int)<(no:Int):=by omega
      subst hpp;have HN99:=Za hn9;subst hn9;rw [b4] at hpc;simp only [Option.some.injEq,Value.slice.injEq] at hpc;obtain ⟨hp1,hp2,hp3⟩:=hpc;rw [hp1,hp2,hp3] at b4;have hpc:True:=trivial;clear hkn2 hkn hp1 hp2 hp3;go_upto_region 9 with fail;have HOFW:=Za (HOF.out wr br_);go_upto_region 10 with (go_at_call 58;go_must (with_reducible refine HOFW.out.mono ?_);rintro en w5 ⟨hb5,sa,sn,sc,rfl,h5⟩;have HB5:=Za hb5;have H5:=Za h5;clear hb5 h5);have HB6:=Za (HB5.out.alloc HB5.out.size (.cells #[.slice oa N c,.slice sa sn sc] 97));have HX6:=Za (Blk.new w5 97 #[.slice oa N c,.slice sa sn sc]);have H6:=Za (show 0<N→∃ge,sa=some ⟨ge,0,none⟩∧sn=N∧sc=N∧Blk (w5.alloc (.cells #[.slice oa N c,.slice sa sn sc] 97)) ge 3 (Zn (ZcU l)).toArray from fun h0=>by obtain ⟨ge,e1,e2,e3,e4⟩:=H5.out h0;exact ⟨ge,e1,e2,e3,e4.alloc _⟩);generalize w5.alloc (.cells #[.slice oa N c,.slice sa sn sc] 97)=W6 at HB6 HX6 H6 ⊢;obtain ⟨g6,hg6⟩:∃g,w5.heap.size=g:=⟨_,rfl⟩;rw [hg6] at HX6
      try simp only [hg6]
      clear hg6 b0 b1 b2 b3 b4 hpc;go_wp2_with fail;go_loopw [10] (fun t10 W=>∃i:Nat,t10=.int .i64 (i:Int)∧i≤N∧Hid (∀j,j<i→ZA l j=none)∧Below W6.heap.size W6 W) (fun t10 _=>N - (intOf t10).toNat)
      case atStart=>exact ⟨0,rfl,Nat.zero_le _,Za (fun j hj=>absurd hj (Nat.not_lt_zero _)),Below.refl _ _⟩
      case round =>
       obtain ⟨i,rfl,hi,HFI,hbi⟩:=hrel;have HBI:=Za hbi;have hxi:=HX6.out.below hbi HX6.out.lt;have z0:=hxi.cell 0;have z1:=hxi.cell 1;clear hbi hxi;have hqi:=IntWalk.i64_in ((i:Int)+1) (by omega)
       by_cases hiN:i<N
       · have hiI:(i:Int)<(N:Int):=by omega
         have HIN:=Za hiN;have h0l:0<l.length:=by have:=HN.out;omega
         obtain ⟨ge,e1,e2,e3,e4⟩:=H6.out (by have:=HN.out;omega);obtain ⟨ad,eA,hab,hcs⟩:=HSR.out h0l;have hrs:Rs wr ad c ge l:=⟨⟨(HSR.out.below HB6.out).below HBI.out |> (fun h=>by rw [eA] at h;exact h),HLC.out,HLM.out⟩,e4.below HBI.out e4.lt⟩;have hlk:=Zh3 wr ad c ge hrs HEV.out.1 HEV.out.2 (i:=i) (by rw [HN.out];exact hiN);unfold rsv at hlk;rw [HN.out] at hlk;subst e1 e2 e3;subst eA;have HLK:=Za hlk;clear hlk hrs hcs hab e4 hiN h0l
         cases hlw:ZA l i with
         | none =>
          rw [hlw] at HLK;have HNX:=Za (show ∀j,j<i+1→ZA l j=none from fun j hj=>by rcases Nat.lt_or_ge j i with h1 | h1;exact HFI.out j h1;rw [show j=i by omega];exact hlw);clear hlw;go_wp2_with (go_at_call 59;go_must (with_reducible refine HLK.out.mono ?_);rintro en w8 ⟨rfl,hb8⟩;have HB8:=Za hb8;clear hb8);go_roundw
          case rel=>exact ⟨i+1,by go_num,by have:=HIN.out;omega,Za HNX.out,HBI.out.trans (HB8.out.mono HBI.out.size)⟩
          case measure =>
           simp only [intOf];have:=HIN.out;omega
         | some r8 =>
          obtain ⟨n8,l8⟩:=r8;rw [hlw] at HLK;have hlv:=Zes hlw;have HE2:=Za (show V=some (k,i,n8,l8) by rw [←HV.out];exact Zba (j:=k) (by have:=HNN.out;have:=HKN.out;omega) (fun j hj=>by rw [HF.out j hj];rfl) (by rw [HLL.out];unfold ZcT;rw [Zba (j:=i) (by have:=HN.out;have:=HIN.out;omega) (fun j hj=>by rw [HFI.out j hj];rfl) (by rw [hlw];rfl)];rfl));have hnb:(n8 != 0)=true:=by simp;omega
          clear hlw hlv;go_wp2_with (go_at_call 59;go_must (with_reducible refine HLK.out.mono ?_);rintro en w8 ⟨u8,rfl,ho8,hb8⟩;have HB8:=Za hb8;have HO8:=Za ho8;clear hb8 ho8);refine bodyPost_ret (v:=.tuple #[.int .i64 (-1),.int .i64 (i:Int),.int .i64 n8,u8]) ?_ rfl ?_
          · simp only [results,HRES.out];go_simp
          · rw [HE2.out];have hbt:=HB0.out.trans (HB.out.mono HB0.out.size);have hbt2:=hbt.trans (HB6.out.mono hbt.size);have hbt3:=hbt2.trans (HBI.out.mono hbt2.size);exact ⟨u8,by rw [HN9.out],Zr HO8.out hbt3.size,hbt3.trans (HB8.out.mono hbt3.size)⟩
       · have hiI:¬(i:Int)<(N:Int):=by omega
         have HNX:=Za (show ∀j,j<k+1→ZcT (evP P j)=none from fun j hj=>by rcases Nat.lt_or_ge j k with h1 | h1;exact HF.out j h1;rw [show j=k by omega,HLL.out];exact Zcf (fun q hq=>by rw [HFI.out q (by have:=HN.out;omega)];rfl));clear hiN;go_wp2_with fail;go_roundw
         case rel=>exact ⟨_,_,_,_,_,⟨k+1,rfl,by have:=HKN.out;omega,Za HNX.out,HB.out.trans ((HB6.out.trans (HBI.out.mono HB6.out.size)).mono HB.out.size)⟩,rfl,rfl,rfl,rfl,by go_num⟩
         case measure =>
          simp only [intOf];have:=HKN.out;omega
  · have hkI:¬(k:Int)≤(no:Int):=by omega
    have HE2:=Za (show V=none by rw [←HV.out];exact Zcf (fun i hi=>by rw [HF.out i (by have:=HNN.out;omega)];rfl));clear hkn;go_wp2_with fail;refine bodyPost_ret (v:=.tuple #[.int .i64 0,.int .i64 0,.int .i64 0,.slice none 0 0]) ?_ rfl ?_
    · simp only [results,HRES.out];go_simp
    · rw [HE2.out];exact ⟨rfl,HB0.out.trans (HB.out.mono HB0.out.size)⟩
theorem Zep:∀(ls:List (List Ac)) (l:List Ac),l ∈ ls→l.length≤Zj ls
 | [],l,h=>by cases h
 | k::ls,l,h=>by
  have e:Zj (k::ls)=k.length+Zj ls:=by simp [Zj]
  rw [e];rcases List.mem_cons.1 h with rfl | h
  · omega
  · have:=Zep ls l h;omega
theorem Ze1 {P:Pl} (h:checkV P=0):P.on.length≤16∧∀k,k≤P.on.length→ZO P (evP P k)=true∧(evP P k).length≤131072:=by
 unfold checkV at h;split at h
 · next hc =>
   simp only [Bool.and_eq_true,decide_eq_true_eq] at hc;obtain ⟨⟨⟨⟨⟨⟨⟨h1,h2⟩,h3⟩,h4⟩,h5⟩,h6⟩,h7⟩,h8⟩:=hc;refine ⟨by omega,fun k hk=>?_⟩;have hlen:(P.on++[P.ms]).length=P.on.length+1:=by simp
   obtain ⟨l,hl⟩:∃l,(P.on++[P.ms])[k]? = some l:=⟨_,ge_ (by omega)⟩;have he:evP P k=l:=by unfold evP;rw [hl];rfl
   have hm:=List.mem_of_getElem? hl;rw [he];refine ⟨(List.all_eq_true.1 h8) l hm,?_⟩;have hle:=Zep _ l hm;omega
 · cases h
theorem ZjB {P:Pl} (hev:∀k,k≤P.on.length→ZO P (evP P k)=true∧(evP P k).length≤131072) :
 ((Zb5 P).map fun r=>(r.1,r.2.frm,(r.2.what:Int)))=(Zde P).map fun r=>(evN P r.1,r.2.1,r.2.2.1):=by
 unfold Zb5 Zde;rw [List.map_findSome?,List.map_findSome?];apply Zd7;intro k hk;have hk2:k≤P.on.length:=by have:=List.mem_range.1 hk;omega
 have h1:=ZjA (hev k hk2).1 (hev k hk2).2;show Option.map _ (Option.map _ _)=Option.map _ (Option.map _ _);rw [←h1]
 cases ZaO (evP P k) with
 | none=>rfl
 | some f=>rfl
theorem LentQ.below {w w':World} {B gg gv gt go gm cg cv ct co cm:Nat} {es:List Nat} {us:List Value} {P:Pl} (h:LentQ w B gg gv gt go gm cg cv ct co cm es us P) (hb:Below w.heap.size w w'):LentQ w' B gg gv gt go gm cg cv ct co cm es us P :=
 ⟨h.g.below hb,h.v.below hb,h.t.below hb,h.m.below hb,Zq h.o hb lr_,h.l,fun j l hj=>by
  obtain ⟨e,c,a,b,d⟩:=h.r j l hj
  exact ⟨e,c,a,b,d.below hb⟩,h.ne,h.nm⟩
def ZgI:Value→Option Addr×Nat
 | .slice oa _ c=>(oa,c)
 | _=>(none,0)
theorem LentQ.plan {w:World} {B gg gv gt go gm cg cv ct co cm:Nat} {es:List Nat} {us:List Value} {P:Pl} (h:LentQ w B gg gv gt go gm cg cv ct co cm es us P) :
 PlMem w ⟨some ⟨gg,0,none⟩,some ⟨gv,0,none⟩,some ⟨gt,0,none⟩,some ⟨go,0,none⟩,some ⟨gm,0,none⟩,P.gh.length,cg,P.vs.length,cv,P.ts.length,ct,P.on.length,co,P.ms.length,cm⟩ P (us.map ZgI):=by
 have hul:us.length=P.on.length:=by have:=h.o.1;omega
 have hsl:∀(j:Nat) (v:Value),(slv (us.map ZgI) P.on)[j]? = some v→us[j]? = some v:=fun j v hv=>by
  have hj:j<P.on.length:=by
   have:=(gs_ hv).1;rw [Za9 _ _ (by simp [hul])] at this;exact this
  obtain ⟨l,hl⟩:∃l,P.on[j]? = some l:=⟨_,ge_ hj⟩;obtain ⟨e,c,_,hu,_⟩:=h.r j l hl;have h9:=Zbp (us.map ZgI) P.on j (some ⟨e,0,none⟩,c) l (by rw [List.getElem?_map,hu];rfl) hl;rw [hv] at h9;injection h9 with h9;rw [h9];exact hu
 have hmx:∀ {tE:TypeId} {sz g n c:Nat} {xs:List Value},LentR w B tE sz g n c xs→n≤maxLen:=fun h=>by
  have:=h.c;have:=h.m;omega
 refine ⟨rfl,rfl,rfl,rfl,rfl,h.g.src _,h.v.src _,LentR.src (ys:=[.int .i64 (-77)]) (by rw [←ZcI];exact h.t) _,fun h0=>?_,⟨by simp [hul],fun i oa c l h1 h2=>?_⟩,hmx h.g,hmx h.v,hmx h.t,?_⟩
 · obtain ⟨ad,e,h1,h2⟩:=Zaq h.o h0;exact ⟨ad,e,h1,fun j v hv=>h2 j v (hsl j v hv)⟩
 · rcases Nat.lt_or_ge i P.on.length with hi | hi
   · rw [List.getElem?_append_left (by simp [hul];exact hi),List.getElem?_map] at h1;rw [List.getElem?_append_left hi] at h2;obtain ⟨e,c',_,hu,hr⟩:=h.r i l h2;rw [hu] at h1;simp only [Option.map_some,ZgI,Option.some.injEq,Prod.mk.injEq] at h1;obtain ⟨rfl,rfl⟩:=h1;refine ⟨LentR.src (ys:=acs [(⟨-77,0,0,0,0,0⟩:Ac)]) (by rw [←Zch];exact hr) _,?_,hr.m⟩;have:=hr.c;omega
   · have hil:i=P.on.length:=by
      have:=(gs_ h2).1;simp at this;omega
     subst hil;rw [List.getElem?_append_right (by simp [hul])] at h1;rw [List.getElem?_append_right lr_] at h2;simp only [List.length_map,hul,Nat.sub_self,List.getElem?_cons_zero,Option.some.injEq,Prod.mk.injEq] at h1 h2;obtain ⟨rfl,rfl⟩:=h1;subst h2;refine ⟨LentR.src (ys:=acs [(⟨-77,0,0,0,0,0⟩:Ac)]) (by rw [←Zch];exact h.m) _,?_,h.m.m⟩;have:=h.m.c;omega
 · rcases Nat.eq_zero_or_pos P.on.length with h0 | h0
   · rw [h0];exact Nat.zero_le _
   · obtain ⟨g,cap,e,h1,h2⟩:=Zas h.o h0;omega
theorem ZjS {P:Pl} (h:Zdh P=false):(P.gh.length≤100∧P.vs.length≤100∧P.ts.length≤100∧P.on.length≤100)∧∀l ∈ P.on++[P.ms],l.length≤262144:=by
 unfold Zdh at h;simp only [Bool.or_eq_false_iff,decide_eq_false_iff_not] at h;obtain ⟨h1,h2,h3,h4,h5⟩:=h;refine ⟨by omega,fun l hl=>?_⟩;unfold ZcQ at h5;rcases List.mem_append.1 hl with hl | hl
 · have:=Zep _ _ hl;omega
 · simp at hl;subst hl;omega
end Go.Proofs.Ytdpokdcendgfeaa
