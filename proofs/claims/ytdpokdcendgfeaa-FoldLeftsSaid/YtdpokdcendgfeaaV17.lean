/- Several texts in one: The reference's optimiser: harmless, up, same, and its reckoning. The reference's optimiser: same, and what constants are worth. The reference's optimiser: swap, one, none. The reference's optimiser: one, none. The reference's optimiser: sum. Rows appended behind a full row: memory only grows. Conditions: those of each. -/
import Derived.Test.YtdpokdcendgfeaaV16
set_option linter.unusedSimpArgs false
set_option linter.unusedVariables false
set_option maxHeartbeats 80000000
set_option maxRecDepth 100000
namespace Go.Proofs.Ytdpokdcendgfeaa
open Go.RowKit
def Zap (l:List Ac) (i e:Nat):Bool:=(List.range (e - i)).all fun j=>decide ((rowL l (i+j)).k≠25)
theorem ZeY (w:World) (ad:Addr) (c ge:Nat) (l:List Ac) (i:Nat) (h:Rs w ad c ge l) (hi:i<l.length) (he:i≤endL l i∧endL l i≤l.length) (hl:l.length≤131072) :
 Calls Try.prog 88 #[rsv ad l.length c ge,.int .i64 (i:Int)] w fun en w'=>en=.returned (.bool (Zap l i (endL l i)))∧Below w.heap.size w w':=by
 have HRS:=Za h;obtain ⟨⟨q0,q1,q2,q3,q4,q5⟩,qe,hab⟩:=Zx h hi;have hc:=h.r.n;have hgl:=h.e.lt;obtain ⟨N,hN⟩:∃n,l.length=n:=⟨_,rfl⟩;obtain ⟨E,hE⟩:∃n,endL l i=n:=⟨_,rfl⟩;rw [hE] at qe;rw [hN] at hc hi hl;have HN:=Za hN;have HE:=Za hE;have HB:=Za ((Below.refl w.heap.size w).alloc lr_ (.cells #[.slice (some ad) N c,.slice (some ⟨ge,0,none⟩) N N] 97));have HX:=Za (Blk.new w 97 #[.slice (some ad) N c,.slice (some ⟨ge,0,none⟩) N N]);have h1:(0:Int)≤(i:Int):=by omega
 have h2:(i:Int)<(N:Int):=by omega
 rw [hN,hE] at he;rw [hN,hE];have HNT:=Za (show Zap l i E=Zap l i E from rfl);obtain ⟨V,hV⟩:∃V,Zap l i E=V:=⟨_,rfl⟩;rw [hV];have HV:=Za hV;clear h hN hE hV HNT;unfold rsv;go_enter Try.func88,Try.ntmps88;go_upto_region 1 with fail;generalize w.alloc (.cells #[.slice (some ad) N c,.slice (some ⟨ge,0,none⟩) N N] 97)=W1 at HB HX ⊢;obtain ⟨gb,hgb⟩:∃g,w.heap.size=g:=⟨_,rfl⟩;rw [hgb] at HX;simp only [hgb];have x0:W1.cell? ⟨gb,0,none⟩=some (.slice (some ad) N c):=HX.out.cell 0;have x1:W1.cell? ⟨gb,1,none⟩=some (.slice (some ⟨ge,0,none⟩) N N):=HX.out.cell 1;clear hgb;have hqe:=(HB.out.cell (p:=⟨ge,i,none⟩) hgl).trans qe;go_wp2_with fail;go_loopw [5] (fun t5 W=>∃j:Nat,t5=.int .i64 (j:Int)∧i≤j∧j≤E∧W=W1∧Hid (∀q,i≤q→q<j→(rowL l q).k≠25)) (fun t5 _=>E - (intOf t5).toNat)
 case atStart=>exact ⟨i,rfl,lr_,he.1,rfl,Za (fun q h1 h2=>absurd h2 (by omega))⟩
 case round =>
  obtain ⟨j,rfl,hj1,hj2,rfl,HF⟩:=hrel;have hq2:=IntWalk.i64_in ((j:Int)+1) (by omega)
  by_cases hjk:j<E
  · have hjI:(j:Int)<(E:Int):=by omega
    have hj0:(0:Int)≤(j:Int):=by omega
    have hjN:(j:Int)<(N:Int):=by omega
    obtain ⟨⟨p0,_⟩,_,hpb⟩:=Zx (HRS.out.below HB.out) (show j<l.length by have:=HN.out;omega)
    by_cases hk:(rowL l j).k=25
    · have hkb:((rowL l j).k == 25)=true:=by simp [hk]
      have HE2:=Za (show V=false by
       rw [←HV.out];unfold Zap;rw [List.all_eq_false]
       exact ⟨j - i,List.mem_range.2 (by omega),by rw [show i+(j - i)=j by omega];simp [hk]⟩)
      clear hk;go_wp2_with fail;go_ret;exact ⟨by rw [HE2.out];first | done | rfl,HB.out⟩
    · have hkb:((rowL l j).k == 25)=false:=by simp [hk]
      have HK:=Za hk;clear hk;go_wp2_with fail;go_roundw
      case rel=>exact ⟨j+1,by go_num,by omega,by omega,trivial,Za (fun q h1 h2=>by rcases Nat.lt_or_ge q j with h3 | h3;exact HF.out q h1 h3;rw [show q=j by omega];exact HK.out)⟩
      case measure =>
       simp only [intOf];omega
  · have hjI:¬(j:Int)<(E:Int):=by omega
    have HE2:=Za (show V=true by
     rw [←HV.out];unfold Zap;rw [List.all_eq_true];intro q hq;have:=List.mem_range.1 hq
     simpa using HF.out (i+q) (by omega) (by omega))
    go_wp2_with fail;go_ret;exact ⟨by rw [HE2.out];first | done | rfl,HB.out⟩
def upL (l:List Ac) (i:Nat):Nat→Option Nat
 | 0=>none
 | j+1=>if i<endL l j then some j else upL l i j
def upI:Option Nat→Int
 | none=>-1
 | some j=>(j:Int)
theorem Zlx (w:World) (ad:Addr) (c ge:Nat) (l:List Ac) (i:Nat) (h:Rs w ad c ge l) (hi:i<l.length) (hl:l.length≤131072) :
 Calls Try.prog 93 #[rsv ad l.length c ge,.int .i64 (i:Int)] w fun en w'=>en=.returned (.int .i64 (upI (upL l i i)))∧Below w.heap.size w w':=by
 have HRS:=Za h;obtain ⟨⟨q0,q1,q2,q3,q4,q5⟩,qe,hab⟩:=Zx h hi;have hc:=h.r.n;have hgl:=h.e.lt;obtain ⟨N,hN⟩:∃n,l.length=n:=⟨_,rfl⟩;obtain ⟨E,hE⟩:∃n,endL l i=n:=⟨_,rfl⟩;rw [hE] at qe;rw [hN] at hc hi hl;have HN:=Za hN;have HE:=Za hE;have HB:=Za ((Below.refl w.heap.size w).alloc lr_ (.cells #[.slice (some ad) N c,.slice (some ⟨ge,0,none⟩) N N] 97));have HX:=Za (Blk.new w 97 #[.slice (some ad) N c,.slice (some ⟨ge,0,none⟩) N N]);have h1:(0:Int)≤(i:Int):=by omega
 have h2:(i:Int)<(N:Int):=by omega
 rw [hN];obtain ⟨V,hV⟩:∃V,upI (upL l i i)=V:=⟨_,rfl⟩;rw [hV];have HV:=Za hV;have hq1:=IntWalk.i64_in ((i:Int) - 1) (by omega);clear h hN hE hV;unfold rsv;go_enter Try.func93,Try.ntmps93;go_upto_region 1 with fail;generalize w.alloc (.cells #[.slice (some ad) N c,.slice (some ⟨ge,0,none⟩) N N] 97)=W1 at HB HX ⊢;obtain ⟨gb,hgb⟩:∃g,w.heap.size=g:=⟨_,rfl⟩;rw [hgb] at HX;simp only [hgb];have x0:W1.cell? ⟨gb,0,none⟩=some (.slice (some ad) N c):=HX.out.cell 0;have x1:W1.cell? ⟨gb,1,none⟩=some (.slice (some ⟨ge,0,none⟩) N N):=HX.out.cell 1;clear hgb;go_wp2_with fail;go_loopw [5] (fun t5 W=>∃j:Nat,t5=.int .i64 ((j:Int) - 1)∧j≤i∧W=W1∧Hid (upI (upL l i j)=V)) (fun t5 _=>(intOf t5+1).toNat)
 case atStart=>exact ⟨i,rfl,lr_,rfl,HV⟩
 case round =>
  obtain ⟨j,rfl,hj2,rfl,HF⟩:=hrel
  by_cases hj0:j=0
  · have hjI:¬(0:Int)≤(j:Int) - 1:=by omega
    have HE2:=Za (show V = -1 by rw [←HF.out,hj0];rfl);clear hj0;go_wp2_with fail;go_ret;exact ⟨by rw [HE2.out];first | done | rfl,HB.out⟩
  · obtain ⟨p,rfl⟩:∃p,j=p+1:=⟨j - 1,by omega⟩;have e1:((p+1:Nat):Int) - 1=(p:Int):=by omega
    have hq2:=IntWalk.i64_in ((p:Int) - 1) (by omega);have hp0:(0:Int)≤(p:Int):=by omega
    have hpN:(p:Int)<(N:Int):=by omega
    obtain ⟨_,pe,_⟩:=Zx (HRS.out.below HB.out) (show p<l.length by have:=HN.out;omega);obtain ⟨EP,hEP⟩:∃n,endL l p=n:=⟨_,rfl⟩;rw [hEP] at pe;simp only [e1];clear hj0
    by_cases hk:i<EP
    · have hkI:(i:Int)<(EP:Int):=by omega
      have HE2:=Za (show V=(p:Int) by rw [←HF.out];unfold upL;rw [hEP,if_pos hk];rfl);clear hk hEP e1;go_wp2_with fail;go_ret;exact ⟨by rw [HE2.out];first | done | rfl,HB.out⟩
    · have hkI:¬(i:Int)<(EP:Int):=by omega
      have HE2:=Za (show upI (upL l i p)=V by rw [←HF.out];conv=>rhs;unfold upL;rw [hEP,if_neg hk]);clear hk hEP e1;go_wp2_with fail;go_roundw
      case rel=>exact ⟨p,rfl,by omega,trivial,HE2⟩
      case measure =>
       simp only [intOf];omega
theorem ZgV (w:World) (b:Bool):Calls Try.prog 131 #[.bool b] w fun en w'=>en=.returned (.int .i64 (if b then 1 else 0))∧w'=w:=by
 go_enter Try.func131,Try.ntmps131
 cases b
 all_goals
  go_wp2_with fail;go_ret;exact ⟨rfl,rfl⟩
theorem Zlf (w:World) (n:Int):Calls Try.prog 170 #[.int .i64 n] w fun en w'=>en=.returned (.int .i64 (ZaA n))∧w'=w:=by
 obtain ⟨V,hV⟩:∃V,ZaA n=V:=⟨_,rfl⟩;rw [hV];have HV:=Za hV;clear hV;go_enter Try.func170,Try.ntmps170
 by_cases h1:n < -1073741824
 · have HE:=Za (show V = -1073741824 by rw [←HV.out];unfold ZaA;omega);go_wp2_with fail;go_ret;exact ⟨by rw [HE.out];first | done | rfl,rfl⟩
 · by_cases h2:1073741824<n
   · have HE:=Za (show V=1073741824 by rw [←HV.out];unfold ZaA;omega);go_wp2_with fail;go_ret;exact ⟨by rw [HE.out];first | done | rfl,rfl⟩
   · have HE:=Za (show V=n by rw [←HV.out];unfold ZaA;omega);go_wp2_with fail;go_ret;exact ⟨by rw [HE.out];first | done | rfl,rfl⟩
def Zbs (k:Int):Bool:=decide (k=28)||(decide (k=26)||(decide (k=27)||(decide (k=30)||(decide (k=31)||(decide (k=32)||(decide (k=33)||(decide (k=34)||(decide (k=35)||(decide (k=36)||decide (k=29))))))))))
theorem Zl0 (w:World) (k:Int):Calls Try.prog 128 #[.int .i64 k] w fun en w'=>en=.returned (.bool (Zbs k))∧w'=w:=by
 obtain ⟨V,hV⟩:∃V,Zbs k=V:=⟨_,rfl⟩;rw [hV];have HV:=Za hV;clear hV;go_enter Try.func128,Try.ntmps128
 by_cases hk:k=28∨k=26∨k=27∨k=30∨k=31∨k=32∨k=33∨k=34∨k=35∨k=36∨k=29
 · rcases hk with rfl | rfl | rfl | rfl | rfl | rfl | rfl | rfl | rfl | rfl | rfl
   all_goals
    go_wp2_with fail;go_ret;exact ⟨by rw [←HV.out];rfl,rfl⟩
 · have HE:=Za (show V=false by rw [←HV.out];unfold Zbs;simp only [not_or] at hk;simp [hk]);simp only [not_or] at hk;obtain ⟨k1,k2,k3,k4,k5,k6,k7,k8,k9,k10,k11⟩:=hk;have b1:(k == 28)=false:=by simp [k1]
   have b2:(k == 26)=false:=by simp [k2]
   have b3:(k == 27)=false:=by simp [k3]
   have b4:(k == 30)=false:=by simp [k4]
   have b5:(k == 31)=false:=by simp [k5]
   have b6:(k == 32)=false:=by simp [k6]
   have b7:(k == 33)=false:=by simp [k7]
   have b8:(k == 34)=false:=by simp [k8]
   have b9:(k == 35)=false:=by simp [k9]
   have b10:(k == 36)=false:=by simp [k10]
   have b11:(k == 29)=false:=by simp [k11]
   clear k1 k2 k3 k4 k5 k6 k7 k8 k9 k10 k11;go_wp2_with fail;go_ret;exact ⟨by rw [HE.out];first | done | rfl,rfl⟩
theorem ZlS (w:World) (oa ob:Option Addr) (ca cb:Nat) (l m:List Ac) (ha:Src w oa l.length (acs l)) (hb:Src w ob m.length (acs m)) (hl:l.length≤4194304) :
 Calls Try.prog 133 #[.slice oa l.length ca,.slice ob m.length cb] w fun en w'=>en=.returned (.bool (decide (l=m)))∧Below w.heap.size w w':=by
 have HA:=Za ha;have HB:=Za hb;have hne:=neA;have hgd:=g49;obtain ⟨N,hN⟩:∃N,l.length=N:=⟨_,rfl⟩;obtain ⟨M,hM⟩:∃M,m.length=M:=⟨_,rfl⟩;rw [hN] at hl;rw [hN,hM];have HN:=Za hN;have HM:=Za hM;clear ha hb hN hM
 by_cases hNM:N=M
 case neg =>
  have hnb:((N:Int) != (M:Int))=true:=by simp;omega
  have HF:=Za (show decide (l=m)=false by
   rw [decide_eq_false_iff_not];rintro rfl
   exact hNM (HN.out.symm.trans HM.out))
  clear hNM;go_enter Try.func133,Try.ntmps133;go_wp2_with fail;go_ret;exact ⟨by rw [HF.out];first | done | rfl,Below.refl _ _⟩
 subst hNM;have hnb:((N:Int) != (N:Int))=false:=by simp
 go_enter Try.func133,Try.ntmps133;go_wp2_with fail;go_loopw [5] (fun t5 W=>∃i:Nat,t5=.int .i64 (i:Int)∧i≤N∧Below w.heap.size w W∧Hid (∀j x y,j<i→l[j]? = some x→m[j]? = some y→x=y)) (fun t5 _=>N - (intOf t5).toNat)
 case atStart=>exact ⟨0,rfl,Nat.zero_le _,Below.refl _ _,Za (fun j x y h=>absurd h (Nat.not_lt_zero _))⟩
 case round =>
  obtain ⟨i,rfl,hi,hw,HE⟩:=hrel;rename World=>W
  have HW:=Za hw;have u1:=IntWalk.i64_in ((i:Int)+1) (by omega);have hi0:(0:Int)≤(i:Int):=by omega
  by_cases hlt:i<N
  · have hltI:(i:Int)<(N:Int):=by omega
    obtain ⟨x,hx⟩:∃x,l[i]? = some x:=⟨_,ge_ (by rw [HN.out];exact hlt)⟩;obtain ⟨y,hy⟩:∃y,m[i]? = some y:=⟨_,ge_ (by rw [HM.out];exact hlt)⟩;obtain ⟨ad,e,hab,q0,q1,q2,q3,q4,q5⟩:=Zo (HA.out.below hw) hx;obtain ⟨ae,f,hbb,p0,p1,p2,p3,p4,p5⟩:=Zo (HB.out.below hw) hy;subst e f;have HX:=Za hx;have HY:=Za hy;obtain ⟨x0,x1,x2,x3,x4,x5⟩:=x;obtain ⟨y0,y1,y2,y3,y4,y5⟩:=y;simp only at q0 q1 q2 q3 q4 q5 p0 p1 p2 p3 p4 p5;obtain ⟨bb,hbb2⟩:∃b,decide ((⟨x0,x1,x2,x3,x4,x5⟩:Ac)=⟨y0,y1,y2,y3,y4,y5⟩)=b:=⟨_,rfl⟩;have hne2:=fun W=>neA W x0 x1 x2 x3 x4 x5 y0 y1 y2 y3 y4 y5
    rw [hbb2] at hne2;have HBB:=Za hbb2;clear hne hx hy hab hbb hbb2 hw
    cases bb with
    | true =>
     simp only [Bool.not_true] at hne2;go_wp2_with fail;go_quiet (fail);go_wp2_with fail;go_roundw
     case rel =>
      refine ⟨i+1,by go_num,by omega,Zc HW.out _,Za (fun j x y hj h1 h2=>?_)⟩;rcases Nat.lt_succ_iff_lt_or_eq.1 hj with h9 | h9
      · exact HE.out j x y h9 h1 h2
      · subst h9;rw [HX.out] at h1;rw [HY.out] at h2;rw [←Option.some.inj h1,←Option.some.inj h2];exact of_decide_eq_true HBB.out
     case measure=>simp [intOf];omega
    | false =>
     simp only [Bool.not_false] at hne2
     have HF:=Za (show decide (l=m)=false by
      rw [decide_eq_false_iff_not];rintro rfl;have h9:=Option.some.inj (HX.out.symm.trans HY.out);rw [h9] at HBB;have:=HBB.out
      simp at this)
     go_wp2_with fail;go_quiet (fail);go_wp2_with fail;go_ret;exact ⟨by rw [HF.out];first | done | rfl,Zc HW.out _⟩
  · have hltI:¬(i:Int)<(N:Int):=by omega
    have HT:=Za (show decide (l=m)=true by
     rw [decide_eq_true_eq];apply List.ext_getElem?;intro j
     by_cases hj:j<N
     · obtain ⟨x,hx⟩:∃x,l[j]? = some x:=⟨_,ge_ (by rw [HN.out];exact hj)⟩;obtain ⟨y,hy⟩:∃y,m[j]? = some y:=⟨_,ge_ (by rw [HM.out];exact hj)⟩;rw [hx,hy,HE.out j x y (by omega) hx hy]
     · rw [List.getElem?_eq_none (by rw [HN.out];omega),List.getElem?_eq_none (by rw [HM.out];omega)])
    clear hw;go_wp2_with fail;go_ret;exact ⟨by rw [HT.out];first | done | rfl,HW.out⟩
def Zea (a b:Int):Int:=if b=0 then 0 else if a.tmod b≠0∧(decide (a<0) != decide (b<0))=true then a.tdiv b - 1 else a.tdiv b
theorem Zne (w:World) (a b:Int) (ha:-1073741824≤a∧a≤1073741824):Calls Try.prog 171 #[.int .i64 a,.int .i64 b] w fun en w'=>en=.returned (.int .i64 (Zea a b))∧w'=w:=by
 have hab:=Int.natAbs_tdiv_le_natAbs a b;have hq1:=IntWalk.i64_in (a.tdiv b) (by omega);have hq2:=IntWalk.i64_in (a.tdiv b - 1) (by omega);clear hab;go_enter Try.func171,Try.ntmps171
 by_cases hb:b=0
 · have hbb:(b == 0)=true:=by simp [hb]
   go_wp2_with fail;go_ret;exact ⟨by simp [Zea,hb],rfl⟩
 · have hbb:(b == 0)=false:=by simp [hb]
   by_cases hr:a.tmod b=0
   · have hrb:(a.tmod b != 0)=false:=by simp [hr]
     go_wp2_with fail;go_ret;exact ⟨by simp [Zea,hb,hr],rfl⟩
   · have hrb:(a.tmod b != 0)=true:=by simp [hr]
     by_cases h1:a<0
     · by_cases h2:b<0
       all_goals
        go_wp2_with fail;go_ret;exact ⟨by simp [Zea,hb,hr,h1,h2],rfl⟩
     · have he:=Int.tmod_eq_emod_of_nonneg (show 0≤a by omega) (b:=b);have hre:¬a % b=0:=by rw [←he];exact hr
       have hreb:(a % b != 0)=true:=by simp [hre]
       clear he
       by_cases h2:b<0
       all_goals
        go_wp2_with fail;go_ret;refine ⟨?_,rfl⟩;simp [Zea,hb,hr,h1,h2,hre]
        try omega
def Zac (k a b:Int):Ac :=
 if k=28 then numRw (-a) else if k=26 then numRw (min a b) else if k=27 then numRw (max a b) else if k=30 then numRw (ZaA (a*b))
 else if k=31 then numRw (Zea a b) else if k=32 then numRw (ZaA (a+b)) else if k=33 then numRw (ZaA (a - b)) else if k=29 then ⟨20,1 - a,0,0,0,0⟩ else if k=34 then ZaD (decide (a=b))
 else if k=35 then ZaD (decide (a<b)) else if k=36 then ZaD (decide (a≤b)) else numRw 0
theorem Zkj (w:World) (k a b:Int) (ha:-1073741824≤a∧a≤1073741824) (hb:-1073741824≤b∧b≤1073741824) (hk:Zbs k=true):Calls Try.prog 130 #[.int .i64 k,.int .i64 a,.int .i64 b] w fun en w'=>en=.returned (Zac k a b).val∧Below w.heap.size w w':=by
 have HRES:=Za (show Try.f130.results=#[.cell 6 49] by rfl);have HC:=fun (W:World) (n:Int)=>Za (Zlf W n)
 have HD:=fun (W:World)=>Za (Zne W a b ha)
 have HT:=fun (W:World) (q:Bool)=>Za (ZgV W q)
 have hm:=Zer ha hb;have w1:=IntWalk.i64_in (-a) (by omega);have w2:=IntWalk.i64_in (a*b) (by omega);have w3:=IntWalk.i64_in (a+b) (by omega);have w4:=IntWalk.i64_in (a - b) (by omega);have w5:=IntWalk.i64_in (1 - a) (by omega);have HB:=Za ((Below.refl w.heap.size w).alloc lr_ (.cells #[.int .i64 0,.int .i64 0,.int .i64 0,.int .i64 0,.int .i64 0,.int .i64 0] 49))
 have hkk:k=28∨k=26∨k=27∨k=30∨k=31∨k=32∨k=33∨k=34∨k=35∨k=36∨k=29:=by
  unfold Zbs at hk;simpa using hk
 clear hk hm ha hb;go_enter Try.func130,Try.ntmps130;rcases hkk with rfl | rfl | rfl | rfl | rfl | rfl | rfl | rfl | rfl | rfl | rfl
 · go_wp2_with (first | (go_at_call 170;refine (HC _ _).out.mono ?_;rintro en w1 ⟨rfl,h8⟩;have h7:=h8.symm;clear h8;subst h7) | (go_at_call 171;refine (HD _).out.mono ?_;rintro en w1 ⟨rfl,h8⟩;have h7:=h8.symm;clear h8;subst h7) | (go_at_call 131;refine (HT _ _).out.mono ?_;rintro en w1 ⟨rfl,h8⟩;have h7:=h8.symm;clear h8;subst h7));refine bodyPost_ret (v:=.agg #[.int .i64 19,.int .i64 (-a),.int .i64 0,.int .i64 0,.int .i64 0,.int .i64 0]) ?_ rfl ⟨?_,?_⟩
   · simp only [results,HRES.out];go_simp
   · simp [Zac,Ac.val,numRw,ZaD]
   · exact (Below.refl _ w).alloc lr_ _
 · by_cases hq:b<a
   · go_wp2_with (first | (go_at_call 170;refine (HC _ _).out.mono ?_;rintro en w1 ⟨rfl,h8⟩;have h7:=h8.symm;clear h8;subst h7) | (go_at_call 171;refine (HD _).out.mono ?_;rintro en w1 ⟨rfl,h8⟩;have h7:=h8.symm;clear h8;subst h7) | (go_at_call 131;refine (HT _ _).out.mono ?_;rintro en w1 ⟨rfl,h8⟩;have h7:=h8.symm;clear h8;subst h7));refine bodyPost_ret (v:=.agg #[.int .i64 19,.int .i64 (b),.int .i64 0,.int .i64 0,.int .i64 0,.int .i64 0]) ?_ rfl ⟨?_,?_⟩
     · simp only [results,HRES.out];go_simp
     · simp [Zac,Ac.val,numRw,ZaD,show min a b=b by omega]
     · exact (Below.refl _ w).alloc lr_ _
   · go_wp2_with (first | (go_at_call 170;refine (HC _ _).out.mono ?_;rintro en w1 ⟨rfl,h8⟩;have h7:=h8.symm;clear h8;subst h7) | (go_at_call 171;refine (HD _).out.mono ?_;rintro en w1 ⟨rfl,h8⟩;have h7:=h8.symm;clear h8;subst h7) | (go_at_call 131;refine (HT _ _).out.mono ?_;rintro en w1 ⟨rfl,h8⟩;have h7:=h8.symm;clear h8;subst h7));refine bodyPost_ret (v:=.agg #[.int .i64 19,.int .i64 (a),.int .i64 0,.int .i64 0,.int .i64 0,.int .i64 0]) ?_ rfl ⟨?_,?_⟩
     · simp only [results,HRES.out];go_simp
     · simp [Zac,Ac.val,numRw,ZaD,show min a b=a by omega]
     · exact (Below.refl _ w).alloc lr_ _
 · by_cases hq:a<b
   · go_wp2_with (first | (go_at_call 170;refine (HC _ _).out.mono ?_;rintro en w1 ⟨rfl,h8⟩;have h7:=h8.symm;clear h8;subst h7) | (go_at_call 171;refine (HD _).out.mono ?_;rintro en w1 ⟨rfl,h8⟩;have h7:=h8.symm;clear h8;subst h7) | (go_at_call 131;refine (HT _ _).out.mono ?_;rintro en w1 ⟨rfl,h8⟩;have h7:=h8.symm;clear h8;subst h7));refine bodyPost_ret (v:=.agg #[.int .i64 19,.int .i64 (b),.int .i64 0,.int .i64 0,.int .i64 0,.int .i64 0]) ?_ rfl ⟨?_,?_⟩
     · simp only [results,HRES.out];go_simp
     · simp [Zac,Ac.val,numRw,ZaD,show max a b=b by omega]
     · exact (Below.refl _ w).alloc lr_ _
   · go_wp2_with (first | (go_at_call 170;refine (HC _ _).out.mono ?_;rintro en w1 ⟨rfl,h8⟩;have h7:=h8.symm;clear h8;subst h7) | (go_at_call 171;refine (HD _).out.mono ?_;rintro en w1 ⟨rfl,h8⟩;have h7:=h8.symm;clear h8;subst h7) | (go_at_call 131;refine (HT _ _).out.mono ?_;rintro en w1 ⟨rfl,h8⟩;have h7:=h8.symm;clear h8;subst h7));refine bodyPost_ret (v:=.agg #[.int .i64 19,.int .i64 (a),.int .i64 0,.int .i64 0,.int .i64 0,.int .i64 0]) ?_ rfl ⟨?_,?_⟩
     · simp only [results,HRES.out];go_simp
     · simp [Zac,Ac.val,numRw,ZaD,show max a b=a by omega]
     · exact (Below.refl _ w).alloc lr_ _
 · go_wp2_with (first | (go_at_call 170;refine (HC _ _).out.mono ?_;rintro en w1 ⟨rfl,h8⟩;have h7:=h8.symm;clear h8;subst h7) | (go_at_call 171;refine (HD _).out.mono ?_;rintro en w1 ⟨rfl,h8⟩;have h7:=h8.symm;clear h8;subst h7) | (go_at_call 131;refine (HT _ _).out.mono ?_;rintro en w1 ⟨rfl,h8⟩;have h7:=h8.symm;clear h8;subst h7));refine bodyPost_ret (v:=.agg #[.int .i64 19,.int .i64 (ZaA (a*b)),.int .i64 0,.int .i64 0,.int .i64 0,.int .i64 0]) ?_ rfl ⟨?_,?_⟩
   · simp only [results,HRES.out];go_simp
   · simp [Zac,Ac.val,numRw,ZaD]
   · exact (Below.refl _ w).alloc lr_ _
 · go_wp2_with (first | (go_at_call 170;refine (HC _ _).out.mono ?_;rintro en w1 ⟨rfl,h8⟩;have h7:=h8.symm;clear h8;subst h7) | (go_at_call 171;refine (HD _).out.mono ?_;rintro en w1 ⟨rfl,h8⟩;have h7:=h8.symm;clear h8;subst h7) | (go_at_call 131;refine (HT _ _).out.mono ?_;rintro en w1 ⟨rfl,h8⟩;have h7:=h8.symm;clear h8;subst h7));refine bodyPost_ret (v:=.agg #[.int .i64 19,.int .i64 (Zea a b),.int .i64 0,.int .i64 0,.int .i64 0,.int .i64 0]) ?_ rfl ⟨?_,?_⟩
   · simp only [results,HRES.out];go_simp
   · simp [Zac,Ac.val,numRw,ZaD]
   · exact (Below.refl _ w).alloc lr_ _
 · go_wp2_with (first | (go_at_call 170;refine (HC _ _).out.mono ?_;rintro en w1 ⟨rfl,h8⟩;have h7:=h8.symm;clear h8;subst h7) | (go_at_call 171;refine (HD _).out.mono ?_;rintro en w1 ⟨rfl,h8⟩;have h7:=h8.symm;clear h8;subst h7) | (go_at_call 131;refine (HT _ _).out.mono ?_;rintro en w1 ⟨rfl,h8⟩;have h7:=h8.symm;clear h8;subst h7));refine bodyPost_ret (v:=.agg #[.int .i64 19,.int .i64 (ZaA (a+b)),.int .i64 0,.int .i64 0,.int .i64 0,.int .i64 0]) ?_ rfl ⟨?_,?_⟩
   · simp only [results,HRES.out];go_simp
   · simp [Zac,Ac.val,numRw,ZaD]
   · exact (Below.refl _ w).alloc lr_ _
 · go_wp2_with (first | (go_at_call 170;refine (HC _ _).out.mono ?_;rintro en w1 ⟨rfl,h8⟩;have h7:=h8.symm;clear h8;subst h7) | (go_at_call 171;refine (HD _).out.mono ?_;rintro en w1 ⟨rfl,h8⟩;have h7:=h8.symm;clear h8;subst h7) | (go_at_call 131;refine (HT _ _).out.mono ?_;rintro en w1 ⟨rfl,h8⟩;have h7:=h8.symm;clear h8;subst h7));refine bodyPost_ret (v:=.agg #[.int .i64 19,.int .i64 (ZaA (a - b)),.int .i64 0,.int .i64 0,.int .i64 0,.int .i64 0]) ?_ rfl ⟨?_,?_⟩
   · simp only [results,HRES.out];go_simp
   · simp [Zac,Ac.val,numRw,ZaD]
   · exact (Below.refl _ w).alloc lr_ _
 · by_cases hq:a=b
   · have hqb:(a == b)=true:=by simp [hq]
     have HQ:=Za hq;clear hq;go_wp2_with (first | (go_at_call 170;refine (HC _ _).out.mono ?_;rintro en w1 ⟨rfl,h8⟩;have h7:=h8.symm;clear h8;subst h7) | (go_at_call 171;refine (HD _).out.mono ?_;rintro en w1 ⟨rfl,h8⟩;have h7:=h8.symm;clear h8;subst h7) | (go_at_call 131;refine (HT _ _).out.mono ?_;rintro en w1 ⟨rfl,h8⟩;have h7:=h8.symm;clear h8;subst h7));refine bodyPost_ret (v:=.agg #[.int .i64 20,.int .i64 (1),.int .i64 0,.int .i64 0,.int .i64 0,.int .i64 0]) ?_ rfl ⟨?_,?_⟩
     · simp only [results,HRES.out];go_simp
     · simp [Zac,Ac.val,numRw,ZaD,HQ.out]
     · exact (Below.refl _ w).alloc lr_ _
   · have hqb:(a == b)=false:=by simp [hq]
     have HQ:=Za hq;clear hq;go_wp2_with (first | (go_at_call 170;refine (HC _ _).out.mono ?_;rintro en w1 ⟨rfl,h8⟩;have h7:=h8.symm;clear h8;subst h7) | (go_at_call 171;refine (HD _).out.mono ?_;rintro en w1 ⟨rfl,h8⟩;have h7:=h8.symm;clear h8;subst h7) | (go_at_call 131;refine (HT _ _).out.mono ?_;rintro en w1 ⟨rfl,h8⟩;have h7:=h8.symm;clear h8;subst h7));refine bodyPost_ret (v:=.agg #[.int .i64 20,.int .i64 (0),.int .i64 0,.int .i64 0,.int .i64 0,.int .i64 0]) ?_ rfl ⟨?_,?_⟩
     · simp only [results,HRES.out];go_simp
     · simp [Zac,Ac.val,numRw,ZaD,HQ.out]
     · exact (Below.refl _ w).alloc lr_ _
 · by_cases hq:a<b
   · go_wp2_with (first | (go_at_call 170;refine (HC _ _).out.mono ?_;rintro en w1 ⟨rfl,h8⟩;have h7:=h8.symm;clear h8;subst h7) | (go_at_call 171;refine (HD _).out.mono ?_;rintro en w1 ⟨rfl,h8⟩;have h7:=h8.symm;clear h8;subst h7) | (go_at_call 131;refine (HT _ _).out.mono ?_;rintro en w1 ⟨rfl,h8⟩;have h7:=h8.symm;clear h8;subst h7));refine bodyPost_ret (v:=.agg #[.int .i64 20,.int .i64 (1),.int .i64 0,.int .i64 0,.int .i64 0,.int .i64 0]) ?_ rfl ⟨?_,?_⟩
     · simp only [results,HRES.out];go_simp
     · simp [Zac,Ac.val,numRw,ZaD,hq]
     · exact (Below.refl _ w).alloc lr_ _
   · go_wp2_with (first | (go_at_call 170;refine (HC _ _).out.mono ?_;rintro en w1 ⟨rfl,h8⟩;have h7:=h8.symm;clear h8;subst h7) | (go_at_call 171;refine (HD _).out.mono ?_;rintro en w1 ⟨rfl,h8⟩;have h7:=h8.symm;clear h8;subst h7) | (go_at_call 131;refine (HT _ _).out.mono ?_;rintro en w1 ⟨rfl,h8⟩;have h7:=h8.symm;clear h8;subst h7));refine bodyPost_ret (v:=.agg #[.int .i64 20,.int .i64 (0),.int .i64 0,.int .i64 0,.int .i64 0,.int .i64 0]) ?_ rfl ⟨?_,?_⟩
     · simp only [results,HRES.out];go_simp
     · simp [Zac,Ac.val,numRw,ZaD,hq]
     · exact (Below.refl _ w).alloc lr_ _
 · by_cases hq:a≤b
   · go_wp2_with (first | (go_at_call 170;refine (HC _ _).out.mono ?_;rintro en w1 ⟨rfl,h8⟩;have h7:=h8.symm;clear h8;subst h7) | (go_at_call 171;refine (HD _).out.mono ?_;rintro en w1 ⟨rfl,h8⟩;have h7:=h8.symm;clear h8;subst h7) | (go_at_call 131;refine (HT _ _).out.mono ?_;rintro en w1 ⟨rfl,h8⟩;have h7:=h8.symm;clear h8;subst h7));refine bodyPost_ret (v:=.agg #[.int .i64 20,.int .i64 (1),.int .i64 0,.int .i64 0,.int .i64 0,.int .i64 0]) ?_ rfl ⟨?_,?_⟩
     · simp only [results,HRES.out];go_simp
     · simp [Zac,Ac.val,numRw,ZaD,hq]
     · exact (Below.refl _ w).alloc lr_ _
   · go_wp2_with (first | (go_at_call 170;refine (HC _ _).out.mono ?_;rintro en w1 ⟨rfl,h8⟩;have h7:=h8.symm;clear h8;subst h7) | (go_at_call 171;refine (HD _).out.mono ?_;rintro en w1 ⟨rfl,h8⟩;have h7:=h8.symm;clear h8;subst h7) | (go_at_call 131;refine (HT _ _).out.mono ?_;rintro en w1 ⟨rfl,h8⟩;have h7:=h8.symm;clear h8;subst h7));refine bodyPost_ret (v:=.agg #[.int .i64 20,.int .i64 (0),.int .i64 0,.int .i64 0,.int .i64 0,.int .i64 0]) ?_ rfl ⟨?_,?_⟩
     · simp only [results,HRES.out];go_simp
     · simp [Zac,Ac.val,numRw,ZaD,hq]
     · exact (Below.refl _ w).alloc lr_ _
 · go_wp2_with (first | (go_at_call 170;refine (HC _ _).out.mono ?_;rintro en w1 ⟨rfl,h8⟩;have h7:=h8.symm;clear h8;subst h7) | (go_at_call 171;refine (HD _).out.mono ?_;rintro en w1 ⟨rfl,h8⟩;have h7:=h8.symm;clear h8;subst h7) | (go_at_call 131;refine (HT _ _).out.mono ?_;rintro en w1 ⟨rfl,h8⟩;have h7:=h8.symm;clear h8;subst h7));refine bodyPost_ret (v:=.agg #[.int .i64 20,.int .i64 (1 - a),.int .i64 0,.int .i64 0,.int .i64 0,.int .i64 0]) ?_ rfl ⟨?_,?_⟩
   · simp only [results,HRES.out];go_simp
   · simp [Zac,Ac.val,numRw,ZaD]
   · exact (Below.refl _ w).alloc lr_ _
theorem ZbH {ops:Array Oper} {rest:List Oper} {o:Oper} {a:Act} {Q:Exit→Act→World→Prop} {w:World} (hgd:o.guard=none) (s x:Operand) (ho:o.op=.call { callee:=.builtin .append,args:=#[s,x],argTypes:=#[26,26] })
 {B n m c:Nat} {v:Value} {oa:Option Addr} {l1 l2:List Ac} (hs:a.eval s=v) (hown:w.ownsRow B 49 6 v n (acs l1)) (hx:a.eval x=.slice oa m c) (hm:l2.length=m) (hsrc:Src w oa l2.length (acs l2)) (hb:n+m≤400000) (hB:B≤w.heap.size)
 (h:∀v' w',w'.ownsRow B 49 6 v' (n+m) (acs (l1++l2))→Below B w w'→wpList Try.prog ops Q rest (a.put o.dst v') w'):wpList Try.prog ops Q (o::rest) a w:=by
 obtain ⟨i3,hi3,hz0,hz1,hz2⟩:=ZD Zfh;subst hm
 cases oa with
 | none =>
  have h0:l2=[]:=by
   rcases Nat.eq_zero_or_pos l2.length with h0 | h0
   · exact List.eq_nil_of_length_eq_zero h0
   · obtain ⟨ad2,e2,_⟩:=hsrc h0
     cases e2
  subst h0;exact Lib.wpList_append_run w hgd s x _ _ ho v _ hs hx v w (Zdo (w:=w) B o.type i3 hi3 v n c (acs l1) hown) (h v w (by simpa using hown) br_)
 | some ad =>
  refine wpList_append_own_at _ hgd s x 26 ho B 49 i3 _ 6 48 Try.underlying26 hi3 hz0 hz1 hz2 rfl (by decide) v n (acs l1) hs hown ad l2.length c (acs l2) hx (Z5 l2) (fun j u hj=>by
   have hjl:=(gs_ hj).1;rw [Z5] at hjl;obtain ⟨ad3,e3,_,hx3⟩:=hsrc (by omega)
   cases e3
   exact hx3 j u hj) (Zdm l2) (by unfold maxLen;omega) (by omega) hB ?_
  intro v' w' hown' hgr' _ _;exact h v' w' (by rw [Zch];exact hown') (Zad hgr' (fun g hg=>(hown.lt g hg).1) hB)
theorem ZfZ {w:World} {B n:Nat} {t:TypeId} {v:Value} {l l':List Ac} (h:w.ownsRow B t 6 v n (acs l)) (e:l=l'):w.ownsRow B t 6 v l'.length (acs l'):=by
 subst e;have hl:l.length=n:=by have:=h.1;rw [Z5] at this;omega
 rw [hl];exact h
def Za5 (l:List Ac) (frm to_:Nat) (r:List Ac):List Ac:=l.take frm++r++l.drop to_
def ZI (l:List Ac) (frm to_:Nat) (r:List Ac) (d:Int):List Ac :=
 match upL l frm frm with
 | none=>Za5 l frm to_ r
 | some p=>(Za5 l frm to_ r).modify p (Zb3 d)
theorem Zi9 {l:List Ac} {i:Nat}:∀(j:Nat) {p:Nat},upL l i j=some p→p<j
 | 0,p,h=>by cases h
 | j+1,p,h=>by
  unfold upL at h;split at h
  · injection h with h;omega
  · have:=Zi9 j h;omega
theorem Zcu (w:World) (ad:Addr) (c ge:Nat) (l:List Ac) (i e:Nat) (oi:Option Addr) (ni ci:Nat) (r:List Ac) (had now:Int) (h:Rs w ad c ge l) (hi:i<l.length) (he:i<e∧e≤l.length) (hl:l.length≤131072) (hs:ZE l) (hn:r.length=ni) (hr:Src w oi r.length (acs r)) (hrl:r.length≤131076) (hd:0≤had∧had≤200000∧0≤now∧now≤200000) :
 Calls Try.prog 94 #[rsv ad l.length c ge,.int .i64 (i:Int),.int .i64 (e:Int),.slice oi ni ci,.int .i64 had,.int .i64 now] w fun en w'=>∃u,en=.returned u∧w'.ownsRow w.heap.size 49 6 u (ZI l i e r (now - had)).length (acs (ZI l i e r (now - had)))∧Below w.heap.size w w':=by
 have hc:=h.r.n;have hcm:=h.r.m;have hgl:=h.e.lt;obtain ⟨N,hN⟩:∃n,l.length=n:=⟨_,rfl⟩;have HB:=Za ((Below.refl w.heap.size w).alloc lr_ (.cells #[.slice (some ad) N c,.slice (some ⟨ge,0,none⟩) N N] 97));have HX:=Za (Blk.new w 97 #[.slice (some ad) N c,.slice (some ⟨ge,0,none⟩) N N]);have HUP:=Za (fun (W:World) (hb:Below w.heap.size w W)=>Zlx W ad c ge l i (h.below hb) hi hl);have HTK:=Za (fun (W:World) (hb:Below w.heap.size w W)=>ZhX (h.below hb).r i (Nat.le_of_lt hi));have HDR:=Za (fun (W:World) (hb:Below w.heap.size w W)=>ZhY (h.below hb).r e he.2);have HRI:=Za (fun (W:World) (hb:Below w.heap.size w W)=>hr.below hb);unfold rsv at HUP ⊢;rw [hN] at HUP hc hi he hl;rw [hN];have HN:=Za hN;have HNI:=Za hn;have HSM:=Za hs;have h1:(0:Int)≤(i:Int):=by omega
 have h2:(i:Int)≤(c:Int):=by omega
 have h3:(0:Int)≤(e:Int):=by omega
 have h4:(e:Int)≤(N:Int):=by omega
 have h5:(N:Int)≤(c:Int):=by omega
 have HBD:=Za (show r.length≤131076 from hrl);obtain ⟨AD,hAD⟩:∃A,(if c=e then ad else ad.add (e*6))=A:=⟨_,rfl⟩;have HAD:=Za hAD;clear h hN hn hs hr hrl hAD;go_enter Try.func94,Try.ntmps94;go_upto_region 2 with fail;generalize w.alloc (.cells #[.slice (some ad) N c,.slice (some ⟨ge,0,none⟩) N N] 97)=W1 at HB HX ⊢;obtain ⟨gb,hgb⟩:∃g,w.heap.size=g:=⟨_,rfl⟩;have hgx:=HX.out.lt;rw [hgb] at HX hgx;simp only [hgb];have x0:W1.cell? ⟨gb,0,none⟩=some (.slice (some ad) N c):=HX.out.cell 0;have HG:=Za hgb;rw [hgb] at HB;clear hgb;have HO0:=Za (World.ownsRow_nil W1 W1.heap.size 49 6);obtain ⟨B,hB⟩:∃b,W1.heap.size=b:=⟨_,rfl⟩;rw [hB] at HO0;have hgB:gb<B:=by rw [←hB];exact hgx
 have HBW:=Za (show ∀W,Below B W1 W→Below w.heap.size w W∧W.cell? ⟨gb,0,none⟩=some (.slice (some ad) N c)∧W.cell? ⟨gb,1,none⟩=some (.slice (some ⟨ge,0,none⟩) N N)∧B≤W.heap.size from fun W hb=>⟨by rw [HG.out];exact HB.out.trans (hb.mono (Nat.le_of_lt hgB)),(hb.cell (p:=⟨gb,0,none⟩) hgB).trans x0,(hb.cell (p:=⟨gb,1,none⟩) hgB).trans (HX.out.cell 1),by rw [←hB];exact hb.size⟩);have ht:=HTK.out W1 (HBW.out W1 br_).1;have HT1:=Za ht.1;have HL1:=Za (show (l.take i).length=i by rw [List.length_take,HN.out];omega);have HZ:=Za hB;clear ht hB;go_upto_region 3 with (at_builtin;refine ZbH rfl (.tmp 15) (.tmp 19) rfl rfl (l1:=[]) HO0.out rfl HL1.out HT1.out (by omega) (by have:=HZ.out;omega) ?_;intro v2 w2 ho2 hb2;have HO2:=Za ho2;have HB2:=Za hb2;clear ho2 hb2);obtain ⟨hw2,y0,y1,hz2⟩:=HBW.out w2 HB2.out;have HR2:=Za (HRI.out w2 hw2);clear x0 hw2;go_upto_region 4 with (at_builtin;refine ZbH rfl (.tmp 21) (.tmp 22) rfl rfl HO2.out rfl HNI.out HR2.out (by have:=HBD.out;have:=HNI.out;omega) hz2 ?_;intro v3 w3 ho3 hb3;have HO3:=Za ho3;have HB3:=Za (HB2.out.trans hb3);clear ho3 hb3);clear y0 y1 hz2;obtain ⟨hw3,y0,y1,hz3⟩:=HBW.out w3 HB3.out;have hdr:=HDR.out w3 hw3;rw [HAD.out] at hdr;have HD3:=Za hdr.1;have HLD:=Za (show (l.drop e).length=N - e by rw [List.length_drop,HN.out]);clear hdr hw3
 have hcc:(AD=ad∧c=e∧N=e)∨(AD=ad.add (e*6)∧¬c=e):=by
  by_cases hct:c=e
  · exact .inl ⟨by rw [←HAD.out];simp [hct],hct,by omega⟩
  · exact .inr ⟨by rw [←HAD.out];simp [hct],hct⟩
 go_cut [13] (fun t13 W=>W.ownsRow B 49 6 t13 (Za5 l i e r).length (acs (Za5 l i e r))∧Below B W1 W)
 case first =>
  have HNL:=Za hl;rcases hcc with ⟨hA,hc1,hn1⟩ | ⟨hA,hct⟩
  · have HLD0:=Za (show (l.drop e).length=0 by rw [HLD.out];omega);subst hA hc1 hn1;go_wp2_with (at_builtin;refine ZbH rfl (.tmp 24) (.tmp 28) rfl rfl HO3.out rfl HLD0.out HD3.out (by have:=HBD.out;have:=HNI.out;have:=HNL.out;omega) hz3 ?_;intro v4 w4 ho4 hb4;have HO4:=Za ho4;have HB4:=Za (HB3.out.trans hb4);clear ho4 hb4);go_meet
    case rel=>exact ⟨ZfZ HO4.out (by simp [Za5]),HB4.out⟩
  · subst hA;go_wp2_with (at_builtin;refine ZbH rfl (.tmp 24) (.tmp 28) rfl rfl HO3.out rfl HLD.out HD3.out (by have:=HBD.out;have:=HNI.out;have:=HNL.out;omega) hz3 ?_;intro v4 w4 ho4 hb4;have HO4:=Za ho4;have HB4:=Za (HB3.out.trans hb4);clear ho4 hb4);go_meet
    case rel=>exact ⟨ZfZ HO4.out (by simp [Za5]),HB4.out⟩
 case rest =>
  obtain ⟨ho4,hb4⟩:=hcut;have HO4:=Za ho4;have HB4:=Za hb4;obtain ⟨hw4,z0,z1,hz4⟩:=HBW.out wc hb4;have HU:=Za (HUP.out wc hw4);have HW4:=Za hw4;clear ho4 hb4 y0 y1 hz3 hcc HO0 HO2 HO3 HB2 HB3 HD3 HLD HR2 HT1 HL1 hw4
  cases hup:upL l i i with
  | none =>
   rw [hup] at HU;have HV:=Za (show ZI l i e r (now - had)=Za5 l i e r by unfold ZI;rw [hup]);clear hup;go_wp2_with (go_at_call 93;with_reducible refine HU.out.mono ?_;rintro en w5 ⟨rfl,hb5⟩;have HB5:=Za hb5;clear hb5);go_ret;exact ⟨_,rfl,by rw [HV.out];exact Zr (Zq HO4.out HB5.out lr_) (by rw [HG.out];omega),HW4.out.trans (HB5.out.mono HW4.out.size)⟩
  | some p =>
   rw [hup] at HU;have hu9:=HU.out;rw [show upI (some p)=(p:Int) from rfl] at hu9;clear HU;have HU:=Za hu9;clear hu9;have hplt:=Zi9 i hup;have HV:=Za (show ZI l i e r (now - had)=(Za5 l i e r).modify p (Zb3 (now - had)) by unfold ZI;rw [hup]);have HV9:=Za hup;clear hup;have hpl:p<(Za5 l i e r).length:=by unfold Za5;simp;have:=HN.out;omega
   have hpy:(Za5 l i e r)[p]? = l[p]?:=by
    unfold Za5;rw [List.append_assoc,List.getElem?_append_left (by rw [List.length_take];have:=HN.out;omega),List.getElem?_take,if_pos hplt]
   have hy:=Zar (show p<l.length by have:=HN.out;omega);have hyn:=HSM.out.2 _ (List.mem_of_getElem? hy);rw [hy] at hpy;obtain ⟨y,hyy⟩:∃y,rowL l p=y:=⟨_,rfl⟩;rw [hyy] at hpy hyn;have HPY:=Za hpy;have hw1:=IntWalk.i64_in (y.n+now) (by omega);have hw2:=IntWalk.i64_in (y.n+now - had) (by omega);have hp0:(0:Int)≤(p:Int):=by omega
   obtain ⟨go,co,hu4,hco,hcm4⟩:=Zas HO4.out (by omega);subst hu4;obtain ⟨NO,hNO⟩:∃n,(Za5 l i e r).length=n:=⟨_,rfl⟩;rw [hNO] at HO4 hpl;simp only [hNO];have hp1:(p:Int)<(NO:Int):=by omega
   have HNO:=Za hNO;clear hy hyy hpy hNO hco hcm4;go_upto_region 7 with (go_at_call 93;with_reducible refine HU.out.mono ?_;rintro en w5 ⟨rfl,hb5⟩;have HB5:=Za hb5;clear hb5);have HO5:=Za (Zq HO4.out HB5.out lr_);obtain ⟨adq,e9,hgo,_,_,_,_,_,q5⟩:=Zo (l:=Za5 l i e r) (by rw [HNO.out];exact Zaq HO5.out) HPY.out;injection e9 with e9;subst e9;rw [show ((⟨go,0,none⟩:Addr).add (p*6))=⟨go,p*6,none⟩ by cases p <;> simp [Addr.add]] at q5;have zf:=HO5.out.frozenAt (p*6+5);obtain ⟨hst,hgr⟩:=World.ownsRow.stored HO5.out (p*6+5) (.int .i64 (y.n+now - had));rw [show y.n+now - had=y.n+(now - had) by omega,Zfj _ _ _ _ HPY.out,←HV.out] at hst;have HST:=Za (ZfZ hst rfl);have hgB2:B≤go:=(HO5.out.lt go rfl).1;have HBF:=Za (Zg (p:=⟨go,p*6+5,none⟩) (u:=.int .i64 (y.n+(now - had))) (HW4.out.trans (HB5.out.mono HW4.out.size)) (by show w.heap.size≤go;rw [HG.out];omega));have HS9:=Za (show y.n+(now - had)=y.n+now - had by omega);rw [HS9.out] at HST HBF;clear hst hgr hgo;go_wp2_with fail;go_ret;exact ⟨_,rfl,Zr HST.out (by rw [HG.out];omega),HBF.out⟩
theorem Zbc {a w:World} {B:Nat} (h:Below B a w):Below B a w.drew:=Zc h 1
theorem ZdM (w:World) (ad:Addr) (c ge:Nat) (l:List Ac) (i:Nat) (oi:Option Addr) (ni ci:Nat) (r:List Ac) (h:Rs w ad c ge l) (hi:i<l.length) (he:i<endL l i∧endL l i≤l.length) (hl:l.length≤131072) (hs:ZE l) (hn:r.length=ni) (hr:Src w oi r.length (acs r)) (hrl:r.length≤131076) :
 Calls Try.prog 92 #[rsv ad l.length c ge,.int .i64 (i:Int),.slice oi ni ci] w fun en w'=>∃u,en=.returned u∧w'.ownsRow w.heap.size 49 6 u (ZI l i (endL l i) r (1 - 1)).length (acs (ZI l i (endL l i) r (1 - 1)))∧Below w.heap.size w w':=by
 have HRS:=Za h;obtain ⟨_,qe,hab⟩:=Zx h hi;have hc:=h.r.n;have hgl:=h.e.lt;obtain ⟨N,hN⟩:∃n,l.length=n:=⟨_,rfl⟩;obtain ⟨E,hE⟩:∃n,endL l i=n:=⟨_,rfl⟩;have HB:=Za ((Below.refl w.heap.size w).alloc lr_ (.cells #[.slice (some ad) N c,.slice (some ⟨ge,0,none⟩) N N] 97));have HX:=Za (Blk.new w 97 #[.slice (some ad) N c,.slice (some ⟨ge,0,none⟩) N N]);have HSW:=Za (fun (W:World) (hb:Below w.heap.size w W)=>(Zcu W ad c ge l i (endL l i) oi ni ci r 1 1 (h.below hb) hi he hl hs hn (hr.below hb) hrl (by omega)).mono (R':=fun en w'=>∃u,en=.returned u∧w'.ownsRow w.heap.size 49 6 u (ZI l i (endL l i) r (1 - 1)).length (acs (ZI l i (endL l i) r (1 - 1)))∧Below w.heap.size w w') (by rintro en w5 ⟨u,h1,h2,h3⟩;exact ⟨u,h1,Zr h2 hb.size,hb.trans (h3.mono hb.size)⟩));unfold rsv at HSW ⊢;rw [hE] at qe;rw [hE] at HSW ⊢;rw [hE] at he;rw [hN] at hc hi hl HSW;rw [hN];have h1:(0:Int)≤(i:Int):=by omega
 have h2:(i:Int)<(N:Int):=by omega
 obtain ⟨L,hL⟩:∃n,ZI l i E r (1 - 1)=n:=⟨_,rfl⟩;rw [hL];rw [hL] at HSW;clear h hN hE hL;go_enter Try.func92,Try.ntmps92;go_upto_region 1 with fail;go_region_with (go_at_call 94;with_reducible refine (HSW.out _ (Zbc HB.out)).mono ?_;rintro en w5 ⟨u5,rfl,ho5,hb5⟩;have HO5:=Za ho5;have HB5:=Za hb5;clear hb5 ho5)
 all_goals (go_wp2_with fail)
 all_goals go_ret
 all_goals exact ⟨_,rfl,HO5.out,HB5.out⟩
theorem Zl7 (w:World) (ad:Addr) (c ge:Nat) (l:List Ac) (i:Nat) (h:Rs w ad c ge l) (hi:i<l.length) (he:i<endL l i∧endL l i≤l.length) (hl:l.length≤131072) (hs:ZE l) :
 Calls Try.prog 90 #[rsv ad l.length c ge,.int .i64 (i:Int)] w fun en w'=>∃u,en=.returned u∧w'.ownsRow w.heap.size 49 6 u (ZI l i (endL l i) [] (0 - 1)).length (acs (ZI l i (endL l i) [] (0 - 1)))∧Below w.heap.size w w':=by
 have HRS:=Za h;obtain ⟨_,qe,hab⟩:=Zx h hi;have hc:=h.r.n;have hgl:=h.e.lt;obtain ⟨N,hN⟩:∃n,l.length=n:=⟨_,rfl⟩;obtain ⟨E,hE⟩:∃n,endL l i=n:=⟨_,rfl⟩;have HB:=Za ((Below.refl w.heap.size w).alloc lr_ (.cells #[.slice (some ad) N c,.slice (some ⟨ge,0,none⟩) N N] 97));have HX:=Za (Blk.new w 97 #[.slice (some ad) N c,.slice (some ⟨ge,0,none⟩) N N]);have HSW:=Za (fun (W:World) (hb:Below w.heap.size w W)=>(Zcu W ad c ge l i (endL l i) none 0 0 [] 1 0 (h.below hb) hi he hl hs rfl (fun h0=>absurd h0 (by simp)) (by simp) (by omega)).mono (R':=fun en w'=>∃u,en=.returned u∧w'.ownsRow w.heap.size 49 6 u (ZI l i (endL l i) [] (0 - 1)).length (acs (ZI l i (endL l i) [] (0 - 1)))∧Below w.heap.size w w') (by rintro en w5 ⟨u,h1,h2,h3⟩;exact ⟨u,h1,Zr h2 hb.size,hb.trans (h3.mono hb.size)⟩));unfold rsv at HSW ⊢;rw [hE] at qe;rw [hE] at HSW ⊢;rw [hE] at he;rw [hN] at hc hi hl HSW;rw [hN];have h1:(0:Int)≤(i:Int):=by omega
 have h2:(i:Int)<(N:Int):=by omega
 obtain ⟨L,hL⟩:∃n,ZI l i E [] (0 - 1)=n:=⟨_,rfl⟩;rw [hL];rw [hL] at HSW;clear h hN hE hL;go_enter Try.func90,Try.ntmps90;go_upto_region 1 with fail;go_region_with (go_at_call 94;with_reducible refine (HSW.out _ (Zbc HB.out)).mono ?_;rintro en w5 ⟨u5,rfl,ho5,hb5⟩;have HO5:=Za ho5;have HB5:=Za hb5;clear hb5 ho5)
 all_goals (go_wp2_with fail)
 all_goals go_ret
 all_goals exact ⟨_,rfl,HO5.out,HB5.out⟩
def Zbo (w w':World) (en:Ending):Option (Int×List Ac)→Prop
 | none=>en=.returned (.tuple #[.int .i64 0,.slice none 0 0])∧Below w.heap.size w w'
 | some (n,l')=>∃u,en=.returned (.tuple #[.int .i64 n,u])∧w'.ownsRow w.heap.size 49 6 u l'.length (acs l')∧Below w.heap.size w w'
def isW (l:List Ac) (i:Nat) (k a:Int):Bool:=decide ((rowL l i).k=k)&&decide ((rowL l i).a=a)
def Ze (l:List Ac) (i:Nat):List Ac:=sub l (i,endL l i)
def ZH (l:List Ac) (i:Nat) (r:List Ac):List Ac:=ZI l i (endL l i) r (1 - 1)
def Za0 (l:List Ac) (i:Nat):List Ac:=ZI l i (endL l i) [] (0 - 1)
def ZdX (l:List Ac) (i a b:Nat):Option (Int×List Ac) :=
 let k:=(rowL l i).k
 if (k=32∧isW l a 19 0=true)∨(k=30∧isW l a 19 1=true) then some (5,ZH l i (Ze l b))
 else if ((k=32∨k=33)∧isW l b 19 0=true)∨((k=30∨k=31)∧isW l b 19 1=true) then some (5,ZH l i (Ze l a))
 else if k=30∧((isW l a 19 0=true∧Zap l b (endL l b)=true)∨(isW l b 19 0=true∧Zap l a (endL l a)=true)) then some (6,ZH l i [numRw 0])
 else if k=34∧(rowL l a).k=20 then (if (rowL l a).a=1 then some (7,ZH l i (Ze l b)) else some (7,ZH l i (⟨29,0,0,0,0,1⟩::Ze l b)))
 else if k=34∧(rowL l b).k=20 then (if (rowL l b).a=1 then some (7,ZH l i (Ze l a)) else some (7,ZH l i (⟨29,0,0,0,0,1⟩::Ze l a)))
 else none
structure InBox (w:World) (gb:Nat) (u0 u1:Value) (W:World):Prop where
 b:Below w.heap.size w W
 x0:W.cell? ⟨gb,0,none⟩=some u0
 x1:W.cell? ⟨gb,1,none⟩=some u1
 lt:gb<W.heap.size
theorem InBox.below {w:World} {gb:Nat} {u0 u1:Value} {W W':World} (h:InBox w gb u0 u1 W) (hb:Below W.heap.size W W'):InBox w gb u0 u1 W' :=
 ⟨h.b.trans (hb.mono h.b.size),(hb.cell (p:=⟨gb,0,none⟩) h.lt).trans h.x0,(hb.cell (p:=⟨gb,1,none⟩) h.lt).trans h.x1,Nat.lt_of_lt_of_le h.lt hb.size⟩
theorem InBox.drew {w:World} {gb:Nat} {u0 u1:Value} {W:World} (h:InBox w gb u0 u1 W):InBox w gb u0 u1 W.drew:=h.below (Zbc br_)
theorem Zke (w:World) (ad:Addr) (c ge:Nat) (l:List Ac) (i:Nat) (h:Rs w ad c ge l) (hi:i<l.length) (he:i<endL l i∧endL l i≤l.length) (hl:l.length≤131072) {gb:Nat} {u0 u1:Value} (W:World) (hb:InBox w gb u0 u1 W) :
 Calls Try.prog 91 #[rsv ad l.length c ge,.int .i64 (i:Int)] W fun en w'=>en=.returned (.slice (some (ad.add (i*6))) (endL l i - i) (c - i))∧InBox w gb u0 u1 w' :=
 (Zez W ad c ge l i (h.below hb.1) hi he hl).mono fun en w' h1=>⟨h1.1,hb.below h1.2⟩
theorem ZgJ (w:World) (ad:Addr) (c ge:Nat) (l:List Ac) (i:Nat) (k a:Int) (h:Rs w ad c ge l) (hi:i<l.length) (hl:l.length≤131072) {t:Bool} (ht:isW l i k a=t) {gb:Nat} {u0 u1:Value} (W:World) (hb:InBox w gb u0 u1 W) :
 Calls Try.prog 87 #[rsv ad l.length c ge,.int .i64 (i:Int),.int .i64 k,.int .i64 a] W fun en w'=>en=.returned (.bool t)∧InBox w gb u0 u1 w' :=
 (ZlD W ad c ge l i k a (h.below hb.1) hi hl).mono fun en w' h1=>⟨by rw [h1.1,←ht];rfl,hb.below h1.2⟩
theorem ZeX (w:World) (ad:Addr) (c ge:Nat) (l:List Ac) (i:Nat) (h:Rs w ad c ge l) (hi:i<l.length) (he:i<endL l i∧endL l i≤l.length) (hl:l.length≤131072) {t:Bool} (ht:Zap l i (endL l i)=t) {gb:Nat} {u0 u1:Value} (W:World) (hb:InBox w gb u0 u1 W) :
 Calls Try.prog 88 #[rsv ad l.length c ge,.int .i64 (i:Int)] W fun en w'=>en=.returned (.bool t)∧InBox w gb u0 u1 w' :=
 (ZeY W ad c ge l i (h.below hb.1) hi ⟨Nat.le_of_lt he.1,he.2⟩ hl).mono fun en w' h1=>⟨by rw [h1.1,←ht],hb.below h1.2⟩
theorem Zjp (w:World) (ad:Addr) (c ge:Nat) (l:List Ac) (i:Nat) (oi:Option Addr) (ni ci:Nat) (r:List Ac) (h:Rs w ad c ge l) (hi:i<l.length) (he:i<endL l i∧endL l i≤l.length) (hl:l.length≤131072) (hs:ZE l) (hn:r.length=ni) (hrl:r.length≤131076) {gb:Nat} {u0 u1:Value} (W:World) (hb:InBox w gb u0 u1 W) (hr:Src W oi r.length (acs r)) :
 Calls Try.prog 92 #[rsv ad l.length c ge,.int .i64 (i:Int),.slice oi ni ci] W fun en w'=>∃u,en=.returned u∧w'.ownsRow w.heap.size 49 6 u (ZH l i r).length (acs (ZH l i r))∧Below w.heap.size w w' :=
 (ZdM W ad c ge l i oi ni ci r (h.below hb.1) hi he hl hs hn hr hrl).mono fun en w' h1=>by
  obtain ⟨u,e1,e2,e3⟩:=h1;exact ⟨u,e1,Zr e2 hb.1.size,hb.1.trans (e3.mono hb.1.size)⟩
theorem Zak {l:List Ac} {i:Nat} (he:i<endL l i∧endL l i≤l.length):(Ze l i).length=endL l i - i:=ZaE (r:=(i,endL l i)) he.2
theorem Zff (w:World) (ad:Addr) (c ge:Nat) (l:List Ac) (i b:Nat) (h:Rs w ad c ge l) (hi:i<l.length) (he:i<endL l i∧endL l i≤l.length) (hb1:b<l.length) (hbe:b<endL l b∧endL l b≤l.length) (hl:l.length≤131072) (hs:ZE l) {gb:Nat} {u0 u1:Value} (W:World) (hb:InBox w gb u0 u1 W) :
 Calls Try.prog 92 #[rsv ad l.length c ge,.int .i64 (i:Int),.slice (some (ad.add (b*6))) (endL l b - b) (c - b)] W fun en w'=>∃u,en=.returned u∧w'.ownsRow w.heap.size 49 6 u (ZH l i (Ze l b)).length (acs (ZH l i (Ze l b)))∧Below w.heap.size w w' :=
 Zjp w ad c ge l i _ _ _ _ h hi he hl hs (Zak hbe) (by rw [Zak hbe];omega) W hb (Zbe (r:=(b,endL l b)) ((h.below hb.1).r.s) (Nat.le_of_lt hbe.1) hbe.2)
theorem Zks {w:World} {g n:Nat} {t:TypeId} {xs ys:List Value} (h:Blk w g t (xs++ys).toArray):Src w (some ⟨g,0,none⟩) n xs:=fun _=>by
 refine ⟨_,rfl,h.lt,fun j v hj=>?_⟩;have hadd:(⟨g,0,none⟩:Addr).add j=⟨g,j,none⟩:=by unfold Addr.add;split <;> simp_all
 rw [hadd,h.cell,List.getElem?_toArray,List.getElem?_append_left (gs_ hj).1];exact hj
theorem ZgA {w:World} (ty:TypeId) {g k m c:Nat} {l1 l2:List Ac} {oa:Option Addr} (hg:Blk w g 49 (acs l1).toArray) (hn:l1.length=k) (hs:Src w oa l2.length (acs l2)) (hm:l2.length=m) (h0:0<m) (hl:k+m≤400000) :
 ∃cc w',(Builtin.append_ #[26,26] ty #[.slice (some ⟨g,0,none⟩) k k,.slice oa m c]).run Try.prog w=.ok (.slice (some ⟨w.heap.size,0,none⟩) (k+m) cc) w'∧Below w.heap.size w w'∧Src w' (some ⟨w.heap.size,0,none⟩) (l1++l2).length (acs (l1++l2)):=by
 obtain ⟨i3,hi3,hz0,hz1,hz2⟩:=ZD Zfh;obtain ⟨ad,rfl,hb,hx⟩:=hs (by omega)
 have hrun:=run_append_grow (P:=Try.prog) (w:=w) 26 ty 49 i3 _ Try.underlying26 hi3 hz0 ⟨g,0,none⟩ k k (acs l1) (by rw [Z5,hz1,hn]) (fun j v hj=>by
  have hadd:(⟨g,0,none⟩:Addr).add j=⟨g,j,none⟩:=by unfold Addr.add;split <;> simp_all
  rw [hadd,hg.cell]
  simpa using hj) ad m c (acs l2) (by rw [Z5,hz1,hm]) (fun j v hj=>hx j v hj) (by omega) (by omega) (by
   rw [hz2];have h9:=nextslicecap_le (need:=k+m) (old:=k) (by omega)
   omega)
 refine ⟨_,_,hrun,((Below.refl _ w).drew).alloc lr_ _,?_⟩
 have e9:(acs l1).toArray++(acs l2).toArray++Builtin.zeroCells (Value.agg #[.int .i64 0,.int .i64 0,.int .i64 0,.int .i64 0,.int .i64 0,.int .i64 0]).cells (grownCap w (k+m) k 49 - (k+m))=(acs (l1++l2)++(Builtin.zeroCells (Value.agg #[.int .i64 0,.int .i64 0,.int .i64 0,.int .i64 0,.int .i64 0,.int .i64 0]).cells (grownCap w (k+m) k 49 - (k+m))).toList).toArray:=by
  apply Array.ext';simp [Zch]
 have hnb:=Blk.new w.drew 49 ((acs l1).toArray++(acs l2).toArray++Builtin.zeroCells (Value.agg #[.int .i64 0,.int .i64 0,.int .i64 0,.int .i64 0,.int .i64 0,.int .i64 0]).cells (grownCap w (k+m) k 49 - (k+m)));have h8:=hnb;rw [e9] at h8;have h7:=Zks (n:=(l1++l2).length) h8;rw [←e9] at h7;exact h7
end Go.Proofs.Ytdpokdcendgfeaa
