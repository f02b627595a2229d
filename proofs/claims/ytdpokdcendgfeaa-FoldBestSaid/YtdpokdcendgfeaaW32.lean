/- Several texts in one: The walk of the reference's operands. The reference's checker in memory; the walk of want. Conditions: those of each. -/
import Derived.Test.YtdpokdcendgfeaaW28
import Derived.Test.YtdpokdcendgfeaaW14
set_option linter.unusedSimpArgs false
set_option linter.unusedVariables false
set_option maxHeartbeats 80000000
set_option maxRecDepth 100000
namespace Go.Proofs.Ytdpokdcendgfeaa
open Go.RowKit
structure Pm (w:World) (q:PlV) (P:Pl):Prop where
 gl:q.gl=P.gh.length
 vl:q.vl=P.vs.length
 tl:q.tl=P.ts.length
 gs:Src w q.ga P.gh.length (ZZ P.gh)
 l:P.gh.length≤maxLen∧P.vs.length≤maxLen∧P.ts.length≤maxLen
theorem Pm.below {w w':World} {q:PlV} {P:Pl} (h:Pm w q P) (hb:Below w.heap.size w w'):Pm w' q P:=⟨h.gl,h.vl,h.tl,h.gs.below hb,h.l⟩
theorem bA2 (w:World) (o o':Obj):Below w.heap.size w ((w.alloc o).alloc o'):=(bA w o).alloc (by simp) _
theorem bD2 (w:World) (o o':Obj) (n:Nat):Below w.heap.size w (((w.alloc o).alloc o').drewN n):=Zc (bA2 w o o') n
theorem ZiW (W:World) (y lo hi:Int):Calls Try.prog 79 #[.int .i64 y,.int .i64 lo,.int .i64 hi] W fun en w'=>en=.returned (.bool (Zp y lo hi))∧w'=W:=(Zcj W y lo hi).mono (fun en w' hh=>(⟨hh.1,hh.2.symm⟩:en=.returned (.bool (Zp y lo hi))∧w'=W))
theorem Zja (w:World) (q:PlV) (P:Pl) (x:Ac) (h:Pm w q P) (hx:x.k=3∨x.k=4∨x.k=21∨x.k=5∨x.k=25∨x.k=6∨x.k=9∨x.k=10∨x.k=18∨x.k=19∨x.k=20∨x.k=22∨x.k=24) :
 Calls Try.prog 124 #[q.val,x.val] w fun en w'=>en=.returned (.bool (opR P x))∧Below w.heap.size w w':=by
 obtain ⟨nv,hnv⟩:∃nv,opR P x=nv:=⟨_,rfl⟩;rw [hnv];have HNV:=Za hnv;clear hnv;obtain ⟨k,a,b,c,d,n⟩:=x;simp only at hx;obtain ⟨e1,e2,e3,hs,l1,l2,l3⟩:=h;obtain ⟨ga,va,ta,oa,ma,gl,gc,vl,vc,tl,tc,ol,oc,ml,mc⟩:=q;simp only at e1 e2 e3 hs;subst e1 e2 e3;have HF:=fun (W:World) (y lo hi:Int)=>Za (ZiW W y lo hi)
 unfold maxLen at l1 l2 l3;simp only [Ac.val,PlV.val];have u1:=IntWalk.i64_in ((P.gh.length:Int) - 1) (by omega);have u2:=IntWalk.i64_in ((P.vs.length:Int) - 1) (by omega);have u3:=IntWalk.i64_in ((P.ts.length:Int) - 1) (by omega);rcases hx with rfl | rfl | rfl | rfl | rfl | rfl | rfl | rfl | rfl | rfl | rfl | rfl | rfl
 all_goals
  go_enter Try.func124,Try.ntmps124;go_wp2_with (go_at_call 79;refine (HF _ _ _ _).out.mono ?_;rintro en w1 ⟨rfl,rfl⟩)
  all_goals
   go_ret;refine ⟨?_,?_⟩
   · rw [←HNV.out];congr 2;simp [opR, *]
     try (rw [Bool.eq_iff_iff];simp;done)
   · first | exact bA2 _ _ _ | exact bD2 _ _ _ _
theorem Zi9 (w:World) (q:PlV) (P:Pl) (x:Ac) (h:Pm w q P) (hx:x.k=7∨x.k=15∨x.k=16) :
 Calls Try.prog 124 #[q.val,x.val] w fun en w'=>en=.returned (.bool (opR P x))∧Below w.heap.size w w':=by
 obtain ⟨nv,hnv⟩:∃nv,opR P x=nv:=⟨_,rfl⟩;rw [hnv];have HNV:=Za hnv;clear hnv;obtain ⟨k,a,b,c,d,n⟩:=x;simp only at hx;obtain ⟨e1,e2,e3,hs,l1,l2,l3⟩:=h;obtain ⟨ga,va,ta,oa,ma,gl,gc,vl,vc,tl,tc,ol,oc,ml,mc⟩:=q;simp only at e1 e2 e3 hs;subst e1 e2 e3;have HF:=fun (W:World) (y lo hi:Int)=>Za (ZiW W y lo hi)
 unfold maxLen at l1 l2 l3;simp only [Ac.val,PlV.val];have u1:=IntWalk.i64_in ((P.gh.length:Int) - 1) (by omega);have u2:=IntWalk.i64_in ((P.vs.length:Int) - 1) (by omega);have u3:=IntWalk.i64_in ((P.ts.length:Int) - 1) (by omega);rcases hx with rfl | rfl | rfl
 all_goals
  cases hqa:Zp a 0 ((P.gh.length:Int) - 1) with
  | true =>
   have HFa:=fun (W:World)=>Za ((Zcj W a 0 ((P.gh.length:Int) - 1)).mono (fun en w' hh=>(⟨by rw [hh.1,hqa],hh.2.symm⟩:en=.returned (.bool true)∧w'=W)))
   obtain ⟨ada,eaa,hla,h0a,h1a,hca⟩:=Zb6 (a:=a) hs hqa;subst eaa;have hxa:∀y0 y1 y2 y3 y4 y5:Int,((w.alloc (.cells #[.slice (some ada) P.gh.length gc,.slice va P.vs.length vc,.slice ta P.ts.length tc,.slice oa ol oc,.slice ma ml mc] 28)).alloc (.cells #[.int .i64 y0,.int .i64 y1,.int .i64 y2,.int .i64 y3,.int .i64 y4,.int .i64 y5] 49)).cell? (ada.add a.toNat)=some (.bool (ghV P.gh a)):=fun y0 y1 y2 y3 y4 y5=>(World.cell?_alloc_lt _ _ _ (by rw [Zl];exact Nat.lt_of_lt_of_le hla (by simp))).trans ((World.cell?_alloc_lt _ _ _ (by rw [Zl];exact hla)).trans hca)
   clear hca;go_enter Try.func124,Try.ntmps124;go_wp2_with (go_at_call 79;first | (with_reducible refine (HFa _).out.mono ?_;rintro en w1 ⟨rfl,rfl⟩) | (refine (HF _ _ _ _).out.mono ?_;rintro en w1 ⟨rfl,rfl⟩))
   all_goals
    go_ret;refine ⟨?_,?_⟩
    · rw [←HNV.out];congr 2;simp [opR, *]
      try (rw [Bool.eq_iff_iff];simp;done)
    · first | exact bA2 _ _ _ | exact bD2 _ _ _ _
  | false =>
   have HFa:=fun (W:World)=>Za ((Zcj W a 0 ((P.gh.length:Int) - 1)).mono (fun en w' hh=>(⟨by rw [hh.1,hqa],hh.2.symm⟩:en=.returned (.bool false)∧w'=W)))
   go_enter Try.func124,Try.ntmps124;go_wp2_with (go_at_call 79;first | (with_reducible refine (HFa _).out.mono ?_;rintro en w1 ⟨rfl,rfl⟩) | (refine (HF _ _ _ _).out.mono ?_;rintro en w1 ⟨rfl,rfl⟩))
   all_goals
    go_ret;refine ⟨?_,?_⟩
    · rw [←HNV.out];congr 2;simp [opR, *]
      try (rw [Bool.eq_iff_iff];simp;done)
    · first | exact bA2 _ _ _ | exact bD2 _ _ _ _
def Za8 (l:List Ac) (m:Nat):List Int:=(List.range l.length).map fun j=>if m≤j then Zal l j else 0
theorem Zeq (l:List Ac) (m:Nat):(Za8 l m).length=l.length:=by simp [Za8]
theorem Zhh (l:List Ac):Za8 l l.length=List.replicate l.length 0:=by
 apply List.ext_getElem?;intro j;simp only [Za8,List.getElem?_map,List.getElem?_replicate]
 by_cases hj:j<l.length
 · rw [List.getElem?_range hj,if_pos hj,Option.map_some,if_neg (by omega)]
 · rw [List.getElem?_eq_none (by simp;omega),if_neg hj];rfl
theorem Zd2 {l:List Ac} {m j:Nat} (h1:m≤j) (h2:j<l.length):(Za8 l m)[j]? = some (Zal l j):=by
 simp only [Za8,List.getElem?_map,List.getElem?_range h2,Option.map_some,if_pos h1]
theorem Zcw {l:List Ac} {m j:Nat} (h1:j<m) (h2:j<l.length):(Za8 l m)[j]? = some 0:=by
 simp only [Za8,List.getElem?_map,List.getElem?_range h2,Option.map_some,if_neg (show ¬m≤j by omega)]
theorem ZfD {l:List Ac} {a:Nat} (h2:a<l.length):(Za8 l (a+1)).set a (Zal l a)=Za8 l a:=by
 apply List.ext_getElem?;intro j;rw [List.getElem?_set,Zeq]
 by_cases hj:a=j
 · subst hj;rw [if_pos rfl,if_pos h2,Zd2 lr_ h2]
 · rw [if_neg hj];simp only [Za8,List.getElem?_map]
   by_cases hl:j<l.length
   · rw [List.getElem?_range hl];simp only [Option.map_some]
     by_cases h:a≤j
     · rw [if_pos (by omega),if_pos h]
     · rw [if_neg (by omega),if_neg h]
   · rw [List.getElem?_eq_none (by simp;omega)];rfl
theorem Zid {l:List Ac} {a:Nat} (h2:a<l.length) (h:Zal l a=0):Za8 l (a+1)=Za8 l a:=by
 rw [←ZfD h2,h];apply List.ext_getElem?;intro j;rw [List.getElem?_set,Zeq]
 by_cases hj:a=j
 · subst hj;rw [if_pos rfl,if_pos h2,Zcw (by omega) h2]
 · rw [if_neg hj]
def ckr (q:PlV) (ad:Addr) (c:Nat) (l:List Ac) (ge gw:Nat):Array Value:=#[.slice q.ga q.gl q.gc,.slice q.va q.vl q.vc,.slice q.ta q.tl q.tc,.slice q.oa q.ol q.oc,.slice q.ma q.ml q.mc,.slice (some ad) l.length c,.slice (some ⟨ge,0,none⟩) l.length l.length,.slice (some ⟨gw,0,none⟩) l.length l.length]
structure CkrR (w:World) (g:Nat) (q:PlV) (P:Pl) (ad:Addr) (c:Nat) (l:List Ac) (ge gw m:Nat):Prop where
 k:Blk w g 127 (ckr q ad c l ge gw)
 p:Pm w q P
 s:Src w (some ad) l.length (acs l)
 e:Blk w ge 3 (Zm (Za6 l 0)).toArray
 n:Blk w gw 3 (Zm (Za8 l m)).toArray
 b:l.length≤1048576
theorem CkrR.below {w w':World} {g:Nat} {q:PlV} {P:Pl} {ad:Addr} {c:Nat} {l:List Ac} {ge gw m:Nat} (h:CkrR w g q P ad c l ge gw m) (hb:Below w.heap.size w w'):CkrR w' g q P ad c l ge gw m :=
 ⟨h.k.below hb h.k.lt,h.p.below hb,h.s.below hb,h.e.below hb h.e.lt,h.n.below hb h.n.lt,h.b⟩
theorem Zl2 (w:World) (g:Nat) (q:PlV) (P:Pl) (ad:Addr) (c:Nat) (l:List Ac) (ge gw a:Nat) (x:Ac) (h:CkrR w g q P ad c l ge gw (a+1)) (hT:Za9 l) (hx:l[a]? = some x) (hW:∀j,a<j→j<l.length→0≤Zal l j∧Zal l j≤256) :
 Calls Try.prog 83 #[.pointer (some ⟨g,0,none⟩),.int .i64 (a:Int)] w fun en w'=>en=.returned (.int .i64 (Z4 (Zal l) (endE l) a x))∧Below w.heap.size w w':=by
 have hal:=(gs_ hx).1;have hbl:=h.b;have ck1:w.cell? ⟨g,5,none⟩=some (.slice (some ad) l.length c):=by rw [h.k.cell];rfl
 have ck2:w.cell? ⟨g,6,none⟩=some (.slice (some ⟨ge,0,none⟩) l.length l.length):=by rw [h.k.cell];rfl
 have ck3:w.cell? ⟨g,7,none⟩=some (.slice (some ⟨gw,0,none⟩) l.length l.length):=by rw [h.k.cell];rfl
 have hgl:=h.k.lt;have hel:=h.e.lt;have hwl:=h.n.lt;obtain ⟨ad',e',hab,q0,q1,q2,q3,q4,q5⟩:=Zq h.s hx
 cases e'
 obtain ⟨x',hx',hn0,hch,_⟩:=hT.2 a hal;rw [hx] at hx';injection hx' with hx';subst hx';obtain ⟨N,hN⟩:∃N:Nat,x.n=(N:Int):=⟨x.n.toNat,by omega⟩;rw [hN,Int.toNat_natCast] at hch;have ha0:(0:Int)≤(a:Int):=by omega
 have haL:(a:Int)<(l.length:Int):=by omega
 have u1:=IntWalk.i64_in ((a:Int)+1) (by omega);have ha10:(0:Int)≤(a:Int)+1:=by omega
 have hnat:((a:Int)+1).toNat=a+1:=by omega
 obtain ⟨r,hr⟩:∃r,Z4 (Zal l) (endE l) a x=r:=⟨_,rfl⟩;rw [hr];have HR:=Za hr;have HH:=Za h;have HX:=Za hx;have HW:=Za hW;have HT:=Za hT;have HCH:=Za hch;have HN:=Za hN;obtain ⟨k0,a0,b0,c0,d0,n0⟩:=x;simp only at hN q0 q1 q2 q3 q4 q5;subst hN;clear h hx hr hW hT hch hn0;have HBA:=Za ((Below.refl w.heap.size w).alloc lr_ (.cells #[.int .i64 k0,.int .i64 a0,.int .i64 b0,.int .i64 c0,.int .i64 d0,.int .i64 (N:Int)] 49))
 by_cases hk:k0=25
 · subst hk;have HV:=Za (show r=1 by rw [←HR.out];unfold Z4;rw [if_pos (.inl rfl)]);go_enter Try.func83,Try.ntmps83;go_wp2_with fail;go_ret;exact ⟨by rw [HV.out];rfl,by first | exact HBA.out | exact Zc HBA.out _⟩
 by_cases hN0:N=0
 · subst hN0;have HV:=Za (show r=1 by rw [←HR.out];unfold Z4;rw [if_pos (.inr rfl)]);go_enter Try.func83,Try.ntmps83;go_wp2_with fail;go_ret;exact ⟨by rw [HV.out];rfl,by first | exact HBA.out | exact Zc HBA.out _⟩
 have hNI:¬(N:Int)=0:=by omega
 have hx1:a+1<l.length:=HCH.out 0 (by omega);have hx1I:(a:Int)+1<(l.length:Int):=by omega
 obtain ⟨W1,hW1⟩:∃W1,Zal l (a+1)=W1:=⟨_,rfl⟩;have cw1:w.cell? ⟨gw,a+1,none⟩=some (.int .i64 W1):=by rw [←hW1];exact Zae HH.out.n (Zd2 lr_ hx1)
 have HW1:=Za hW1;have hw1:=HW.out (a+1) (by omega) hx1;rw [hW1] at hw1;obtain ⟨hw10,hw11⟩:=hw1;clear hW1
 by_cases hN1:N=1
 · subst hN1;have HV:=Za (show r=W1 by rw [←HR.out,←HW1.out];unfold Z4;rw [if_neg (by simp [hk]),if_pos (by simp)]);go_enter Try.func83,Try.ntmps83;go_wp2_with fail;go_ret;exact ⟨by rw [HV.out];rfl,by first | exact HBA.out | exact Zc HBA.out _⟩
 have hNI1:¬(N:Int)=1:=by omega
 have hkb:(k0 == 25)=false:=by simp [hk]
 have hNb:((N:Int) == 0)=false:=by rw [beq_eq_false_iff_ne];omega
 have hNb1:((N:Int) == 1)=false:=by rw [beq_eq_false_iff_ne];omega
 obtain ⟨e,he⟩:∃e,endE l (a+1)=e:=⟨_,rfl⟩;have hx2:e<l.length:=by rw [←he];exact HCH.out 1 (by omega)
 have hae:a<e:=by rw [←he];exact Ze4 (by omega)
 have ce1:w.cell? ⟨ge,a+1,none⟩=some (.int .i64 (e:Int)):=by rw [←he];exact Zae HH.out.e (Zbw (Nat.zero_le _) hx1)
 have he0:(0:Int)≤(e:Int):=by omega
 have heI:(e:Int)<(l.length:Int):=by omega
 obtain ⟨W2,hW2⟩:∃W2,Zal l e=W2:=⟨_,rfl⟩;have cw2:w.cell? ⟨gw,e,none⟩=some (.int .i64 W2):=by rw [←hW2];exact Zae HH.out.n (Zd2 (by omega) hx2)
 have hw2:=HW.out e hae hx2;rw [hW2] at hw2;obtain ⟨hw20,hw21⟩:=hw2;have u2:=IntWalk.i64_in (W2+1) (by omega);have HV0:=Za (show r=max W1 (if k0=37∨k0=38 then W2 else W2+1) by rw [←HR.out,←HW1.out,←hW2,←he];unfold Z4;rw [if_neg (show ¬(k0=25∨(N:Int)=0) from fun h=>h.elim hk hNI),if_neg (show ¬(N:Int)=1 from hNI1)]);clear he hW2
 by_cases h37:k0=37∨k0=38
 · have HV1:=Za (show r=max W1 W2 by rw [HV0.out,if_pos h37])
   by_cases hgt:W2<W1
   · have HV:=Za (show r=W1 by rw [HV1.out];omega);rcases h37 with rfl | rfl
     all_goals
      go_enter Try.func83,Try.ntmps83;go_wp2_with fail;go_quiet (fail);go_wp2_with fail;go_ret;exact ⟨by rw [HV.out];rfl,by first | exact HBA.out | exact Zc HBA.out _⟩
   · have HV:=Za (show r=W2 by rw [HV1.out];omega);rcases h37 with rfl | rfl
     all_goals
      go_enter Try.func83,Try.ntmps83;go_wp2_with fail;go_quiet (fail);go_wp2_with fail;go_ret;exact ⟨by rw [HV.out];rfl,by first | exact HBA.out | exact Zc HBA.out _⟩
 · have HV1:=Za (show r=max W1 (W2+1) by rw [HV0.out,if_neg h37]);have h37a:¬k0=37:=fun h=>h37 (.inl h)
   have h37b:¬k0=38:=fun h=>h37 (.inr h)
   clear h37;have h37c:(k0 != 37)=true:=by simp [h37a]
   have h37d:(k0 != 38)=true:=by simp [h37b]
   by_cases hgt:W2+1<W1
   · have HV:=Za (show r=W1 by rw [HV1.out];omega);go_enter Try.func83,Try.ntmps83;go_wp2_with fail;go_quiet (fail);go_wp2_with fail;go_ret;exact ⟨by rw [HV.out];rfl,by first | exact HBA.out | exact Zc HBA.out _⟩
   · have HV:=Za (show r=W2+1 by rw [HV1.out];omega);go_enter Try.func83,Try.ntmps83;go_wp2_with fail;go_quiet (fail);go_wp2_with fail;go_ret;exact ⟨by rw [HV.out];rfl,by first | exact HBA.out | exact Zc HBA.out _⟩
end Go.Proofs.Ytdpokdcendgfeaa
