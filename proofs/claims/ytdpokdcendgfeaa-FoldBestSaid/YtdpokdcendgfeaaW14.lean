/- Several texts in one: The walk of numbers. The walk of numbers at the kinds that look at ghosts. The walk of rule.hand. Conditions: those of each. -/
import Derived.Test.YtdpokdcendgfeaaW2
import Derived.Deep.RegionWith
import Derived.Test.YtdpokdcendgfeaaW1
import Derived.Deep.CutBlock
import Derived.Deep.DeepCutAuto
import Derived.StillTailTactics
set_option linter.unusedSimpArgs false
set_option linter.unusedVariables false
set_option maxHeartbeats 80000000
set_option maxRecDepth 100000
namespace Go.Proofs.Ytdpokdcendgfeaa
open Go.RowKit
theorem Zj {P:Program} {f:FuncId} {args:Array Value} {w:World} {m n:Nat} {v:Value} (h:Calls P f args (w.drewN (m+n)) fun e w'=>e=.returned v∧w'=w.drewN (m+n)):Calls P f args (w.drewN (m+n)) fun e w''=>e=.returned v∧∃k,w''=w.drewN (m+k) :=
 h.mono fun _ _ ⟨he,hm⟩=>⟨he,n,hm⟩
theorem bA (w:World) (o:Obj):Below w.heap.size w (w.alloc o):=(Below.refl _ w).alloc lr_ _
theorem bD (w:World) (o:Obj) (n:Nat):Below w.heap.size w ((w.alloc o).drewN n):=Zc (bA w o) n
theorem Zdr {w:World} {g:Nat} {t:TypeId} {ga va ta oa ma ra:Option Addr} {gl gc vl vc tl tc ol oc ml mc rl rc i:Nat} (hk:Blk w g t (chk ⟨ga,va,ta,oa,ma,gl,gc,vl,vc,tl,tc,ol,oc,ml,mc⟩ ra rl rc i)) (o:Obj) :
 (w.alloc o).cell? ⟨g,0,none⟩=some (.slice ga gl gc)∧(w.alloc o).cell? ⟨g,1,none⟩=some (.slice va vl vc)∧(w.alloc o).cell? ⟨g,2,none⟩=some (.slice ta tl tc) :=
 ⟨(World.cell?_alloc_lt w _ _ hk.lt).trans (by rw [hk.cell];rfl),(World.cell?_alloc_lt w _ _ hk.lt).trans (by rw [hk.cell];rfl),(World.cell?_alloc_lt w _ _ hk.lt).trans (by rw [hk.cell];rfl)⟩
structure Ck (w:World) (g:Nat) (q:PlV) (P:Pl) (ra:Option Addr) (rl rc i:Nat):Prop where
 k:Blk w g 106 (chk q ra rl rc i)
 gl:q.gl=P.gh.length
 vl:q.vl=P.vs.length
 tl:q.tl=P.ts.length
 gs:Src w q.ga P.gh.length (ZZ P.gh)
 l:P.gh.length≤maxLen∧P.vs.length≤maxLen∧P.ts.length≤maxLen
theorem Ck.below {w w':World} {g:Nat} {q:PlV} {P:Pl} {ra:Option Addr} {rl rc i:Nat} (h:Ck w g q P ra rl rc i) (hb:Below w.heap.size w w'):Ck w' g q P ra rl rc i :=
 ⟨h.k.below hb h.k.lt,h.gl,h.vl,h.tl,h.gs.below hb,h.l⟩
theorem Zb6 {w:World} {oa:Option Addr} {l:List Bool} {a:Int} (h:Src w oa l.length (ZZ l)) (hq:qV l a=true):∃ad,oa=some ad∧ad.block<w.heap.size∧0≤a∧a<(l.length:Int)∧w.cell? (ad.add a.toNat)=some (.bool (ghV l a)):=by
 simp only [qV,Zp,Bool.and_eq_true,decide_eq_true_eq] at hq;obtain ⟨ad,e,hl,hx⟩:=h (by omega);refine ⟨ad,e,hl,hq.1,by omega,hx _ _ ?_⟩;have:a.toNat<l.length:=by omega
 simp [ZZ,ghV,this]
theorem Zj0 (w:World) (g:Nat) (q:PlV) (P:Pl) (ra:Option Addr) (rl rc i:Nat) (x:Ac) (h:Ck w g q P ra rl rc i) (hx:x.k=3∨x.k=4∨x.k=21∨x.k=5∨x.k=25∨x.k=19∨x.k=20∨x.k=22∨x.k=24∨x.k=6∨x.k=9∨x.k=10∨x.k=18) :
 Calls Try.prog 102 #[.pointer (some ⟨g,0,none⟩),x.val] w fun en w'=>en=.returned (.bool (Zu P x))∧Below w.heap.size w w':=by
 obtain ⟨nv,hnv⟩:∃nv,Zu P x=nv:=⟨_,rfl⟩;rw [hnv];have HNV:=Za hnv;clear hnv;obtain ⟨k,a,b,c,d,n⟩:=x;simp only at hx;obtain ⟨hk,e1,e2,e3,hs,l1,l2,l3⟩:=h;obtain ⟨ga,va,ta,oa,ma,gl,gc,vl,vc,tl,tc,ol,oc,ml,mc⟩:=q;simp only at e1 e2 e3 hs;subst e1 e2 e3;have HQ0:=fun (W:World) (y:Int) (hb:Below w.heap.size w W)=>Za ((ZdR W g _ ra rl rc i y (hk.below hb hk.lt) l1).mono (fun en w' hh=>(⟨hh.1,hh.2.symm⟩:en=.returned (.bool (Zp y 0 ((P.gh.length:Int) - 1)))∧w'=W)))
 have HF:=fun (W:World) (y lo hi:Int)=>Za ((Zdq W y lo hi).mono (fun en w' hh=>(⟨hh.1,hh.2.symm⟩:en=.returned (.bool (Zp y lo hi))∧w'=W)))
 have HQA:=fun (W:World) (hb:Below w.heap.size w W)=>HQ0 W a hb
 have HQC:=fun (W:World) (hb:Below w.heap.size w W)=>HQ0 W c hb
 clear HQ0;unfold maxLen at l1 l2 l3;simp only [Ac.val];have hlt:=hk.lt;obtain ⟨ce0,ce1,ce2⟩:=Zdr hk (.cells #[.int .i64 k,.int .i64 a,.int .i64 b,.int .i64 c,.int .i64 d,.int .i64 n] 49);have u1:=IntWalk.i64_in ((P.gh.length:Int) - 1) (by omega);have u2:=IntWalk.i64_in ((P.vs.length:Int) - 1) (by omega);have u3:=IntWalk.i64_in ((P.ts.length:Int) - 1) (by omega);rcases hx with rfl | rfl | rfl | rfl | rfl | rfl | rfl | rfl | rfl | rfl | rfl | rfl | rfl
 all_goals
  go_enter Try.func102,Try.ntmps102;go_wp2_with fail
  by_cases hc:c=0
  case' pos=>subst hc
  case' neg =>
   have hc1:(c == 0)=false:=by simp [hc]
   have hc2:decide (c=0)=false:=by simp [hc]
  all_goals
   go_quiet (fail);go_wp2_with (first | (go_at_call 63;refine (HF _ _ _ _).out.mono ?_;rintro en w1 ⟨rfl,rfl⟩) | (go_at_call 135;refine (HQA _ (bD _ _ _)).out.mono ?_;rintro en w1 ⟨rfl,rfl⟩))
   all_goals try (go_quiet (first | (go_at_call 63;exact Zj (HF _ _ _ _).out) | (go_at_call 135;exact Zj (HQA _ (bD _ _ _)).out) | (go_at_call 135;exact Zj (HQC _ (bD _ _ _)).out));go_wp2_with (first | (go_at_call 63;refine (HF _ _ _ _).out.mono ?_;rintro en w1 ⟨rfl,rfl⟩) | (go_at_call 135;refine (HQA _ (bD _ _ _)).out.mono ?_;rintro en w1 ⟨rfl,rfl⟩)))
   all_goals try (go_quiet (first | (go_at_call 63;exact Zj (HF _ _ _ _).out) | (go_at_call 135;exact Zj (HQA _ (bD _ _ _)).out) | (go_at_call 135;exact Zj (HQC _ (bD _ _ _)).out));go_wp2_with (first | (go_at_call 63;refine (HF _ _ _ _).out.mono ?_;rintro en w1 ⟨rfl,rfl⟩) | (go_at_call 135;refine (HQA _ (bD _ _ _)).out.mono ?_;rintro en w1 ⟨rfl,rfl⟩)))
   all_goals
    go_ret;refine ⟨?_,?_⟩
    · rw [←HNV.out];congr 2;simp [Zu,qV, *]
      try (rw [Bool.eq_iff_iff];simp;done)
    · first | exact bA _ _ | exact bD _ _ _
theorem ZjZ (w:World) (g:Nat) (q:PlV) (P:Pl) (ra:Option Addr) (rl rc i:Nat) (x:Ac) (h:Ck w g q P ra rl rc i) (hx:x.k=7∨x.k=15∨x.k=16) :
 Calls Try.prog 102 #[.pointer (some ⟨g,0,none⟩),x.val] w fun en w'=>en=.returned (.bool (Zu P x))∧Below w.heap.size w w':=by
 obtain ⟨nv,hnv⟩:∃nv,Zu P x=nv:=⟨_,rfl⟩;rw [hnv];have HNV:=Za hnv;clear hnv;obtain ⟨k,a,b,c,d,n⟩:=x;simp only at hx;obtain ⟨hk,e1,e2,e3,hs,l1,l2,l3⟩:=h;obtain ⟨ga,va,ta,oa,ma,gl,gc,vl,vc,tl,tc,ol,oc,ml,mc⟩:=q;simp only at e1 e2 e3 hs;subst e1 e2 e3;have HQ0:=fun (W:World) (y:Int) (hb:Below w.heap.size w W)=>Za ((ZdR W g _ ra rl rc i y (hk.below hb hk.lt) l1).mono (fun en w' hh=>(⟨hh.1,hh.2.symm⟩:en=.returned (.bool (Zp y 0 ((P.gh.length:Int) - 1)))∧w'=W)))
 have HF:=fun (W:World) (y lo hi:Int)=>Za ((Zdq W y lo hi).mono (fun en w' hh=>(⟨hh.1,hh.2.symm⟩:en=.returned (.bool (Zp y lo hi))∧w'=W)))
 have HQA:=fun (W:World) (hb:Below w.heap.size w W)=>HQ0 W a hb
 have HQC:=fun (W:World) (hb:Below w.heap.size w W)=>HQ0 W c hb
 clear HQ0;unfold maxLen at l1 l2 l3;simp only [Ac.val];have hlt:=hk.lt;obtain ⟨ce0,ce1,ce2⟩:=Zdr hk (.cells #[.int .i64 k,.int .i64 a,.int .i64 b,.int .i64 c,.int .i64 d,.int .i64 n] 49);have u1:=IntWalk.i64_in ((P.gh.length:Int) - 1) (by omega);have u2:=IntWalk.i64_in ((P.vs.length:Int) - 1) (by omega);have u3:=IntWalk.i64_in ((P.ts.length:Int) - 1) (by omega);rcases hx with rfl | rfl | rfl
 all_goals
  go_enter Try.func102,Try.ntmps102;go_wp2_with fail
  cases hqa:Zp a 0 ((P.gh.length:Int) - 1) with
  | true =>
   simp only [hqa] at HQA;obtain ⟨ada,ea,hadla,h0a,h1a,hca⟩:=Zb6 (a:=a) hs hqa;subst ea;have hxa:∀o,(w.alloc o).cell? (ada.add a.toNat)=some (.bool (ghV P.gh a)):=fun o=>(World.cell?_alloc_lt w _ _ (by rw [Zl];exact hadla)).trans hca
   by_cases hc:c=0
   case' pos=>subst hc
   case' neg =>
    have hc1:(c == 0)=false:=by simp [hc]
    have hc2:decide (c=0)=false:=by simp [hc]
   all_goals
    go_quiet (fail);go_wp2_with (first | (go_at_call 63;refine (HF _ _ _ _).out.mono ?_;rintro en w1 ⟨rfl,rfl⟩) | (go_at_call 135;refine (HQA _ (bD _ _ _)).out.mono ?_;rintro en w1 ⟨rfl,rfl⟩))
    all_goals try (go_quiet (first | (go_at_call 63;exact Zj (HF _ _ _ _).out) | (go_at_call 135;exact Zj (HQA _ (bD _ _ _)).out) | (go_at_call 135;exact Zj (HQC _ (bD _ _ _)).out));go_wp2_with (first | (go_at_call 63;refine (HF _ _ _ _).out.mono ?_;rintro en w1 ⟨rfl,rfl⟩) | (go_at_call 135;refine (HQA _ (bD _ _ _)).out.mono ?_;rintro en w1 ⟨rfl,rfl⟩)))
    all_goals try (go_quiet (first | (go_at_call 63;exact Zj (HF _ _ _ _).out) | (go_at_call 135;exact Zj (HQA _ (bD _ _ _)).out) | (go_at_call 135;exact Zj (HQC _ (bD _ _ _)).out));go_wp2_with (first | (go_at_call 63;refine (HF _ _ _ _).out.mono ?_;rintro en w1 ⟨rfl,rfl⟩) | (go_at_call 135;refine (HQA _ (bD _ _ _)).out.mono ?_;rintro en w1 ⟨rfl,rfl⟩)))
    all_goals
     go_ret;refine ⟨?_,?_⟩
     · rw [←HNV.out];congr 2;simp [Zu,qV, *]
       try (rw [Bool.eq_iff_iff];simp;done)
     · first | exact bA _ _ | exact bD _ _ _
  | false =>
   simp only [hqa] at HQA
   by_cases hc:c=0
   case' pos=>subst hc
   case' neg =>
    have hc1:(c == 0)=false:=by simp [hc]
    have hc2:decide (c=0)=false:=by simp [hc]
   all_goals
    go_quiet (fail);go_wp2_with (first | (go_at_call 63;refine (HF _ _ _ _).out.mono ?_;rintro en w1 ⟨rfl,rfl⟩) | (go_at_call 135;refine (HQA _ (bD _ _ _)).out.mono ?_;rintro en w1 ⟨rfl,rfl⟩))
    all_goals try (go_quiet (first | (go_at_call 63;exact Zj (HF _ _ _ _).out) | (go_at_call 135;exact Zj (HQA _ (bD _ _ _)).out) | (go_at_call 135;exact Zj (HQC _ (bD _ _ _)).out));go_wp2_with (first | (go_at_call 63;refine (HF _ _ _ _).out.mono ?_;rintro en w1 ⟨rfl,rfl⟩) | (go_at_call 135;refine (HQA _ (bD _ _ _)).out.mono ?_;rintro en w1 ⟨rfl,rfl⟩)))
    all_goals try (go_quiet (first | (go_at_call 63;exact Zj (HF _ _ _ _).out) | (go_at_call 135;exact Zj (HQA _ (bD _ _ _)).out) | (go_at_call 135;exact Zj (HQC _ (bD _ _ _)).out));go_wp2_with (first | (go_at_call 63;refine (HF _ _ _ _).out.mono ?_;rintro en w1 ⟨rfl,rfl⟩) | (go_at_call 135;refine (HQA _ (bD _ _ _)).out.mono ?_;rintro en w1 ⟨rfl,rfl⟩)))
    all_goals
     go_ret;refine ⟨?_,?_⟩
     · rw [←HNV.out];congr 2;simp [Zu,qV, *]
       try (rw [Bool.eq_iff_iff];simp;done)
     · first | exact bA _ _ | exact bD _ _ _
theorem Zih (w:World) (g:Nat) (q:PlV) (P:Pl) (ra:Option Addr) (rl rc i:Nat) (x:Ac) (h:Ck w g q P ra rl rc i) (hx:x.k=13) :
 Calls Try.prog 102 #[.pointer (some ⟨g,0,none⟩),x.val] w fun en w'=>en=.returned (.bool (Zu P x))∧Below w.heap.size w w':=by
 obtain ⟨nv,hnv⟩:∃nv,Zu P x=nv:=⟨_,rfl⟩;rw [hnv];have HNV:=Za hnv;clear hnv;obtain ⟨k,a,b,c,d,n⟩:=x;simp only at hx;obtain ⟨hk,e1,e2,e3,hs,l1,l2,l3⟩:=h;obtain ⟨ga,va,ta,oa,ma,gl,gc,vl,vc,tl,tc,ol,oc,ml,mc⟩:=q;simp only at e1 e2 e3 hs;subst e1 e2 e3;have HQ0:=fun (W:World) (y:Int) (hb:Below w.heap.size w W)=>Za ((ZdR W g _ ra rl rc i y (hk.below hb hk.lt) l1).mono (fun en w' hh=>(⟨hh.1,hh.2.symm⟩:en=.returned (.bool (Zp y 0 ((P.gh.length:Int) - 1)))∧w'=W)))
 have HF:=fun (W:World) (y lo hi:Int)=>Za ((Zdq W y lo hi).mono (fun en w' hh=>(⟨hh.1,hh.2.symm⟩:en=.returned (.bool (Zp y lo hi))∧w'=W)))
 have HQA:=fun (W:World) (hb:Below w.heap.size w W)=>HQ0 W a hb
 have HQC:=fun (W:World) (hb:Below w.heap.size w W)=>HQ0 W c hb
 clear HQ0;unfold maxLen at l1 l2 l3;simp only [Ac.val];have hlt:=hk.lt;obtain ⟨ce0,ce1,ce2⟩:=Zdr hk (.cells #[.int .i64 k,.int .i64 a,.int .i64 b,.int .i64 c,.int .i64 d,.int .i64 n] 49);have u1:=IntWalk.i64_in ((P.gh.length:Int) - 1) (by omega);have u2:=IntWalk.i64_in ((P.vs.length:Int) - 1) (by omega);have u3:=IntWalk.i64_in ((P.ts.length:Int) - 1) (by omega);subst hx;go_enter Try.func102,Try.ntmps102;go_wp2_with fail;have HFB:=fun (W:World)=>HF W b 0 1
 have HFD:=fun (W:World)=>HF W d 0 1
 cases hqa:Zp a 0 ((P.gh.length:Int) - 1) with
 | true =>
  simp only [hqa] at HQA
  cases hbb:Zp b 0 1 with
  | true =>
   simp only [hbb] at HFB
   cases hqc:Zp c 0 ((P.gh.length:Int) - 1) with
   | true =>
    simp only [hqc] at HQC
    cases hdd:Zp d 0 1 with
    | true =>
     simp only [hdd] at HFD;obtain ⟨ada,ea,hadla,h0a,h1a,hca⟩:=Zb6 (a:=a) hs hqa;subst ea;have hxa:∀o,(w.alloc o).cell? (ada.add a.toNat)=some (.bool (ghV P.gh a)):=fun o=>(World.cell?_alloc_lt w _ _ (by rw [Zl];exact hadla)).trans hca
     obtain ⟨adc,ec,hadlc,h0c,h1c,hcc⟩:=Zb6 (a:=c) hs hqc;have e2c:ada=adc:=by injection ec
     subst e2c;clear ec;have hxc:∀o,(w.alloc o).cell? (ada.add c.toNat)=some (.bool (ghV P.gh c)):=fun o=>(World.cell?_alloc_lt w _ _ (by rw [Zl];exact hadlc)).trans hcc
     by_cases hc:c=0
     case' pos =>
      have hc1:(c == 0)=true:=by simp [hc]
      have hc2:decide (c=0)=true:=by simp [hc]
      clear hc
     case' neg =>
      have hc1:(c == 0)=false:=by simp [hc]
      have hc2:decide (c=0)=false:=by simp [hc]
      clear hc
     all_goals
      go_quiet (fail);go_wp2_with fail;go_quiet (first | (go_at_call_of 63 (Value.int .i64 b);exact Zj (HFB _).out) | (go_at_call_of 63 (Value.int .i64 d);exact Zj (HFD _).out) | (go_at_call_of 135 (Value.int .i64 a);exact Zj (HQA _ (bD _ _ _)).out) | (go_at_call_of 135 (Value.int .i64 c);exact Zj (HQC _ (bD _ _ _)).out));go_wp2_with fail;go_quiet (fail);go_wp2_with fail
      all_goals
       go_ret;refine ⟨?_,?_⟩
       · rw [←HNV.out];congr 2;simp [Zu,qV, *]
         try (rw [Bool.eq_iff_iff];simp;done)
       · first | exact Zc (Zc (bD _ _ _) _) _ | exact bA _ _ | exact bD _ _ _
    | false =>
     simp only [hdd] at HFD
     by_cases hc:c=0
     case' pos =>
      have hc1:(c == 0)=true:=by simp [hc]
      have hc2:decide (c=0)=true:=by simp [hc]
      clear hc
     case' neg =>
      have hc1:(c == 0)=false:=by simp [hc]
      have hc2:decide (c=0)=false:=by simp [hc]
      clear hc
     all_goals
      go_quiet (fail);go_wp2_with fail;go_quiet (first | (go_at_call_of 63 (Value.int .i64 b);exact Zj (HFB _).out) | (go_at_call_of 63 (Value.int .i64 d);exact Zj (HFD _).out) | (go_at_call_of 135 (Value.int .i64 a);exact Zj (HQA _ (bD _ _ _)).out) | (go_at_call_of 135 (Value.int .i64 c);exact Zj (HQC _ (bD _ _ _)).out));go_wp2_with fail;go_quiet (fail);go_wp2_with fail
      all_goals
       go_ret;refine ⟨?_,?_⟩
       · rw [←HNV.out];congr 2;simp [Zu,qV, *]
         try (rw [Bool.eq_iff_iff];simp;done)
       · first | exact Zc (Zc (bD _ _ _) _) _ | exact bA _ _ | exact bD _ _ _
   | false =>
    simp only [hqc] at HQC
    by_cases hc:c=0
    case' pos =>
     have hc1:(c == 0)=true:=by simp [hc]
     have hc2:decide (c=0)=true:=by simp [hc]
     clear hc
    case' neg =>
     have hc1:(c == 0)=false:=by simp [hc]
     have hc2:decide (c=0)=false:=by simp [hc]
     clear hc
    all_goals
     go_quiet (fail);go_wp2_with fail;go_quiet (first | (go_at_call_of 63 (Value.int .i64 b);exact Zj (HFB _).out) | (go_at_call_of 63 (Value.int .i64 d);exact Zj (HFD _).out) | (go_at_call_of 135 (Value.int .i64 a);exact Zj (HQA _ (bD _ _ _)).out) | (go_at_call_of 135 (Value.int .i64 c);exact Zj (HQC _ (bD _ _ _)).out));go_wp2_with fail;go_quiet (fail);go_wp2_with fail
     all_goals
      go_ret;refine ⟨?_,?_⟩
      · rw [←HNV.out];congr 2;simp [Zu,qV, *]
        try (rw [Bool.eq_iff_iff];simp;done)
      · first | exact Zc (Zc (bD _ _ _) _) _ | exact bA _ _ | exact bD _ _ _
  | false =>
   simp only [hbb] at HFB
   cases hqc:Zp c 0 ((P.gh.length:Int) - 1)
   all_goals
    simp only [hqc] at HQC
    by_cases hc:c=0
    case' pos =>
     have hc1:(c == 0)=true:=by simp [hc]
     have hc2:decide (c=0)=true:=by simp [hc]
     clear hc
    case' neg =>
     have hc1:(c == 0)=false:=by simp [hc]
     have hc2:decide (c=0)=false:=by simp [hc]
     clear hc
    all_goals
     go_quiet (fail);go_wp2_with fail;go_quiet (first | (go_at_call_of 63 (Value.int .i64 b);exact Zj (HFB _).out) | (go_at_call_of 63 (Value.int .i64 d);exact Zj (HFD _).out) | (go_at_call_of 135 (Value.int .i64 a);exact Zj (HQA _ (bD _ _ _)).out) | (go_at_call_of 135 (Value.int .i64 c);exact Zj (HQC _ (bD _ _ _)).out));go_wp2_with fail;go_quiet (fail);go_wp2_with fail
     all_goals
      go_ret;refine ⟨?_,?_⟩
      · rw [←HNV.out];congr 2;simp [Zu,qV, *]
        try (rw [Bool.eq_iff_iff];simp;done)
      · first | exact Zc (Zc (bD _ _ _) _) _ | exact bA _ _ | exact bD _ _ _
 | false =>
  simp only [hqa] at HQA
  cases hqc:Zp c 0 ((P.gh.length:Int) - 1)
  all_goals
   simp only [hqc] at HQC
   by_cases hc:c=0
   case' pos =>
    have hc1:(c == 0)=true:=by simp [hc]
    have hc2:decide (c=0)=true:=by simp [hc]
    clear hc
   case' neg =>
    have hc1:(c == 0)=false:=by simp [hc]
    have hc2:decide (c=0)=false:=by simp [hc]
    clear hc
   all_goals
    go_quiet (fail);go_wp2_with fail;go_quiet (first | (go_at_call_of 63 (Value.int .i64 b);exact Zj (HFB _).out) | (go_at_call_of 63 (Value.int .i64 d);exact Zj (HFD _).out) | (go_at_call_of 135 (Value.int .i64 a);exact Zj (HQA _ (bD _ _ _)).out) | (go_at_call_of 135 (Value.int .i64 c);exact Zj (HQC _ (bD _ _ _)).out));go_wp2_with fail;go_quiet (fail);go_wp2_with fail
    all_goals
     go_ret;refine ⟨?_,?_⟩
     · rw [←HNV.out];congr 2;simp [Zu,qV, *]
       try (rw [Bool.eq_iff_iff];simp;done)
     · first | exact Zc (Zc (bD _ _ _) _) _ | exact bA _ _ | exact bD _ _ _
theorem Zig (w:World) (g:Nat) (q:PlV) (P:Pl) (ra:Option Addr) (rl rc i:Nat) (x:Ac) (h:Ck w g q P ra rl rc i) (hx:x.k=14) :
 Calls Try.prog 102 #[.pointer (some ⟨g,0,none⟩),x.val] w fun en w'=>en=.returned (.bool (Zu P x))∧Below w.heap.size w w':=by
 obtain ⟨nv,hnv⟩:∃nv,Zu P x=nv:=⟨_,rfl⟩;rw [hnv];have HNV:=Za hnv;clear hnv;obtain ⟨k,a,b,c,d,n⟩:=x;simp only at hx;obtain ⟨hk,e1,e2,e3,hs,l1,l2,l3⟩:=h;obtain ⟨ga,va,ta,oa,ma,gl,gc,vl,vc,tl,tc,ol,oc,ml,mc⟩:=q;simp only at e1 e2 e3 hs;subst e1 e2 e3;have HQ0:=fun (W:World) (y:Int) (hb:Below w.heap.size w W)=>Za ((ZdR W g _ ra rl rc i y (hk.below hb hk.lt) l1).mono (fun en w' hh=>(⟨hh.1,hh.2.symm⟩:en=.returned (.bool (Zp y 0 ((P.gh.length:Int) - 1)))∧w'=W)))
 have HF:=fun (W:World) (y lo hi:Int)=>Za ((Zdq W y lo hi).mono (fun en w' hh=>(⟨hh.1,hh.2.symm⟩:en=.returned (.bool (Zp y lo hi))∧w'=W)))
 have HQA:=fun (W:World) (hb:Below w.heap.size w W)=>HQ0 W a hb
 have HQC:=fun (W:World) (hb:Below w.heap.size w W)=>HQ0 W c hb
 clear HQ0;unfold maxLen at l1 l2 l3;simp only [Ac.val];have hlt:=hk.lt;obtain ⟨ce0,ce1,ce2⟩:=Zdr hk (.cells #[.int .i64 k,.int .i64 a,.int .i64 b,.int .i64 c,.int .i64 d,.int .i64 n] 49);have u1:=IntWalk.i64_in ((P.gh.length:Int) - 1) (by omega);have u2:=IntWalk.i64_in ((P.vs.length:Int) - 1) (by omega);have u3:=IntWalk.i64_in ((P.ts.length:Int) - 1) (by omega);subst hx;go_enter Try.func102,Try.ntmps102;go_wp2_with fail;have HFB:=fun (W:World)=>HF W b 0 1
 have HFD:=fun (W:World)=>HF W d 0 1
 cases hqa:Zp a 0 ((P.gh.length:Int) - 1) with
 | true =>
  simp only [hqa] at HQA
  cases hbb:Zp b 0 1 with
  | true =>
   simp only [hbb] at HFB
   cases hqc:Zp c 0 ((P.gh.length:Int) - 1) with
   | true =>
    simp only [hqc] at HQC
    cases hdd:Zp d 0 1 with
    | true =>
     simp only [hdd] at HFD;obtain ⟨ada,ea,hadla,h0a,h1a,hca⟩:=Zb6 (a:=a) hs hqa;subst ea;have hxa:∀o,(w.alloc o).cell? (ada.add a.toNat)=some (.bool (ghV P.gh a)):=fun o=>(World.cell?_alloc_lt w _ _ (by rw [Zl];exact hadla)).trans hca
     obtain ⟨adc,ec,hadlc,h0c,h1c,hcc⟩:=Zb6 (a:=c) hs hqc;have e2c:ada=adc:=by injection ec
     subst e2c;clear ec;have hxc:∀o,(w.alloc o).cell? (ada.add c.toNat)=some (.bool (ghV P.gh c)):=fun o=>(World.cell?_alloc_lt w _ _ (by rw [Zl];exact hadlc)).trans hcc
     cases hga:ghV P.gh a
     all_goals
      rw [hga] at hxa
      by_cases hc:c=0
      case' pos =>
       have hc1:(c == 0)=true:=by simp [hc]
       have hc2:decide (c=0)=true:=by simp [hc]
       clear hc
      case' neg =>
       have hc1:(c == 0)=false:=by simp [hc]
       have hc2:decide (c=0)=false:=by simp [hc]
       clear hc
      all_goals
       go_quiet (fail);go_wp2_with fail;go_quiet (first | (go_at_call_of 63 (Value.int .i64 b);exact Zj (HFB _).out) | (go_at_call_of 63 (Value.int .i64 d);exact Zj (HFD _).out) | (go_at_call_of 135 (Value.int .i64 a);exact Zj (HQA _ (bD _ _ _)).out) | (go_at_call_of 135 (Value.int .i64 c);exact Zj (HQC _ (bD _ _ _)).out));go_wp2_with fail;go_quiet (fail);go_wp2_with fail
       all_goals
        go_ret;refine ⟨?_,?_⟩
        · rw [←HNV.out];congr 2;simp [Zu,qV, *]
          try (rw [Bool.eq_iff_iff];simp;done)
        · first | exact Zc (Zc (bD _ _ _) _) _ | exact bA _ _ | exact bD _ _ _
    | false =>
     simp only [hdd] at HFD
     by_cases hc:c=0
     case' pos =>
      have hc1:(c == 0)=true:=by simp [hc]
      have hc2:decide (c=0)=true:=by simp [hc]
      clear hc
     case' neg =>
      have hc1:(c == 0)=false:=by simp [hc]
      have hc2:decide (c=0)=false:=by simp [hc]
      clear hc
     all_goals
      go_quiet (fail);go_wp2_with fail;go_quiet (first | (go_at_call_of 63 (Value.int .i64 b);exact Zj (HFB _).out) | (go_at_call_of 63 (Value.int .i64 d);exact Zj (HFD _).out) | (go_at_call_of 135 (Value.int .i64 a);exact Zj (HQA _ (bD _ _ _)).out) | (go_at_call_of 135 (Value.int .i64 c);exact Zj (HQC _ (bD _ _ _)).out));go_wp2_with fail;go_quiet (fail);go_wp2_with fail
      all_goals
       go_ret;refine ⟨?_,?_⟩
       · rw [←HNV.out];congr 2;simp [Zu,qV, *]
         try (rw [Bool.eq_iff_iff];simp;done)
       · first | exact Zc (Zc (bD _ _ _) _) _ | exact bA _ _ | exact bD _ _ _
   | false =>
    simp only [hqc] at HQC
    by_cases hc:c=0
    case' pos =>
     have hc1:(c == 0)=true:=by simp [hc]
     have hc2:decide (c=0)=true:=by simp [hc]
     clear hc
    case' neg =>
     have hc1:(c == 0)=false:=by simp [hc]
     have hc2:decide (c=0)=false:=by simp [hc]
     clear hc
    all_goals
     go_quiet (fail);go_wp2_with fail;go_quiet (first | (go_at_call_of 63 (Value.int .i64 b);exact Zj (HFB _).out) | (go_at_call_of 63 (Value.int .i64 d);exact Zj (HFD _).out) | (go_at_call_of 135 (Value.int .i64 a);exact Zj (HQA _ (bD _ _ _)).out) | (go_at_call_of 135 (Value.int .i64 c);exact Zj (HQC _ (bD _ _ _)).out));go_wp2_with fail;go_quiet (fail);go_wp2_with fail
     all_goals
      go_ret;refine ⟨?_,?_⟩
      · rw [←HNV.out];congr 2;simp [Zu,qV, *]
        try (rw [Bool.eq_iff_iff];simp;done)
      · first | exact Zc (Zc (bD _ _ _) _) _ | exact bA _ _ | exact bD _ _ _
  | false =>
   simp only [hbb] at HFB
   cases hqc:Zp c 0 ((P.gh.length:Int) - 1)
   all_goals
    simp only [hqc] at HQC
    by_cases hc:c=0
    case' pos =>
     have hc1:(c == 0)=true:=by simp [hc]
     have hc2:decide (c=0)=true:=by simp [hc]
     clear hc
    case' neg =>
     have hc1:(c == 0)=false:=by simp [hc]
     have hc2:decide (c=0)=false:=by simp [hc]
     clear hc
    all_goals
     go_quiet (fail);go_wp2_with fail;go_quiet (first | (go_at_call_of 63 (Value.int .i64 b);exact Zj (HFB _).out) | (go_at_call_of 63 (Value.int .i64 d);exact Zj (HFD _).out) | (go_at_call_of 135 (Value.int .i64 a);exact Zj (HQA _ (bD _ _ _)).out) | (go_at_call_of 135 (Value.int .i64 c);exact Zj (HQC _ (bD _ _ _)).out));go_wp2_with fail;go_quiet (fail);go_wp2_with fail
     all_goals
      go_ret;refine ⟨?_,?_⟩
      · rw [←HNV.out];congr 2;simp [Zu,qV, *]
        try (rw [Bool.eq_iff_iff];simp;done)
      · first | exact Zc (Zc (bD _ _ _) _) _ | exact bA _ _ | exact bD _ _ _
 | false =>
  simp only [hqa] at HQA
  cases hqc:Zp c 0 ((P.gh.length:Int) - 1)
  all_goals
   simp only [hqc] at HQC
   by_cases hc:c=0
   case' pos =>
    have hc1:(c == 0)=true:=by simp [hc]
    have hc2:decide (c=0)=true:=by simp [hc]
    clear hc
   case' neg =>
    have hc1:(c == 0)=false:=by simp [hc]
    have hc2:decide (c=0)=false:=by simp [hc]
    clear hc
   all_goals
    go_quiet (fail);go_wp2_with fail;go_quiet (first | (go_at_call_of 63 (Value.int .i64 b);exact Zj (HFB _).out) | (go_at_call_of 63 (Value.int .i64 d);exact Zj (HFD _).out) | (go_at_call_of 135 (Value.int .i64 a);exact Zj (HQA _ (bD _ _ _)).out) | (go_at_call_of 135 (Value.int .i64 c);exact Zj (HQC _ (bD _ _ _)).out));go_wp2_with fail;go_quiet (fail);go_wp2_with fail
    all_goals
     go_ret;refine ⟨?_,?_⟩
     · rw [←HNV.out];congr 2;simp [Zu,qV, *]
       try (rw [Bool.eq_iff_iff];simp;done)
     · first | exact Zc (Zc (bD _ _ _) _) _ | exact bA _ _ | exact bD _ _ _
theorem Zha (w:World) (g:Nat) (q:PlV) (P:Pl) (ra:Option Addr) (rl rc i:Nat) (x:Ac) (h:Ck w g q P ra rl rc i) (hx:x.k≠3∧x.k≠4∧x.k≠21∧x.k≠5∧x.k≠25∧x.k≠19∧x.k≠20∧x.k≠22∧x.k≠24∧x.k≠6∧x.k≠9∧x.k≠10∧x.k≠18∧x.k≠7∧x.k≠15∧x.k≠16∧x.k≠13∧x.k≠14) :
 Calls Try.prog 102 #[.pointer (some ⟨g,0,none⟩),x.val] w fun en w'=>en=.returned (.bool (Zu P x))∧Below w.heap.size w w':=by
 obtain ⟨nv,hnv⟩:∃nv,Zu P x=nv:=⟨_,rfl⟩;rw [hnv];have HNV:=Za hnv;clear hnv;obtain ⟨k,a,b,c,d,n⟩:=x;simp only at hx;obtain ⟨n3,n4,n21,n5,n25,n19,n20,n22,n24,n6,n9,n10,n18,n7,n15,n16,n13,n14⟩:=hx;have b3:(k == 3)=false:=by simp [n3]
 have d3:decide (k=3)=false:=by simp [n3]
 have b4:(k == 4)=false:=by simp [n4]
 have d4:decide (k=4)=false:=by simp [n4]
 have b21:(k == 21)=false:=by simp [n21]
 have d21:decide (k=21)=false:=by simp [n21]
 have b5:(k == 5)=false:=by simp [n5]
 have d5:decide (k=5)=false:=by simp [n5]
 have b25:(k == 25)=false:=by simp [n25]
 have d25:decide (k=25)=false:=by simp [n25]
 have b19:(k == 19)=false:=by simp [n19]
 have d19:decide (k=19)=false:=by simp [n19]
 have b20:(k == 20)=false:=by simp [n20]
 have d20:decide (k=20)=false:=by simp [n20]
 have b22:(k == 22)=false:=by simp [n22]
 have d22:decide (k=22)=false:=by simp [n22]
 have b24:(k == 24)=false:=by simp [n24]
 have d24:decide (k=24)=false:=by simp [n24]
 have b6:(k == 6)=false:=by simp [n6]
 have d6:decide (k=6)=false:=by simp [n6]
 have b9:(k == 9)=false:=by simp [n9]
 have d9:decide (k=9)=false:=by simp [n9]
 have b10:(k == 10)=false:=by simp [n10]
 have d10:decide (k=10)=false:=by simp [n10]
 have b18:(k == 18)=false:=by simp [n18]
 have d18:decide (k=18)=false:=by simp [n18]
 have b7:(k == 7)=false:=by simp [n7]
 have d7:decide (k=7)=false:=by simp [n7]
 have b15:(k == 15)=false:=by simp [n15]
 have d15:decide (k=15)=false:=by simp [n15]
 have b16:(k == 16)=false:=by simp [n16]
 have d16:decide (k=16)=false:=by simp [n16]
 have b13:(k == 13)=false:=by simp [n13]
 have d13:decide (k=13)=false:=by simp [n13]
 have b14:(k == 14)=false:=by simp [n14]
 have d14:decide (k=14)=false:=by simp [n14]
 obtain ⟨hk,e1,e2,e3,hs,l1,l2,l3⟩:=h;obtain ⟨ga,va,ta,oa,ma,gl,gc,vl,vc,tl,tc,ol,oc,ml,mc⟩:=q;simp only at e1 e2 e3 hs;subst e1 e2 e3;have HQ0:=fun (W:World) (y:Int) (hb:Below w.heap.size w W)=>Za ((ZdR W g _ ra rl rc i y (hk.below hb hk.lt) l1).mono (fun en w' hh=>(⟨hh.1,hh.2.symm⟩:en=.returned (.bool (Zp y 0 ((P.gh.length:Int) - 1)))∧w'=W)))
 have HF:=fun (W:World) (y lo hi:Int)=>Za ((Zdq W y lo hi).mono (fun en w' hh=>(⟨hh.1,hh.2.symm⟩:en=.returned (.bool (Zp y lo hi))∧w'=W)))
 have HQA:=fun (W:World) (hb:Below w.heap.size w W)=>HQ0 W a hb
 have HQC:=fun (W:World) (hb:Below w.heap.size w W)=>HQ0 W c hb
 clear HQ0;unfold maxLen at l1 l2 l3;simp only [Ac.val];have hlt:=hk.lt;obtain ⟨ce0,ce1,ce2⟩:=Zdr hk (.cells #[.int .i64 k,.int .i64 a,.int .i64 b,.int .i64 c,.int .i64 d,.int .i64 n] 49);have u1:=IntWalk.i64_in ((P.gh.length:Int) - 1) (by omega);have u2:=IntWalk.i64_in ((P.vs.length:Int) - 1) (by omega);have u3:=IntWalk.i64_in ((P.ts.length:Int) - 1) (by omega);go_enter Try.func102,Try.ntmps102;go_wp2_with fail
 by_cases hc:c=0
 case' pos=>subst hc
 case' neg =>
  have hc1:(c == 0)=false:=by simp [hc]
  have hc2:decide (c=0)=false:=by simp [hc]
 all_goals
  go_quiet (fail);go_wp2_with (first | (go_at_call 63;refine (HF _ _ _ _).out.mono ?_;rintro en w1 ⟨rfl,rfl⟩) | (go_at_call 135;refine (HQA _ (bD _ _ _)).out.mono ?_;rintro en w1 ⟨rfl,rfl⟩))
  all_goals
   go_ret;refine ⟨?_,?_⟩
   · rw [←HNV.out];congr 2;simp [Zu,qV, *]
     try (rw [Bool.eq_iff_iff];simp;done)
   · first | exact bA _ _ | exact bD _ _ _
theorem ZgN (w:World) (g:Nat) (q:PlV) (P:Pl) (ra:Option Addr) (rl rc i:Nat) (x:Ac) (h:Ck w g q P ra rl rc i) :
 Calls Try.prog 102 #[.pointer (some ⟨g,0,none⟩),x.val] w fun en w'=>en=.returned (.bool (Zu P x))∧Below w.heap.size w w':=by
 by_cases hA:x.k=3∨x.k=4∨x.k=21∨x.k=5∨x.k=25∨x.k=19∨x.k=20∨x.k=22∨x.k=24∨x.k=6∨x.k=9∨x.k=10∨x.k=18
 · exact Zj0 w g q P ra rl rc i x h hA
 by_cases hB:x.k=7∨x.k=15∨x.k=16
 · exact ZjZ w g q P ra rl rc i x h hB
 by_cases hk13:x.k=13
 · exact Zih w g q P ra rl rc i x h hk13
 by_cases hk14:x.k=14
 · exact Zig w g q P ra rl rc i x h hk14
 exact Zha w g q P ra rl rc i x h (by omega)
def Zao (P:Pl) (x:Ac):Bool:=decide (x.n=0)&&Zu P x
theorem ZiC {w W:World} {P:Pl} {l:List Ac} {A:Addr} {k m c:Nat} {y:Ac} (hk:k≤m) (h:∀j y,j<k→l[j]? = some y→Zao P y=true) (hy:l[k]? = some y) (hg:Zao P y=false) (hb:Below w.heap.size w W) :
 ∃k',Value.slice (some A) k c=.slice (some A) k' c∧k'≤m∧(∀j y,j<k'→l[j]? = some y→Zao P y=true)∧(k'<m→∃y,l[k']? = some y∧Zao P y=false)∧Below w.heap.size w W :=
 ⟨k,rfl,hk,h,fun _=>⟨y,hy,hg⟩,hb⟩
theorem ZhN {P:Pl} {x:Ac} (h:Zao P x=true) (hk:x.k=9∨x.k=10):qV P.gh x.a=true:=by
 simp only [Zao,Bool.and_eq_true] at h;have h2:=h.2;rcases hk with e | e <;> · simp [Zu,e] at h2;exact h2.1
theorem Zls {P:Pl} {l l3:List Ac} {i k m:Nat} {x0:Ac} (hx:l[i]? = some x0) (hk2:k<2) (hk:k≤m) (hm:m<2→l.length≤i+m) (hget:∀j,j<m→l3[j]? = l[i+j]?) (hall:∀j y,j<k→l3[j]? = some y→Zao P y=true) (hbad:k<m→∃y,l3[k]? = some y∧Zao P y=false) (hm1:1≤m):handV P l i=0:=by
 unfold handV;simp only [hx];obtain rfl | rfl:k=0∨k=1:=by omega
 · obtain ⟨y,hy,hg⟩:=hbad (by omega);rw [hget 0 (by omega),Nat.add_zero,hx] at hy;injection hy with hy;subst hy;simp only [Zao] at hg
   cases h1:l[i+1]? with
   | none=>rfl
   | some y=>simp [hg]
 · cases h1:l[i+1]? with
   | none=>rfl
   | some z =>
    have hlt:=(gs_ h1).1
    have hm2:1<m:=by
     rcases Nat.lt_or_ge 1 m with h | h
     · exact h
     · have:=hm (by omega);omega
    obtain ⟨y,hy,hg⟩:=hbad hm2;rw [hget 1 hm2,h1] at hy;injection hy with hy;subst hy;simp only [Zao] at hg;simp [hg]
def ZaZ (P:Pl) (x y:Ac) (z:Option Ac):Nat :=
 if (decide (y.k=10)&&(ghV P.gh y.a == ghV P.gh x.a))||(decide (y.k=12)&&ghV P.gh x.a) then 2
 else if y.k≠11∨ghV P.gh x.a=true then 0
 else match z with
  | some z=>if Zao P z&&(decide (z.k=12)||(decide (z.k=10)&&ghV P.gh z.a)) then 3 else 0
  | none=>0
theorem Zlq {P:Pl} {l:List Ac} {i:Nat} {x y:Ac} (hx:l[i]? = some x) (hy:l[i+1]? = some y) (gx:Zao P x=true) (gy:Zao P y=true):handV P l i=ZaZ P x y l[i+2]?:=by
 unfold handV ZaZ;simp only [Zao] at gx gy ⊢;simp only [hx,hy,gx,gy,Bool.and_self,if_true]
 cases l[i+2]? <;> rfl
theorem Zlr {P:Pl} {l l3:List Ac} {i k m:Nat} (hk2:k=2) (hk:k≤m) (hm:m<3→l.length≤i+m) (hget:∀j,j<m→l3[j]? = l[i+j]?) (hbad:k<m→∃y,l3[k]? = some y∧Zao P y=false):∀z,l[i+2]? = some z→Zao P z=false:=fun z hz=>by
 subst hk2;have hlt:=(gs_ hz).1
 have hm2:2<m:=by
  rcases Nat.lt_or_ge 2 m with h | h
  · exact h
  · have:=hm (by omega);omega
 obtain ⟨y,hy,hg⟩:=hbad hm2;rw [hget 2 hm2,hz] at hy;injection hy with hy;exact hy▸hg
theorem Zny (a:Addr):a.add 6=⟨a.block,a.off+6,none⟩:=by simp [Addr.add]
theorem ZmU (a:Addr):a.add 12=⟨a.block,a.off+12,none⟩:=by simp [Addr.add]
theorem ZkL (a:Addr):a.add 0=a:=by simp [Addr.add]
theorem Zkm {P:Pl} {l:List Ac} {k:Nat} {x:Ac} (h:∀j y,j<k→l[j]? = some y→Zao P y=true) (hx:l[k]? = some x) (hg:Zao P x=true):∀j y,j<k+1→l[j]? = some y→Zao P y=true:=fun j y hj hy=>by
 rcases Nat.lt_or_ge j k with h1 | h1
 · exact h j y h1 hy
 · obtain rfl:j=k:=by omega
   rw [hx] at hy;injection hy with hy;exact hy▸hg
theorem Znq (w:World) (g:Nat) (q:PlV) (P:Pl) (ra:Option Addr) (rc i:Nat) (l:List Ac) (x0:Ac) (h:Ck w g q P ra l.length rc i) (hs:Src w ra l.length (acs l)) (hx:l[i]? = some x0) (hk9:x0.k=9) (hcp:l.length≤rc) (hrc:rc≤maxLen) (hln:l.length≤262144) :
 Calls Try.prog 136 #[.pointer (some ⟨g,0,none⟩)] w fun en w'=>en=.returned (.int .i64 (handV P l i:Int))∧Below w.heap.size w w':=by
 have HCK:=Za h;have HX:=Za hx;have hil:=(gs_ hx).1;obtain ⟨ad,rfl,_⟩:=hs (by omega);obtain ⟨m,hm⟩:∃m,m=min l.length (i+3) - i:=⟨_,rfl⟩;have hm1:1≤m:=by omega
 have hm3:m≤3:=by omega
 have hmi:i+m≤l.length:=by omega
 have hmn:min (l.length:Int) ((i:Int)+3)=((i+m:Nat):Int):=by omega
 have HP:=Za (ZkW hs i m hmi);have HGET:Hid (∀j,j<m→((l.drop i).take m)[j]? = l[i+j]?):=Za (fun j hj=>by rw [List.getElem?_take,if_pos hj,List.getElem?_drop]);have HLEN:Hid (((l.drop i).take m).length=m):=Za (by rw [List.length_take,List.length_drop];omega);generalize (l.drop i).take m=l3 at HP HGET HLEN;have HMX:=Za hm;have HMI:=Za hmi;clear hm hmi;have c1:w.cell? ⟨g,5,none⟩=some (.slice (some ad) l.length rc):=by rw [h.k.cell];rfl
 have c2:w.cell? ⟨g,6,none⟩=some (.int .i64 (i:Int)):=by rw [h.k.cell];rfl
 clear h hs hx;have u1:=IntWalk.i64_in ((i:Int)+3) (by omega);unfold maxLen at hrc;have hI0:(0:Int)≤(i:Int):=by omega
 have hI1:(i:Int)≤((i+m:Nat):Int):=by omega
 go_enter Try.func136,Try.ntmps136;go_upto_region 1 with fail;go_cut [3] from 8 to 28 (fun s3 wx=>s3=.slice (some (ad.add (i*6))) m (rc - i)∧Below w.heap.size w wx∧Ck wx g q P (some ad) l.length rc i)
 case first =>
  go_quiet (fail);go_wp2_with fail
  all_goals
   go_meet
   case rel =>
    refine ⟨?_,Zc br_ _,HCK.out.below (Zc br_ _)⟩
    first | rfl | (congr 1;have:=HMX.out;omega) | (have h:=HMX.out;rw [show m=l.length - i by omega]) | (have h:=HMX.out;rw [show m=3 by omega];simp)
 case rest =>
  obtain ⟨rfl,hb,hck⟩:=hcut;have HB:=Za hb;have HCKc:=Za hck;clear hb hck c1 c2;generalize ad.add (i*6)=A at *;go_upto_block 0 with fail;go_cut [3] from 28 to 49 (fun s3 wx=>∃k,s3=.slice (some A) k (rc - i)∧k≤m∧(∀j y,j<k→l3[j]? = some y→Zao P y=true)∧(k<m→∃y,l3[k]? = some y∧Zao P y=false)∧Below w.heap.size w wx)
  case first =>
   go_wp2_with fail;go_loopw [3,30] (fun t3 t30 W=>∃k:Nat,t3=.slice (some A) m (rc - i)∧t30=.int .i64 (k:Int)∧k≤m∧(∀j y,j<k→l3[j]? = some y→Zao P y=true)∧Below w.heap.size w W) (fun _ t30 _=>m - (intOf t30).toNat)
   case atStart=>exact ⟨0,rfl,rfl,Nat.zero_le _,fun j y hj=>by omega,HB.out⟩
   case round =>
    obtain ⟨k,rfl,rfl,hk,hall,hb⟩:=hrel;rename World=>W
    have HALL:=Za hall;have HB:=Za hb;have u2:=IntWalk.i64_in ((k:Int)+1) (by omega)
    by_cases hkm:k<m
    · have hkI:(k:Int)<(m:Int):=by omega
      obtain ⟨y,hy⟩:∃y,l3[k]? = some y:=⟨_,ge_ (by rw [HLEN.out];exact hkm)⟩;have hsrc:Src w (some A) l3.length (acs l3):=by rw [HLEN.out];exact HP.out
      obtain ⟨A',e,hlt,hrow⟩:=Zq hsrc hy
      cases e
      obtain ⟨r0,r1,r2,r3,r4,r5⟩:=hrow.below (by rw [Zl];exact hlt) (hb.mono lr_);have HNUM:=fun (o:Obj)=>Za (ZgN (W.alloc o) g q P (some ad) l.length rc i y (HCK.out.below (hb.alloc hb.size o)))
      have HIX:=fun (W2:World) (hb2:Below w.heap.size w W2) (hbad:Zao P y=false)=>Za (Zll W2 A l3 (rc - i) k y (hsrc.below hb2) hy (fun j z hj hz e=>by rw [←e,hall j z hj hz] at hbad;cases hbad) (by rw [HLEN.out];omega))
      simp only [HLEN.out] at HIX;have HY:=Za hy;clear hall hb hsrc hlt hrow hy;obtain ⟨y0,y1,y2,y3,y4,y5⟩:=y;simp only at r0 r1 r2 r3 r4 r5;simp only [Ac.val] at HNUM HIX;have hk0:(k:Int)≤((rc - i:Nat):Int):=by have:=HMI.out;omega
      have hk1:(0:Int)≤(k:Int):=by omega
      have HBA:=fun (o:Obj)=>Za (HB.out.alloc HB.out.size o)
      by_cases hn:y5=0
      · subst hn
        cases hnv:Zu P ⟨y0,y1,y2,y3,y4,0⟩ with
        | true =>
         simp only [hnv] at HNUM;have hgd:Zao P ⟨y0,y1,y2,y3,y4,0⟩=true:=by simp [Zao,hnv]
         have HGD:=Za hgd;clear hgd hnv HIX;go_wp2_with (go_at_call 102;refine (HNUM _).out.mono ?_;rintro en w1 ⟨rfl,hb1⟩;have kb:=(Blk.new W 49 #[.int .i64 y0,.int .i64 y1,.int .i64 y2,.int .i64 y3,.int .i64 y4,.int .i64 0]).below hb1 (by simp);have d0:w1.cell? ⟨W.heap.size,0,none⟩=some (.int .i64 y0):=(by rw [kb.cell];rfl);have d1:w1.cell? ⟨W.heap.size,1,none⟩=some (.int .i64 y1):=(by rw [kb.cell];rfl);have d2:w1.cell? ⟨W.heap.size,2,none⟩=some (.int .i64 y2):=(by rw [kb.cell];rfl);have d3:w1.cell? ⟨W.heap.size,3,none⟩=some (.int .i64 y3):=(by rw [kb.cell];rfl);have d4:w1.cell? ⟨W.heap.size,4,none⟩=some (.int .i64 y4):=(by rw [kb.cell];rfl);have d5:w1.cell? ⟨W.heap.size,5,none⟩=some (.int .i64 0):=(by rw [kb.cell];rfl);have HB1:=Za ((HBA _).out.trans (hb1.mono (by simp;have:=HB.out.size;omega)));clear kb hb1);go_roundw
         case rel=>exact ⟨k+1,rfl,by go_num,by omega,Zkm HALL.out HY.out HGD.out,HB1.out⟩
         case measure =>
          simp only [intOf];omega
        | false =>
         simp only [hnv] at HNUM;have hgd:Zao P ⟨y0,y1,y2,y3,y4,0⟩=false:=by simp [Zao,hnv]
         have HGD:=Za hgd;clear hgd hnv;go_wp2_with (first | (go_at_call 102;refine (HNUM _).out.mono ?_;rintro en w1 ⟨rfl,hb1⟩;have kb:=(Blk.new W 49 #[.int .i64 y0,.int .i64 y1,.int .i64 y2,.int .i64 y3,.int .i64 y4,.int .i64 0]).below hb1 (by simp);have d0:w1.cell? ⟨W.heap.size,0,none⟩=some (.int .i64 y0):=(by rw [kb.cell];rfl);have d1:w1.cell? ⟨W.heap.size,1,none⟩=some (.int .i64 y1):=(by rw [kb.cell];rfl);have d2:w1.cell? ⟨W.heap.size,2,none⟩=some (.int .i64 y2):=(by rw [kb.cell];rfl);have d3:w1.cell? ⟨W.heap.size,3,none⟩=some (.int .i64 y3):=(by rw [kb.cell];rfl);have d4:w1.cell? ⟨W.heap.size,4,none⟩=some (.int .i64 y4):=(by rw [kb.cell];rfl);have d5:w1.cell? ⟨W.heap.size,5,none⟩=some (.int .i64 0):=(by rw [kb.cell];rfl);have HB1:=Za ((HBA _).out.trans (hb1.mono (by simp;have:=HB.out.size;omega)));clear kb hb1) | (go_at_call 173;refine (HIX _ HB1.out HGD.out).out.mono ?_;rintro en w2 ⟨rfl,hb2⟩;have HB2:=Za (HB1.out.trans (hb2.mono HB1.out.size));clear hb2));go_meet
         case rel=>exact ZiC hk HALL.out HY.out HGD.out HB2.out
      · have hn1:(y5 != 0)=true:=by simp [hn]
        have hgd:Zao P ⟨y0,y1,y2,y3,y4,y5⟩=false:=by simp [Zao,hn]
        have HGD:=Za hgd;clear hgd HNUM;go_wp2_with (go_at_call 173;refine (HIX _ (HBA _).out HGD.out).out.mono ?_;rintro en w2 ⟨rfl,hb2⟩;have HB2:=Za ((HBA _).out.trans (hb2.mono (HBA _).out.size));clear hb2);go_meet
        case rel=>exact ZiC hk HALL.out HY.out HGD.out HB2.out
    · have hkm2:k=m:=by omega
      subst hkm2;go_wp2_with fail;go_meet
      case rel=>exact ⟨k,rfl,lr_,HALL.out,fun h=>absurd h (Nat.lt_irrefl _),HB.out⟩
  case rest =>
   obtain ⟨k,rfl,hk,hall,hbad,hb⟩:=hcut;have HB2:=Za hb;have hck2:=HCK.out.below hb;have hgs:=hck2.gs;have f0:wc.cell? ⟨g,0,none⟩=some (.slice q.ga P.gh.length q.gc):=by rw [hck2.k.cell];unfold chk;rw [hck2.gl];rfl
   have h0:l3[0]? = some x0:=by rw [HGET.out 0 (by omega)];exact HX.out
   by_cases hk2:k<2
   · have HV:=Za (Zls (P:=P) HX.out hk2 hk (fun h=>by have:=HMX.out;omega) HGET.out hall hbad hm1);have hkI:(k:Int)<2:=by omega
     clear hall hbad hb hck2 hgs h0;go_wp2_with fail;go_ret;exact ⟨by rw [HV.out];rfl,HB2.out⟩
   · have hkI:¬(k:Int)<2:=by omega
     obtain ⟨y,hy⟩:∃y,l3[1]? = some y:=⟨_,ge_ (by rw [HLEN.out];omega)⟩;have gx:=hall 0 x0 (by omega) h0;have gy:=hall 1 y (by omega) hy;have hly:l[i+1]? = some y:=by rw [←HGET.out 1 (by omega)];exact hy
     have hsrc:Src wc (some A) l3.length (acs l3):=by rw [HLEN.out];exact HP.out.below hb
     obtain ⟨A',e,_,r0,r1,r2,r3,r4,r5⟩:=Zq hsrc h0
     cases e
     obtain ⟨A',e,_,s0,s1,s2,s3,s4,s5⟩:=Zq hsrc hy
     cases e
     have hqx:qV P.gh x0.a=true:=ZhN gx (by simp [hk9]);obtain ⟨G,eG,_,i0,i1,cg⟩:=Zb6 hgs hqx;have HHAND:=Za (Zlq HX.out hly gx gy);simp only [Nat.zero_mul,Nat.one_mul,ZkL,Zny,Nat.add_assoc,Nat.reduceAdd] at r0 r1 r2 r3 r4 r5 s0 s1 s2 s3 s4 s5;rw [eG] at f0;have hK0:(0:Int)<(k:Int):=by omega
     have hK1:(1:Int)<(k:Int):=by omega
     go_wp2_with fail;go_quiet (fail);go_wp2_with fail
     by_cases h10:y.k=10
     · have h10b:(y.k == 10)=true:=by simp [h10]
       have h10n:(y.k != 10)=false:=by simp [h10]
       obtain ⟨G2,e2,_,j0cy,j1cy,cy⟩:=Zb6 hgs (ZhN gy (.inr h10));rw [eG] at e2;injection e2 with e2;subst e2
       cases a0:ghV P.gh x0.a with
       | true =>
        rw [a0] at cg
        cases a1:ghV P.gh y.a with
        | true =>
         rw [a1] at cy;have HV:Hid (handV P l i=2):=Za (by rw [HHAND.out];simp [ZaZ,h10,a0,a1]);clear HHAND hgs hsrc hck2 hall hbad;go_wp2_with fail
         all_goals try (go_quiet (fail);go_wp2_with fail)
         all_goals try (go_quiet (fail);go_wp2_with fail)
         go_ret;refine ⟨by rw [HV.out];rfl,?_⟩
         first | exact Zc HB2.out _ | exact Zc (Zc HB2.out _) _ | exact Zc (Zc (Zc HB2.out _) _) _
        | false =>
         rw [a1] at cy;have HV:Hid (handV P l i=0):=Za (by rw [HHAND.out];simp [ZaZ,h10,a0,a1]);clear HHAND hgs hsrc hck2 hall hbad;go_wp2_with fail
         all_goals try (go_quiet (fail);go_wp2_with fail)
         all_goals try (go_quiet (fail);go_wp2_with fail)
         go_ret;refine ⟨by rw [HV.out];rfl,?_⟩
         first | exact Zc HB2.out _ | exact Zc (Zc HB2.out _) _ | exact Zc (Zc (Zc HB2.out _) _) _
       | false =>
        rw [a0] at cg
        cases a1:ghV P.gh y.a with
        | true =>
         rw [a1] at cy;have HV:Hid (handV P l i=0):=Za (by rw [HHAND.out];simp [ZaZ,h10,a0,a1]);clear HHAND hgs hsrc hck2 hall hbad;go_wp2_with fail
         all_goals try (go_quiet (fail);go_wp2_with fail)
         all_goals try (go_quiet (fail);go_wp2_with fail)
         go_ret;refine ⟨by rw [HV.out];rfl,?_⟩
         first | exact Zc HB2.out _ | exact Zc (Zc HB2.out _) _ | exact Zc (Zc (Zc HB2.out _) _) _
        | false =>
         rw [a1] at cy;have HV:Hid (handV P l i=2):=Za (by rw [HHAND.out];simp [ZaZ,h10,a0,a1]);clear HHAND hgs hsrc hck2 hall hbad;go_wp2_with fail
         all_goals try (go_quiet (fail);go_wp2_with fail)
         all_goals try (go_quiet (fail);go_wp2_with fail)
         go_ret;refine ⟨by rw [HV.out];rfl,?_⟩
         first | exact Zc HB2.out _ | exact Zc (Zc HB2.out _) _ | exact Zc (Zc (Zc HB2.out _) _) _
     · have h10b:(y.k == 10)=false:=by simp [h10]
       have h10n:(y.k != 10)=true:=by simp [h10]
       by_cases h12:y.k=12
       · have h12b:(y.k == 12)=true:=by simp [h12]
         have h12n:(y.k != 12)=false:=by simp [h12]
         cases a0:ghV P.gh x0.a with
         | true =>
          rw [a0] at cg;have HV:Hid (handV P l i=2):=Za (by rw [HHAND.out];simp [ZaZ,h10,h12,a0]);clear HHAND hgs hsrc hck2 hall hbad;go_wp2_with fail
          all_goals try (go_quiet (fail);go_wp2_with fail)
          all_goals try (go_quiet (fail);go_wp2_with fail)
          go_ret;refine ⟨by rw [HV.out];rfl,?_⟩
          first | exact Zc HB2.out _ | exact Zc (Zc HB2.out _) _ | exact Zc (Zc (Zc HB2.out _) _) _
         | false =>
          rw [a0] at cg;have HV:Hid (handV P l i=0):=Za (by rw [HHAND.out];simp [ZaZ,h10,h12,a0]);clear HHAND hgs hsrc hck2 hall hbad;go_wp2_with fail
          all_goals try (go_quiet (fail);go_wp2_with fail)
          all_goals try (go_quiet (fail);go_wp2_with fail)
          go_ret;refine ⟨by rw [HV.out];rfl,?_⟩
          first | exact Zc HB2.out _ | exact Zc (Zc HB2.out _) _ | exact Zc (Zc (Zc HB2.out _) _) _
       · have h12b:(y.k == 12)=false:=by simp [h12]
         have h12n:(y.k != 12)=true:=by simp [h12]
         by_cases h11:y.k=11
         · have h11b:(y.k == 11)=true:=by simp [h11]
           have h11n:(y.k != 11)=false:=by simp [h11]
           cases a0:ghV P.gh x0.a with
           | true =>
            rw [a0] at cg;have HV:Hid (handV P l i=0):=Za (by rw [HHAND.out];simp [ZaZ,h10,h12,h11,a0]);clear HHAND hgs hsrc hck2 hall hbad;go_wp2_with fail
            all_goals try (go_quiet (fail);go_wp2_with fail)
            all_goals try (go_quiet (fail);go_wp2_with fail)
            go_ret;refine ⟨by rw [HV.out];rfl,?_⟩
            first | exact Zc HB2.out _ | exact Zc (Zc HB2.out _) _ | exact Zc (Zc (Zc HB2.out _) _) _
           | false =>
            rw [a0] at cg
            by_cases hk3:k=3
            · have hk3I:¬(k:Int)<3:=by omega
              have hK2:(2:Int)<(k:Int):=by omega
              obtain ⟨z,hz⟩:∃z,l3[2]? = some z:=⟨_,ge_ (by rw [HLEN.out];omega)⟩;have gz:=hall 2 z (by omega) hz;have hlz:l[i+2]? = some z:=by rw [←HGET.out 2 (by omega)];exact hz
              obtain ⟨A',e,_,t0,t1,t2,t3,t4,t5⟩:=Zq hsrc hz
              cases e
              simp only [Nat.reduceMul,ZmU,Nat.add_assoc,Nat.reduceAdd] at t0 t1 t2 t3 t4 t5
              by_cases z12:z.k=12
              · have z12b:(z.k == 12)=true:=by simp [z12]
                have z12n:(z.k != 12)=false:=by simp [z12]
                have HV:Hid (handV P l i=3):=Za (by rw [HHAND.out];simp [ZaZ,h11,a0,hlz,gz,z12]);clear HHAND hgs hsrc hck2 hall hbad;go_wp2_with fail
                all_goals try (go_quiet (fail);go_wp2_with fail)
                all_goals try (go_quiet (fail);go_wp2_with fail)
                go_ret;refine ⟨by rw [HV.out];rfl,?_⟩
                first | exact Zc HB2.out _ | exact Zc (Zc HB2.out _) _ | exact Zc (Zc (Zc HB2.out _) _) _
              · have z12b:(z.k == 12)=false:=by simp [z12]
                have z12n:(z.k != 12)=true:=by simp [z12]
                by_cases z10:z.k=10
                · have z10b:(z.k == 10)=true:=by simp [z10]
                  have z10n:(z.k != 10)=false:=by simp [z10]
                  obtain ⟨G3,e2,_,j0cz,j1cz,cz⟩:=Zb6 hgs (ZhN gz (.inr z10));rw [eG] at e2;injection e2 with e2;subst e2
                  cases a2:ghV P.gh z.a with
                  | true =>
                   rw [a2] at cz;have HV:Hid (handV P l i=3):=Za (by rw [HHAND.out];simp [ZaZ,h11,a0,hlz,gz,z10,a2]);clear HHAND hgs hsrc hck2 hall hbad;go_wp2_with fail
                   all_goals try (go_quiet (fail);go_wp2_with fail)
                   all_goals try (go_quiet (fail);go_wp2_with fail)
                   go_ret;refine ⟨by rw [HV.out];rfl,?_⟩
                   first | exact Zc HB2.out _ | exact Zc (Zc HB2.out _) _ | exact Zc (Zc (Zc HB2.out _) _) _
                  | false =>
                   rw [a2] at cz;have HV:Hid (handV P l i=0):=Za (by rw [HHAND.out];simp [ZaZ,h11,a0,hlz,gz,z10,a2]);clear HHAND hgs hsrc hck2 hall hbad;go_wp2_with fail
                   all_goals try (go_quiet (fail);go_wp2_with fail)
                   all_goals try (go_quiet (fail);go_wp2_with fail)
                   go_ret;refine ⟨by rw [HV.out];rfl,?_⟩
                   first | exact Zc HB2.out _ | exact Zc (Zc HB2.out _) _ | exact Zc (Zc (Zc HB2.out _) _) _
                · have z10b:(z.k == 10)=false:=by simp [z10]
                  have z10n:(z.k != 10)=true:=by simp [z10]
                  have HV:Hid (handV P l i=0):=Za (by rw [HHAND.out];simp [ZaZ,h11,a0,hlz,z12,z10]);clear HHAND hgs hsrc hck2 hall hbad;go_wp2_with fail
                  all_goals try (go_quiet (fail);go_wp2_with fail)
                  all_goals try (go_quiet (fail);go_wp2_with fail)
                  go_ret;refine ⟨by rw [HV.out];rfl,?_⟩
                  first | exact Zc HB2.out _ | exact Zc (Zc HB2.out _) _ | exact Zc (Zc (Zc HB2.out _) _) _
            · have hk3I:(k:Int)<3:=by omega
              have hno:∀z,l[i+2]? = some z→Zao P z=false:=Zlr (by omega) hk (fun h=>by have:=HMX.out;omega) HGET.out hbad
              have HV:Hid (handV P l i=0):=Za (by
               rw [HHAND.out]
               cases hz:l[i+2]? with
               | none=>simp [ZaZ,h11,a0]
               | some z=>simp [ZaZ,h11,a0,hno z hz])
              clear hno HHAND hgs hsrc hck2 hall hbad;go_wp2_with fail
              all_goals try (go_quiet (fail);go_wp2_with fail)
              all_goals try (go_quiet (fail);go_wp2_with fail)
              go_ret;refine ⟨by rw [HV.out];rfl,?_⟩
              first | exact Zc HB2.out _ | exact Zc (Zc HB2.out _) _ | exact Zc (Zc (Zc HB2.out _) _) _
         · have h11b:(y.k == 11)=false:=by simp [h11]
           have h11n:(y.k != 11)=true:=by simp [h11]
           cases a0:ghV P.gh x0.a with
           | true =>
            rw [a0] at cg;have HV:Hid (handV P l i=0):=Za (by rw [HHAND.out];simp [ZaZ,h10,h12,h11,a0]);clear HHAND hgs hsrc hck2 hall hbad;go_wp2_with fail
            all_goals try (go_quiet (fail);go_wp2_with fail)
            all_goals try (go_quiet (fail);go_wp2_with fail)
            go_ret;refine ⟨by rw [HV.out];rfl,?_⟩
            first | exact Zc HB2.out _ | exact Zc (Zc HB2.out _) _ | exact Zc (Zc (Zc HB2.out _) _) _
           | false =>
            rw [a0] at cg;have HV:Hid (handV P l i=0):=Za (by rw [HHAND.out];simp [ZaZ,h10,h12,h11,a0]);clear HHAND hgs hsrc hck2 hall hbad;go_wp2_with fail
            all_goals try (go_quiet (fail);go_wp2_with fail)
            all_goals try (go_quiet (fail);go_wp2_with fail)
            go_ret;refine ⟨by rw [HV.out];rfl,?_⟩
            first | exact Zc HB2.out _ | exact Zc (Zc HB2.out _) _ | exact Zc (Zc (Zc HB2.out _) _) _
end Go.Proofs.Ytdpokdcendgfeaa
