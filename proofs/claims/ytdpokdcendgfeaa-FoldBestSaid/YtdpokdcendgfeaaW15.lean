/- Several texts in one: The contracts of rule.row and rule.block; the walk of block. Regions that draw their order, over the worlds that have only grown: a callee that makes new memory is let in. Nothing here names the program. The walk of rule.row. Conditions: those of each. -/
import Derived.Test.YtdpokdcendgfeaaW14
import Derived.Test.YtdpokdcendgfeaaW2
import Derived.Test.YtdpokdcendgfeaaW1
import Derived.Deep.QuietTactic
set_option linter.unusedSimpArgs false
set_option linter.unusedVariables false
set_option maxHeartbeats 80000000
set_option maxRecDepth 100000
namespace Go.Proofs.Ytdpokdcendgfeaa
open Go.RowKit
structure Ckr (w:World) (g:Nat) (q:PlV) (P:Pl) (ra:Option Addr) (rc:Nat) (l:List Ac) (i:Nat):Prop where
 c:Ck w g q P ra l.length rc i
 s:Src w ra l.length (acs l)
 na:∀ad,ra=some ad→ad.block≠g
 ng:0<P.gh.length→∀ad,q.ga=some ad→ad.block≠g
 hc:l.length≤rc
 hm:rc≤maxLen
 hl:l.length≤262144
theorem Zfn {S:Nat→Prop} {w w':World} {oa:Option Addr} {n:Nat} {cs:List Value} (h:Src w oa n cs) (ho:Only S w w') (hS:0<n→∀ad,oa=some ad→¬S ad.block):Src w' oa n cs:=fun h0=>by
 obtain ⟨ad,e,hl,hx⟩:=h h0;exact ⟨ad,e,Nat.lt_of_lt_of_le hl ho.size,fun j v hj=>(ho.cell (by rw [Zl];exact hl) (by rw [Zl];exact hS h0 ad e)).trans (hx j v hj)⟩
section
variable {w w':World} {g:Nat} {q:PlV} {P:Pl} {ra:Option Addr} {rc i:Nat} {l:List Ac}
theorem Ckr.below (h:Ckr w g q P ra rc l i) (hb:Below w.heap.size w w'):Ckr w' g q P ra rc l i:=⟨h.c.below hb,h.s.below hb,h.na,h.ng,h.hc,h.hm,h.hl⟩
theorem Ckr.at_ (h:Ckr w g q P ra rc l i) (j:Nat):Ckr (w.setCell ⟨g,6,none⟩ (.int .i64 (j:Int))) g q P ra rc l j:=by
 have ho:Only (fun k=>k=g) w (w.setCell ⟨g,6,none⟩ (.int .i64 (j:Int))):=(Only.refl (fun k=>k=g) w).setCell (p:=⟨g,6,none⟩) (.inl rfl) _;refine ⟨⟨?_,h.c.gl,h.c.vl,h.c.tl,Zfn h.c.gs ho (fun h0 ad e=>h.ng h0 ad e),h.c.l⟩,Zfn h.s ho (fun _ ad e=>h.na ad e),h.na,h.ng,h.hc,h.hm,h.hl⟩;exact h.c.k.set_ 6 (.int .i64 (j:Int))
theorem Ziz (g:Nat) (w:World) (v:Value):Only (fun k=>k=g) w (w.setCell ⟨g,6,none⟩ v):=(Only.refl (fun k=>k=g) w).setCell (p:=⟨g,6,none⟩) (.inl rfl) _
end
def ZmV (g:Nat) (q:PlV) (P:Pl) (ra:Option Addr) (rc:Nat) (l:List Ac) (w:World) (r:Option (Nat×Int)) (en:Ending) (w':World):Prop :=
 Only (fun k=>k=g) w w'∧(∀e n,r=some (e,n)→en=.returned (.tuple #[.int .i64 n,.bool true])∧Ckr w' g q P ra rc l e)∧(r=none→∃n,en=.returned (.tuple #[.int .i64 n,.bool false]))
def ZkN (g:Nat) (q:PlV) (P:Pl) (ra:Option Addr) (rc:Nat) (l:List Ac) (w:World) (r:Option Nat) (en:Ending) (w':World):Prop :=
 Only (fun k=>k=g) w w'∧(∀e,r=some e→en=.returned (.bool true)∧Ckr w' g q P ra rc l e)∧(r=none→en=.returned (.bool false))
def ZdY (P:Pl) (f:Nat):Prop:=∀(w:World) (g:Nat) (q:PlV) (ra:Option Addr) (rc:Nat) (l:List Ac) (i:Nat) (what:Int),Ckr w g q P ra rc l i→l.length<f+i →
 Calls Try.prog 65 #[.pointer (some ⟨g,0,none⟩),.int .i64 what] w (ZmV g q P ra rc l w (Zo P l f i what))
def Zic (P:Pl) (f:Nat):Prop:=∀(w:World) (g:Nat) (q:PlV) (ra:Option Addr) (rc:Nat) (l:List Ac) (i:Nat) (kids:Int),Ckr w g q P ra rc l i→l.length<f+i→i≤l.length →
 Calls Try.prog 103 #[.pointer (some ⟨g,0,none⟩),.int .i64 kids] w (ZkN g q P ra rc l w (if kids<0 then none else Zs P l (Zo P l f) kids.toNat i))
theorem ZlM {P:Pl} {f:Nat} (hrow:ZdY P f):Zic P f:=by
 intro w g q ra rc l i kids h hf hil0;have HROW:=Za hrow;have HLE:=Za (Zgd P l f);have H0:=Za h;have hln:=h.hl;obtain ⟨r,hr⟩:∃r,(if kids<0 then none else Zs P l (Zo P l f) kids.toNat i)=r:=⟨_,rfl⟩;rw [hr];have HR:=Za hr;clear hr h hrow;go_enter Try.func103,Try.ntmps103;go_wp2_with fail;go_loopw [5] (fun t5 W=>∃(k e:Nat),t5=.int .i64 (k:Int)∧Ckr W g q P ra rc l e∧Only (fun x=>x=g) w W∧k≤e∧i≤e∧e≤l.length∧(k=0∨(k:Int)≤kids)∧(0≤kids→Zs P l (Zo P l f) (kids.toNat - k) e=r)) (fun t5 _=>kids.toNat - (intOf t5).toNat)
 case atStart=>exact ⟨0,i,rfl,H0.out,Only.refl _ _,Nat.zero_le _,lr_,hil0,.inl rfl,fun h0=>by have:=HR.out;rw [if_neg (by omega)] at this;exact this⟩
 case round =>
  obtain ⟨k,e,rfl,hc,ho,hke,hie,hel,hkk,hb⟩:=hrel;rename World=>W
  have HC:=Za hc;have HO:=Za ho;have HB:=Za hb;clear ho hb;have c5:W.cell? ⟨g,5,none⟩=some (.slice ra l.length rc):=by rw [hc.c.k.cell];rfl
  have c6:W.cell? ⟨g,6,none⟩=some (.int .i64 (e:Int)):=by rw [hc.c.k.cell];rfl
  have fz:=hc.c.k.frozen 6;have u1:=IntWalk.i64_in ((k:Int)+1) (by omega)
  by_cases hlt:(k:Int)<kids
  · have hm0:0<kids.toNat - k:=by omega
    have HBR:=Za (HB.out (by omega))
    by_cases hel2:e<l.length
    · have helI:(e:Int)<(l.length:Int):=by omega
      have heb:((e:Int)≥(l.length:Int))=False:=by simp;omega
      have hed:decide ((l.length:Int)≤(e:Int))=false:=by simp;omega
      have he0:(0:Int)≤(e:Int):=by omega
      obtain ⟨x,hx⟩:∃x,l[e]? = some x:=⟨_,ge_ hel2⟩;obtain ⟨ad,rfl,hab,q0,q1,q2,q3,q4,q5⟩:=Zq hc.s hx;have HX:=Za hx
      by_cases h9:x.k=9
      · have h9b:(x.k == 9)=true:=by simp [h9]
        have HH:=fun (W2:World) (hb2:Below W.heap.size W W2)=>Za (Znq W2 g q P (some ad) rc e l x (hc.c.below hb2) (hc.s.below hb2) hx h9 hc.hc hc.hm hc.hl)
        by_cases hh:handV P l e=0∨kids.toNat - k<handV P l e
        · have hrn:r=none:=by rw [←HBR.out];exact Zds hm0 hx h9 hh
          have HRN:=Za hrn;clear hrn
          by_cases hh0:handV P l e=0
          · rw [hh0] at HH;clear hc hx hh;go_wp2_with fail;go_quiet (fail);go_wp2_with fail;go_quiet (fail);go_wp2_with (go_at_call 136;refine (HH _ (Zc br_ _)).out.mono ?_;rintro en w2 ⟨rfl,hb2⟩;have HB2:=Za hb2;clear hb2);go_ret;refine ⟨(HO.out.drewN _).trans (Only.of_new HB2.out),fun e0 h0=>?_,fun _=>rfl⟩;rw [HRN.out] at h0
            cases h0
          · have hbig:kids<(k:Int)+(handV P l e:Int):=by omega
            obtain ⟨hv,hve⟩:=ZbU hh0;obtain ⟨v,hvv⟩:∃v,handV P l e=v:=⟨_,rfl⟩;rw [hvv] at HH hbig hve hh0 hv;have hv0:¬(v:Int)=0:=by omega
            have hv0b:((v:Int) == 0)=false:=by simp;omega
            have u3:=IntWalk.i64_in ((k:Int)+(v:Int)) (by omega);clear hc hx hh hvv;go_wp2_with fail;go_quiet (fail);go_wp2_with fail;go_quiet (fail);go_wp2_with (go_at_call 136;refine (HH _ (Zc br_ _)).out.mono ?_;rintro en w2 ⟨rfl,hb2⟩;have HB2:=Za hb2;clear hb2);go_ret;refine ⟨(HO.out.drewN _).trans (Only.of_new HB2.out),fun e0 h0=>?_,fun _=>rfl⟩;rw [HRN.out] at h0
            cases h0
        · obtain ⟨hv,hve⟩:=ZbU (P:=P) (l:=l) (i:=e) (fun h0=>hh (.inl h0));have hbh:=Za (ZbF (row:=Zo P l f) hm0 hx h9 (fun h0=>hh (.inl h0)) (Nat.not_lt.1 (fun h0=>hh (.inr h0))));obtain ⟨v,hvv⟩:∃v,handV P l e=v:=⟨_,rfl⟩;rw [hvv] at HH hbh hve hh hv;have hv0:¬(v:Int)=0:=by omega
          have hv0b:((v:Int) == 0)=false:=by simp;omega
          have hbig:¬kids<(k:Int)+(v:Int):=by omega
          have u3:=IntWalk.i64_in ((k:Int)+(v:Int)) (by omega);have u4a:=IntWalk.i64_in ((e:Int)+(v:Int)) (by omega);have u5a:=IntWalk.i64_in ((k:Int)+(v:Int) - 1) (by omega);have u6a:=IntWalk.i64_in ((k:Int)+(v:Int) - 1+1) (by omega);clear hc hx hvv;go_wp2_with fail;go_quiet (fail);go_wp2_with fail;go_quiet (fail);go_wp2_with (go_at_call 136;refine (HH _ (Zc br_ _)).out.mono ?_;rintro en w2 ⟨rfl,hb2⟩;have HB2:=Za hb2;clear hb2;have hc2:=HC.out.below (Zc br_ _ |>.trans (HB2.out.mono lr_));have HC2:=Za hc2;have d6:w2.cell? ⟨g,6,none⟩=some (.int .i64 (e:Int)):=(by rw [hc2.c.k.cell];rfl);have fz2:=hc2.c.k.frozen 6;clear hc2);go_roundw
          case rel =>
           refine ⟨k+v,e+v,by go_num,?_,?_,by omega,by omega,hve,.inr (by omega),fun h0=>?_⟩
           · have:=HC2.out.at_ (e+v);simpa using this
           · exact ((HO.out.drewN _).trans (Only.of_new HB2.out)).trans (Ziz g w2 _)
           · have:=HBR.out;rw [hbh.out] at this;rw [←this];congr 1;omega
          case measure =>
           simp only [intOf];omega
      · have h9b:(x.k == 9)=false:=by simp [h9]
        by_cases hbad:x.k=10∨x.k=11∨x.k=12
        · have hrn:r=none:=by rw [←HBR.out];exact ZeI hm0 hx hbad
          have HRN:=Za hrn;clear hrn hc hx;rcases hbad with e1 | e1 | e1
          all_goals
           rw [e1] at q0;clear e1 h9 h9b;go_wp2_with fail;go_quiet (fail);go_wp2_with fail;go_quiet (fail);go_wp2_with fail;go_ret;refine ⟨HO.out.drewN _,fun e0 h0=>?_,fun _=>rfl⟩;rw [HRN.out] at h0
           cases h0
        · have hb1:(x.k == 10)=false:=by simp;omega
          have hb2:(x.k == 11)=false:=by simp;omega
          have hb3:(x.k == 12)=false:=by simp;omega
          have hn1:¬x.k=10:=by omega
          have hn2:¬x.k=11:=by omega
          have hn3:¬x.k=12:=by omega
          have HRW:=fun (W2:World) (hb2:Below W.heap.size W W2)=>Za (HROW.out W2 g q (some ad) rc l e 0 (hc.below hb2) (by omega))
          cases hrw:Zo P l f e 0 with
          | none =>
           rw [hrw] at HRW;have hrn:r=none:=by rw [←HBR.out];exact ZdL hm0 hx h9 hbad hrw
           have HRN:=Za hrn;clear hrn hc hx hbad hrw;go_wp2_with fail;go_quiet (fail);go_wp2_with fail;go_quiet (fail);go_wp2_with (go_at_call 65;refine (HRW _ (Zc br_ _)).out.mono ?_;rintro en w2 ⟨ho2,-,hno2⟩;obtain ⟨n2,rfl⟩:=hno2 rfl;have HO2:=Za ho2;clear ho2 hno2);go_ret;refine ⟨(HO.out.drewN _).trans HO2.out,fun e0 h0=>?_,fun _=>rfl⟩;rw [HRN.out] at h0
           cases h0
          | some en =>
           obtain ⟨e2,n2⟩:=en;rw [hrw] at HRW;have hbr:=Za (Zct (P:=P) hm0 hx h9 hbad hrw);obtain ⟨l1,l2,l3,l4⟩:=HLE.out _ _ _ _ hrw;clear hc hx hbad hrw;go_wp2_with fail;go_quiet (fail);go_wp2_with fail;go_quiet (fail);go_wp2_with (go_at_call 65;refine (HRW _ (Zc br_ _)).out.mono ?_;rintro en w2 ⟨ho2,hso2,-⟩;obtain ⟨rfl,hc2⟩:=hso2 _ _ rfl;have HO2:=Za ho2;have HC2:=Za hc2;clear ho2 hso2 hc2);go_roundw
           case rel =>
            refine ⟨k+1,e2,by go_num,HC2.out,(HO.out.drewN _).trans HO2.out,by omega,by omega,l2,.inr (by omega),fun h0=>?_⟩;have:=HBR.out;rw [hbr.out] at this;rw [←this];congr 1
           case measure =>
            simp only [intOf];omega
    · have helI:¬(e:Int)<(l.length:Int):=by omega
      have hrn:r=none:=by rw [←HBR.out];exact ZeH hm0 (List.getElem?_eq_none (by omega))
      have HRN:=Za hrn;clear hrn hc;go_wp2_with fail;go_quiet (fail);go_wp2_with fail;go_ret;refine ⟨HO.out.drewN _,fun e0 h0=>?_,fun _=>rfl⟩;rw [HRN.out] at h0
      cases h0
  · clear hc;have hko:(decide ((0:Int)≤kids))=decide (0≤kids):=rfl;go_wp2_with fail;go_ret
    by_cases h0:kids<0
    · have hrn:r=none:=by rw [←HR.out,if_pos h0]
      refine ⟨HO.out,fun e0 h1=>?_,fun _=>?_⟩
      · rw [hrn] at h1
        cases h1
      · congr 2
        simp
        omega
    · have hre:r=some e:=by
       rw [←HB.out (by omega),show kids.toNat - k=0 by omega];exact Zcu
      refine ⟨HO.out,fun e0 h1=>?_,fun h1=>?_⟩
      · rw [hre] at h1;injection h1 with h1;subst h1;refine ⟨?_,HC.out⟩;congr 2
        simp
        omega
      · rw [hre] at h1
        cases h1
structure Grown (w:World) where
 v:World
 b:Below w.heap.size w v
instance (w:World):Nonempty (Grown w):=⟨⟨w,Below.refl _ _⟩⟩
theorem Za1 {P:Program} {id:Nat} {Q:Exit→Act→World→Prop} {a:Act} {w0 w:World} {l:List Oper} (hb:Below w0.heap.size w0 w) (hm:P.follows .mixedOrders=true) (hB:Region.lexB .any l.toArray=true)
 (h:wpQuiet P l.toArray (fun w'=>∃z:Grown w0,w'=z.v) (fun a'=>∀w',(∃z:Grown w0,w'=z.v)→Q .normal a' w') l a):(Code.region id l.toArray true).wp P Q a w :=
 wp_region_quiet (C:=fun w'=>∃z:Grown w0,w'=z.v) hm hB ⟨⟨_,hb.drew⟩,rfl⟩ (by simpa using h)
theorem ZaK {P:Program} {f:FuncId} {args:Array Value} {w:World} {z:Grown w} {v:Value} (h:Calls P f args z.v fun e w'=>e=.returned v∧Below z.v.heap.size z.v w'):Calls P f args z.v fun e w''=>e=.returned v∧∃z':Grown w,w''=z'.v :=
 h.mono fun _ _ ⟨he,hb⟩=>⟨he,⟨⟨_,z.b.trans (hb.mono z.b.size)⟩,rfl⟩⟩
theorem Zjr {P:Program} {f:FuncId} {args:Array Value} {w:World} {z:Grown w} {v:Value} (h:Calls P f args z.v fun e w'=>e=.returned v∧w'=z.v):Calls P f args z.v fun e w''=>e=.returned v∧∃z':Grown w,w''=z'.v :=
 h.mono fun _ _ ⟨he,hb⟩=>⟨he,⟨z,hb⟩⟩
theorem Zmh {P:Pl} {l:List Ac} {f i:Nat} {what:Int} (h:l[i]? = none):Zo P l (f+1) i what=none:=by simp [Zo,h]
theorem ZjO {P:Pl} {l:List Ac} {f i:Nat} {what:Int} {x:Ac} (h:l[i]? = some x) (hn:(ZE what x.k&&Zu P x)=false):Zo P l (f+1) i what=none:=by simp only [Zo,h,hn];simp
theorem ZjQ {P:Pl} {l:List Ac} {f i:Nat} {what:Int} {x:Ac} (h:l[i]? = some x) (hn:(ZE what x.k&&Zu P x)=true) (hk:x.k=1):Zo P l (f+1) i what=(if x.n<0 then none else Zs P l (Zo P l f) x.n.toNat (i+1)).map (·,0):=by
 rw [hk] at hn;simp only [Zo,h,hk,hn,if_true];split <;> rfl
theorem Zmi {P:Pl} {l:List Ac} {f i:Nat} {what:Int} {x:Ac} (h:l[i]? = some x) (hk:x.k≠1) (hl:x.n≠((kidsV x.k x.n).length:Int)):Zo P l (f+1) i what=none:=by
 simp only [Zo,h,hk,if_false,if_pos hl];split <;> rfl
def Zev:Option (Nat×Int)→Option (Nat×Int)
 | none=>none
 | some (e,w)=>if w≤256 then some (e,max w 1) else none
theorem Zk2 {P:Pl} {l:List Ac} {f i:Nat} {what:Int} {x:Ac} (h:l[i]? = some x) (hn:(ZE what x.k&&Zu P x)=true) (hk:x.k≠1) (hl:¬x.n≠((kidsV x.k x.n).length:Int)):Zo P l (f+1) i what=Zev (Zw l (Zo P l f) x.k (kidsV x.k x.n) 0 (i+1) 0 0):=by
 simp only [Zo,h,hn,if_true,hk,if_false,if_neg hl]
 cases Zw l (Zo P l f) x.k (kidsV x.k x.n) 0 (i+1) 0 0 with
 | none=>rfl
 | some en=>obtain ⟨e,w⟩:=en;rfl
theorem ZkM (a:Addr):a.add 1=⟨a.block,a.off+1,none⟩:=by simp [Addr.add]
theorem Zba {l:List Ac} {row:Nat→Int→Option (Nat×Int)} {xk kind wants wj wh n5:Int} {ks:List Int} {j e e5:Nat} {y:Ac} (hw:ks[j]? = some wj) (hwh:(if wj=4∧j=1 then Zn kind else wj)=wh) (hr:row e wh=some (e5,n5)) (hy:l[e]? = some y) :
 Zw l row xk (ks.drop j) j e kind wants=Zw l row xk (ks.drop (j+1)) (j+1) e5 y.k (max wants (if j=1∧19≤xk∧xk≠37∧xk≠38 then n5+1 else n5)):=by
 obtain ⟨hj,e1⟩:=gs_ hw;rw [List.drop_eq_getElem_cons hj,e1];simp only [Zw,hwh,hr,hy,Option.map_some,Option.getD_some]
theorem ZdD {l:List Ac} {row:Nat→Int→Option (Nat×Int)} {xk kind wants wj wh:Int} {ks:List Int} {j e:Nat} (hw:ks[j]? = some wj) (hwh:(if wj=4∧j=1 then Zn kind else wj)=wh) (hr:row e wh=none) :
 Zw l row xk (ks.drop j) j e kind wants=none:=by
 obtain ⟨hj,e1⟩:=gs_ hw;rw [List.drop_eq_getElem_cons hj,e1];simp only [Zw,hwh,hr]
theorem Zkd (k n:Int):(kidsV k n).length≤3:=by
 unfold kidsV
 repeat' split
 all_goals decide
theorem row_of {P:Pl} {f:Nat} (hrow:ZdY P f) (hblock:Zic P f):ZdY P (f+1):=by
 intro w g q ra rc l i what h hf;have HROW:=Za hrow;have HBLK:=Za hblock;have HLE:=Za (Zgd P l f);have HC:=Za h;have hln:=h.hl;obtain ⟨r,hr⟩:∃r,Zo P l (f+1) i what=r:=⟨_,rfl⟩;rw [hr];have HR:=Za hr;clear hr hrow hblock;have c5:w.cell? ⟨g,5,none⟩=some (.slice ra l.length rc):=by rw [h.c.k.cell];rfl
 have c6:w.cell? ⟨g,6,none⟩=some (.int .i64 (i:Int)):=by rw [h.c.k.cell];rfl
 by_cases hil:i<l.length
 · have hilI:(i:Int)<(l.length:Int):=by omega
   have hed:decide (l.length≤i)=false:=by simp;omega
   have he0:(0:Int)≤(i:Int):=by omega
   obtain ⟨x,hx⟩:∃x,l[i]? = some x:=⟨_,ge_ hil⟩;obtain ⟨ad,rfl,hab,q0,q1,q2,q3,q4,q5⟩:=Zq h.s hx;have HX:=Za hx;have HMAY:=fun (W:World)=>Za ((ZnB W what x.k).mono (fun en w2 hh=>(⟨hh.1,hh.2.symm⟩:en=.returned (.bool (ZE what x.k))∧w2=W)))
   cases hmy:ZE what x.k
   case false =>
    have hrn:r=none:=by rw [←HR.out];exact ZjO hx (by simp [hmy])
    have HRN:=Za hrn;simp only [hmy] at HMAY;clear hrn h hx hmy;go_enter Try.func65,Try.ntmps65;go_wp2_with fail;go_quiet (first | (go_at_call 101;exact Calls.quiet_of_same (HMAY _).out));go_wp2_with fail;go_ret2;refine ⟨(Only.refl _ w).drewN _,fun e n h0=>?_,fun _=>⟨_,rfl⟩⟩;rw [HRN.out] at h0
    cases h0
   case true =>
    have hrw:ZbM w (ad.add (i*6)) x:=⟨q0,q1,q2,q3,q4,q5⟩;have hgr:=fun (z:Grown w)=>hrw.below (by rw [Zl];exact hab) z.b
    unfold ZbM at hgr;have g5:∀z:Grown w,z.v.cell? ⟨g,5,none⟩=some (.slice (some ad) l.length rc):=fun z=>(z.b.cell h.c.k.lt).trans c5
    have g6:∀z:Grown w,z.v.cell? ⟨g,6,none⟩=some (.int .i64 (i:Int)):=fun z=>(z.b.cell h.c.k.lt).trans c6
    have p0:=fun z=>(hgr z).1
    have p1:=fun z=>(hgr z).2.1
    have p2:=fun z=>(hgr z).2.2.1
    have p3:=fun z=>(hgr z).2.2.2.1
    have p4:=fun z=>(hgr z).2.2.2.2.1
    have p5:=fun z=>(hgr z).2.2.2.2.2
    have HNUM:=fun (z:Grown w)=>Za (ZgN z.v g q P (some ad) l.length rc i x (h.c.below z.b))
    simp only [Ac.val] at HNUM;simp only [hmy] at HMAY;clear h hx hgr hrw;go_enter Try.func65,Try.ntmps65;go_wp2_with fail;refine Za1 (Below.refl w.heap.size w) (by kernel_rfl) (by kernel_rfl) ?_
    repeat (go_big_quiet_step (first | (go_at_call 101;exact Zjr (HMAY _).out) | (go_at_call 102;exact ZaK (HNUM _).out)))
    refine wpQuiet_nil ?_;intro w1 hw1;obtain ⟨⟨w1,hb1⟩,rfl⟩:=hw1;clear g5 g6 p0 p1 p2 p3 p4 p5 HNUM;have HB1:=Za hb1
    cases hnv:Zu P x
    case false =>
     have hrn:r=none:=by rw [←HR.out];exact ZjO HX.out (by simp [hnv])
     have HRN:=Za hrn;clear hrn hnv hb1;go_wp2_with fail;go_ret2;refine ⟨Only.of_new HB1.out,fun e n h0=>?_,fun _=>⟨_,rfl⟩⟩;rw [HRN.out] at h0
     cases h0
    case true =>
     have HMN:=Za (show (ZE what x.k&&Zu P x)=true by simp [hmy,hnv]);have hck:=HC.out.below hb1;have d5:w1.cell? ⟨g,5,none⟩=some (.slice (some ad) l.length rc):=by rw [hck.c.k.cell];rfl
     have d6:w1.cell? ⟨g,6,none⟩=some (.int .i64 (i:Int)):=by rw [hck.c.k.cell];rfl
     obtain ⟨ad',e,hab1,q0,q1,q2,q3,q4,q5⟩:=Zq hck.s HX.out
     cases e
     have HCK:=Za hck;have hgl1:=hck.c.k.lt;clear hck hb1 hnv hmy HMAY;go_wp2_with fail;have pa:=fun (o:Obj)=>(Below.refl w1.heap.size w1).alloc lr_ o
     have pa0:=fun (o:Obj)=>((pa o).cell (p:=ad.add (i*6)) (by rw [Zl];exact hab1)).trans q0
     have pa1:=fun (o:Obj)=>((pa o).cell (p:=⟨(ad.add (i*6)).block,(ad.add (i*6)).off+1,none⟩) (by show (ad.add (i*6)).block<_;rw [Zl];exact hab1)).trans q1
     have pa2:=fun (o:Obj)=>((pa o).cell (p:=⟨(ad.add (i*6)).block,(ad.add (i*6)).off+2,none⟩) (by show (ad.add (i*6)).block<_;rw [Zl];exact hab1)).trans q2
     have pa3:=fun (o:Obj)=>((pa o).cell (p:=⟨(ad.add (i*6)).block,(ad.add (i*6)).off+3,none⟩) (by show (ad.add (i*6)).block<_;rw [Zl];exact hab1)).trans q3
     have pa4:=fun (o:Obj)=>((pa o).cell (p:=⟨(ad.add (i*6)).block,(ad.add (i*6)).off+4,none⟩) (by show (ad.add (i*6)).block<_;rw [Zl];exact hab1)).trans q4
     have pa5:=fun (o:Obj)=>((pa o).cell (p:=⟨(ad.add (i*6)).block,(ad.add (i*6)).off+5,none⟩) (by show (ad.add (i*6)).block<_;rw [Zl];exact hab1)).trans q5
     have pb5:=fun (o:Obj)=>((pa o).cell (p:=⟨g,5,none⟩) hgl1).trans d5
     have pb6:=fun (o:Obj)=>((pa o).cell (p:=⟨g,6,none⟩) hgl1).trans d6
     clear pa;go_region;have hb2:Below w1.heap.size w1 (w1.alloc (.cells #[.int .i64 x.k,.int .i64 x.a,.int .i64 x.b,.int .i64 x.c,.int .i64 x.d,.int .i64 x.n] 49)).drew:=((Below.refl _ w1).alloc lr_ _).drew;have hbox:Blk (w1.alloc (.cells #[.int .i64 x.k,.int .i64 x.a,.int .i64 x.b,.int .i64 x.c,.int .i64 x.d,.int .i64 x.n] 49)).drew w1.heap.size 49 #[.int .i64 x.k,.int .i64 x.a,.int .i64 x.b,.int .i64 x.c,.int .i64 x.d,.int .i64 x.n]:=Blk.new w1 _ _;have hck2:=HCK.out.below hb2;have hbw:=HB1.out.trans (hb2.mono HB1.out.size);have hgx:g≠w1.heap.size:=by omega
     clear hb2 pa0 pa1 pa2 pa3 pa4 pa5 pb5 pb6 d5 d6 q0 q1 q2 q3 q4 q5 c5 c6;generalize (w1.alloc (.cells #[.int .i64 x.k,.int .i64 x.a,.int .i64 x.b,.int .i64 x.c,.int .i64 x.d,.int .i64 x.n] 49)).drew=w2 at *;generalize w1.heap.size=bx at *
     have hat:Ckr (w2.setCell ⟨g,6,none⟩ (.int .i64 ((i:Int)+1))) g q P (some ad) rc l (i+1):=by
      have:=hck2.at_ (i+1);simpa using this
     have hon:Only (fun k=>k=g) w (w2.setCell ⟨g,6,none⟩ (.int .i64 ((i:Int)+1))):=(Only.of_new hbw).trans (Ziz g w2 _);have hbx2:=hbox.far (p:=⟨g,6,none⟩) (fun e=>hgx e.symm) (.int .i64 ((i:Int)+1));have e5:w2.cell? ⟨g,5,none⟩=some (.slice (some ad) l.length rc):=by rw [hck2.c.k.cell];rfl
     have e6:w2.cell? ⟨g,6,none⟩=some (.int .i64 (i:Int)):=by rw [hck2.c.k.cell];rfl
     have fz:=hck2.c.k.frozen 6;have b0:w2.cell? ⟨bx,0,none⟩=some (.int .i64 x.k):=by rw [hbox.cell];rfl
     have b5:w2.cell? ⟨bx,5,none⟩=some (.int .i64 x.n):=by rw [hbox.cell];rfl
     have HAT:=Za hat;have HON:=Za hon;have HBX:=Za hbx2;have HBX2:=Za hbox;clear hat hon hbx2 hbw hck2 hbox hgl1 hab1 hab HB1 HCK;have u1:=IntWalk.i64_in ((i:Int)+1) (by omega)
     by_cases hk1:x.k=1
     · have hk1b:(x.k == 1)=true:=by simp [hk1]
       have HBC:=Za (HBLK.out _ g q (some ad) rc l (i+1) x.n HAT.out (by omega) (by omega));have hrb:r=(if x.n<0 then none else Zs P l (Zo P l f) x.n.toNat (i+1)).map (·,0):=by rw [←HR.out];exact ZjQ HX.out HMN.out hk1
       obtain ⟨bv,hbv⟩:∃bv,(if x.n<0 then none else Zs P l (Zo P l f) x.n.toNat (i+1))=bv:=⟨_,rfl⟩;rw [hbv] at HBC hrb;have HRB:=Za hrb;clear hrb hbv
       cases bv with
       | none =>
        go_wp2_with (go_at_call 103;refine HBC.out.mono ?_;rintro en w5 ⟨ho5,-,hn5⟩;obtain rfl:=hn5 rfl;have HO5:=Za ho5;clear ho5 hn5);go_ret2;refine ⟨HON.out.trans HO5.out,fun e n h0=>?_,fun _=>⟨_,rfl⟩⟩;rw [HRB.out] at h0
        cases h0
       | some ev =>
        go_wp2_with (go_at_call 103;refine HBC.out.mono ?_;rintro en w5 ⟨ho5,hn5,-⟩;obtain ⟨rfl,hc5⟩:=hn5 _ rfl;have HO5:=Za ho5;have HC5:=Za hc5;clear ho5 hn5 hc5);go_ret2;refine ⟨HON.out.trans HO5.out,fun e n h0=>?_,fun h0=>?_⟩
        · rw [HRB.out] at h0;simp only [Option.map_some,Option.some.injEq,Prod.mk.injEq] at h0;obtain ⟨rfl,rfl⟩:=h0;exact ⟨rfl,HC5.out⟩
        · rw [HRB.out] at h0
          cases h0
     · have hk1b:(x.k == 1)=false:=by simp [hk1]
       have b1:w2.cell? ⟨bx,1,none⟩=some (.int .i64 x.a):=by rw [HBX2.out.cell];rfl
       have b2:w2.cell? ⟨bx,2,none⟩=some (.int .i64 x.b):=by rw [HBX2.out.cell];rfl
       have b3:w2.cell? ⟨bx,3,none⟩=some (.int .i64 x.c):=by rw [HBX2.out.cell];rfl
       have b4:w2.cell? ⟨bx,4,none⟩=some (.int .i64 x.d):=by rw [HBX2.out.cell];rfl
       have HKO:=fun (W:World)=>Za (Zlg W x)
       simp only [Ac.val] at HKO;have hkl:=Zkd x.k x.n;have hgw:=HAT.out.c.k.lt
       by_cases hxl:x.n≠((kidsV x.k x.n).length:Int)
       · have hrn:r=none:=by rw [←HR.out];exact Zmi HX.out hk1 hxl
         have HRN:=Za hrn;generalize kidsV x.k x.n=ks at *;have hxb:(x.n != (ks.length:Int))=true:=by simpa using hxl
         clear hrn;go_wp2_with (go_at_call 104;refine (HKO _).out.mono ?_;rintro en w4 ⟨oa7,rfl,hs7,hn7,hb7⟩;have HCK4:=Za (HAT.out.below hb7);have HON4:=Za (HON.out.trans (Only.of_new hb7));have HBX4:=Za (HBX.out.below hb7 HBX.out.lt);have HS7:=Za hs7;have HN7:=Za hn7;have k0:w4.cell? ⟨bx,0,none⟩=some (.int .i64 x.k):=(by rw [HBX4.out.cell];rfl);have k5:w4.cell? ⟨bx,5,none⟩=some (.int .i64 x.n):=(by rw [HBX4.out.cell];rfl);clear hs7 hn7 hb7);go_ret2;refine ⟨HON4.out,fun e n h0=>?_,fun _=>⟨_,rfl⟩⟩;rw [HRN.out] at h0
         cases h0
       · have hrk:=Zk2 HX.out HMN.out hk1 hxl (f:=f);rw [HR.out] at hrk;generalize kidsV x.k x.n=ks at *;obtain ⟨R,hR⟩:∃R,Zw l (Zo P l f) x.k ks 0 (i+1) 0 0=R:=⟨_,rfl⟩;rw [hR] at hrk;have HRK:=Za hrk;have HR0:=Za hR;have hxe:x.n=(ks.length:Int):=by omega
         have hxb:(x.n != (ks.length:Int))=false:=by simp [hxe]
         clear hrk hR hxe hxl;go_wp2_with (go_at_call 104;refine (HKO _).out.mono ?_;rintro en w4 ⟨oa7,rfl,hs7,hn7,hb7⟩;have HCK4:=Za (HAT.out.below hb7);have HON4:=Za (HON.out.trans (Only.of_new hb7));have HBX4:=Za (HBX.out.below hb7 HBX.out.lt);have HS7:=Za hs7;have HN7:=Za hn7;have k0:w4.cell? ⟨bx,0,none⟩=some (.int .i64 x.k):=(by rw [HBX4.out.cell];rfl);have k5:w4.cell? ⟨bx,5,none⟩=some (.int .i64 x.n):=(by rw [HBX4.out.cell];rfl);clear hs7 hn7 hb7);go_loopw [4,8,88] (fun t4 t8 t88 W=>∃(j e:Nat) (kind wants:Int),t4=.int .i64 wants∧t8=.int .i64 kind∧t88=.int .i64 (j:Int)∧j≤ks.length∧Ckr W g q P (some ad) rc l e∧Only (fun k=>k=g) w4 W∧i+1≤e∧e≤l.length∧0≤wants∧wants≤257∧Zw l (Zo P l f) x.k (ks.drop j) j e kind wants=R) (fun _ _ t88 _=>ks.length - (intOf t88).toNat)
         case atStart=>exact ⟨0,i+1,0,0,rfl,rfl,rfl,Nat.zero_le _,HCK4.out,Only.refl _ _,lr_,by omega,Int.le_refl _,by omega,HR0.out⟩
         case round =>
          obtain ⟨j,e,kind,wants,rfl,rfl,rfl,hj,hck,ho,hie,hel,hw0,hw1,hkr⟩:=hrel;rename World=>W
          have HO:=Za ho;have HKR:=Za hkr;have HCKW:=Za hck;have u2:=IntWalk.i64_in ((j:Int)+1) (by omega)
          by_cases hjm:j<ks.length
          · have hjI:(j:Int)<(ks.length:Int):=by omega
            obtain ⟨wj,hwj⟩:∃wj,ks[j]? = some wj:=⟨_,ge_ hjm⟩;have hsrc:=Zfn HS7.out ho (fun _ a7 e7 h7=>by have:=HN7.out a7 e7;omega);obtain ⟨a7,e7,_,hcell⟩:=hsrc (by omega);subst e7;have k7:W.cell? (a7.add j)=some (.int .i64 wj):=hcell j _ (by simp [Zm,hwj]);have d5:W.cell? ⟨g,5,none⟩=some (.slice (some ad) l.length rc):=by rw [hck.c.k.cell];rfl
            have d6:W.cell? ⟨g,6,none⟩=some (.int .i64 (e:Int)):=by rw [hck.c.k.cell];rfl
            have HWJ:=Za hwj;clear hsrc hcell hwj ho hkr;have HTY:=fun (W:World)=>Za (Zhn W kind)
            obtain ⟨wh,hwh⟩:∃wh,(if wj=4∧j=1 then Zn kind else wj)=wh:=⟨_,rfl⟩;have HRW:=Za (HROW.out W g q (some ad) rc l e wh hck (by omega));clear hck;have hbw:=HBX4.out.only HO.out (fun e=>hgx e.symm);have k0w:W.cell? ⟨bx,0,none⟩=some (.int .i64 x.k):=by rw [hbw.cell];rfl
            have HBW:=Za hbw;have hei:e<l.length∨e=l.length:=by omega
            clear hbw k0 k5 b0 b1 b2 b3 b4 b5 e5 e6 fz q0 q1 q2 q3 q4 q5 HKO hgw hxb;have HGX:=Za (show ¬bx=g by omega)
            by_cases hw4:wj=4
            · subst hw4
              by_cases hj1:j=1
              · subst hj1;rw [ZkM] at k7;have hjI1:(1:Int)<(ks.length:Int):=by omega
                have HWH:=Za hwh;rw [if_pos ⟨rfl,rfl⟩] at hwh;subst hwh
                cases hrv:Zo P l f e (Zn kind) with
                | none =>
                 rw [hrv] at HRW;have HRN:=Za (show r=none by rw [HRK.out,←HKR.out,ZdD HWJ.out HWH.out hrv];rfl);clear hrv;go_wp2_with (first | (go_at_call 105;refine (HTY _).out.mono ?_;rintro en w6 ⟨rfl,rfl⟩) | (go_at_call 65;refine HRW.out.mono ?_;rintro en w5 ⟨ho5,-,hno5⟩;obtain ⟨n5,rfl⟩:=hno5 rfl;have HO5:=Za ho5;clear ho5 hno5));go_ret2;refine ⟨(HON4.out.trans HO.out).trans HO5.out,fun e1 n1 h1=>?_,fun _=>⟨_,rfl⟩⟩;rw [HRN.out] at h1
                 cases h1
                | some en =>
                 obtain ⟨e5,n5⟩:=en;rw [hrv] at HRW;obtain ⟨l1,l2,l3,l4⟩:=HLE.out _ _ _ _ hrv;have u3:=IntWalk.i64_in (n5+1) (by omega);have heI:(e:Int)<(l.length:Int):=by omega
                 have heI0:(0:Int)≤(e:Int):=by omega
                 obtain ⟨y,hy⟩:∃y,l[e]? = some y:=⟨_,ge_ (by omega)⟩;have HY:=Za hy;clear hy
                 by_cases h19:19≤x.k
                 · have h19b:decide (19≤x.k)=true:=by simp [h19]
                   by_cases h37:x.k=37
                   · have h37b:(x.k != 37)=false:=by simp [h37]
                     have HKS:=Za ((Zba (xk:=x.k) (wants:=wants) HWJ.out HWH.out hrv HY.out).trans (by rw [if_neg (by omega)]));clear hrv
                     try clear h37
                     try clear h38
                     go_wp2_with (first | (go_at_call 105;refine (HTY _).out.mono ?_;rintro en w6 ⟨rfl,rfl⟩) | (go_at_call 65;refine HRW.out.mono ?_;rintro en w5 ⟨ho5,hso5,-⟩;obtain ⟨rfl,hc5⟩:=hso5 _ _ rfl;have m5:w5.cell? ⟨g,5,none⟩=some (.slice (some ad) l.length rc):=(by rw [hc5.c.k.cell];rfl);obtain ⟨ad',e9,_,y0,y1,y2,y3,y4,y5⟩:=Zq hc5.s HY.out;cases e9;have k0x:w5.cell? ⟨bx,0,none⟩=some (.int .i64 x.k):=(by rw [(HBW.out.only ho5 HGX.out).cell];rfl);have HO5:=Za ho5;have HC5:=Za hc5;clear ho5 hso5 hc5))
                     all_goals
                      go_roundw
                      case rel =>
                       refine ⟨1+1,e5,y.k,max wants (n5),by first | rfl | exact congrArg (Value.int .i64) (by omega),rfl,by first | rfl | go_num,by omega,HC5.out,HO.out.trans HO5.out,by omega,l2,by omega,by omega,?_⟩;have h9:=HKR.out;rw [HKS.out] at h9;exact h9
                      case measure =>
                       simp only [intOf];omega
                   · have h37b:(x.k != 37)=true:=by simp [h37]
                     by_cases h38:x.k=38
                     · have h38b:(x.k != 38)=false:=by simp [h38]
                       have HKS:=Za ((Zba (xk:=x.k) (wants:=wants) HWJ.out HWH.out hrv HY.out).trans (by rw [if_neg (by omega)]));clear hrv
                       try clear h37
                       try clear h38
                       go_wp2_with (first | (go_at_call 105;refine (HTY _).out.mono ?_;rintro en w6 ⟨rfl,rfl⟩) | (go_at_call 65;refine HRW.out.mono ?_;rintro en w5 ⟨ho5,hso5,-⟩;obtain ⟨rfl,hc5⟩:=hso5 _ _ rfl;have m5:w5.cell? ⟨g,5,none⟩=some (.slice (some ad) l.length rc):=(by rw [hc5.c.k.cell];rfl);obtain ⟨ad',e9,_,y0,y1,y2,y3,y4,y5⟩:=Zq hc5.s HY.out;cases e9;have k0x:w5.cell? ⟨bx,0,none⟩=some (.int .i64 x.k):=(by rw [(HBW.out.only ho5 HGX.out).cell];rfl);have HO5:=Za ho5;have HC5:=Za hc5;clear ho5 hso5 hc5))
                       all_goals
                        go_roundw
                        case rel =>
                         refine ⟨1+1,e5,y.k,max wants (n5),by first | rfl | exact congrArg (Value.int .i64) (by omega),rfl,by first | rfl | go_num,by omega,HC5.out,HO.out.trans HO5.out,by omega,l2,by omega,by omega,?_⟩;have h9:=HKR.out;rw [HKS.out] at h9;exact h9
                        case measure =>
                         simp only [intOf];omega
                     · have h38b:(x.k != 38)=true:=by simp [h38]
                       have HKS:=Za ((Zba (xk:=x.k) (wants:=wants) HWJ.out HWH.out hrv HY.out).trans (by rw [if_pos (by omega)]));clear hrv
                       try clear h37
                       try clear h38
                       go_wp2_with (first | (go_at_call 105;refine (HTY _).out.mono ?_;rintro en w6 ⟨rfl,rfl⟩) | (go_at_call 65;refine HRW.out.mono ?_;rintro en w5 ⟨ho5,hso5,-⟩;obtain ⟨rfl,hc5⟩:=hso5 _ _ rfl;have m5:w5.cell? ⟨g,5,none⟩=some (.slice (some ad) l.length rc):=(by rw [hc5.c.k.cell];rfl);obtain ⟨ad',e9,_,y0,y1,y2,y3,y4,y5⟩:=Zq hc5.s HY.out;cases e9;have k0x:w5.cell? ⟨bx,0,none⟩=some (.int .i64 x.k):=(by rw [(HBW.out.only ho5 HGX.out).cell];rfl);have HO5:=Za ho5;have HC5:=Za hc5;clear ho5 hso5 hc5))
                       all_goals
                        go_roundw
                        case rel =>
                         refine ⟨1+1,e5,y.k,max wants (n5+1),by first | rfl | exact congrArg (Value.int .i64) (by omega),rfl,by first | rfl | go_num,by omega,HC5.out,HO.out.trans HO5.out,by omega,l2,by omega,by omega,?_⟩;have h9:=HKR.out;rw [HKS.out] at h9;exact h9
                        case measure =>
                         simp only [intOf];omega
                 · have h19b:decide (19≤x.k)=false:=by simp [h19]
                   have HKS:=Za ((Zba (xk:=x.k) (wants:=wants) HWJ.out HWH.out hrv HY.out).trans (by rw [if_neg (by omega)]));clear hrv
                   try clear h37
                   try clear h38
                   go_wp2_with (first | (go_at_call 105;refine (HTY _).out.mono ?_;rintro en w6 ⟨rfl,rfl⟩) | (go_at_call 65;refine HRW.out.mono ?_;rintro en w5 ⟨ho5,hso5,-⟩;obtain ⟨rfl,hc5⟩:=hso5 _ _ rfl;have m5:w5.cell? ⟨g,5,none⟩=some (.slice (some ad) l.length rc):=(by rw [hc5.c.k.cell];rfl);obtain ⟨ad',e9,_,y0,y1,y2,y3,y4,y5⟩:=Zq hc5.s HY.out;cases e9;have k0x:w5.cell? ⟨bx,0,none⟩=some (.int .i64 x.k):=(by rw [(HBW.out.only ho5 HGX.out).cell];rfl);have HO5:=Za ho5;have HC5:=Za hc5;clear ho5 hso5 hc5))
                   all_goals
                    go_roundw
                    case rel =>
                     refine ⟨1+1,e5,y.k,max wants (n5),by first | rfl | exact congrArg (Value.int .i64) (by omega),rfl,by first | rfl | go_num,by omega,HC5.out,HO.out.trans HO5.out,by omega,l2,by omega,by omega,?_⟩;have h9:=HKR.out;rw [HKS.out] at h9;exact h9
                    case measure =>
                     simp only [intOf];omega
              · have hj1b:((j:Int) == 1)=false:=by simp;omega
                have hj1i:¬(j:Int)=1:=by omega
                have HWH:=Za hwh;rw [if_neg (fun h=>hj1 h.2)] at hwh;subst hwh
                cases hrv:Zo P l f e (4) with
                | none =>
                 rw [hrv] at HRW;have HRN:=Za (show r=none by rw [HRK.out,←HKR.out,ZdD HWJ.out HWH.out hrv];rfl);clear hrv;go_wp2_with (go_at_call 65;refine HRW.out.mono ?_;rintro en w5 ⟨ho5,-,hno5⟩;obtain ⟨n5,rfl⟩:=hno5 rfl;have HO5:=Za ho5;clear ho5 hno5);go_ret2;refine ⟨(HON4.out.trans HO.out).trans HO5.out,fun e1 n1 h1=>?_,fun _=>⟨_,rfl⟩⟩;rw [HRN.out] at h1
                 cases h1
                | some en =>
                 obtain ⟨e5,n5⟩:=en;rw [hrv] at HRW;obtain ⟨l1,l2,l3,l4⟩:=HLE.out _ _ _ _ hrv;have u3:=IntWalk.i64_in (n5+1) (by omega);have heI:(e:Int)<(l.length:Int):=by omega
                 have heI0:(0:Int)≤(e:Int):=by omega
                 obtain ⟨y,hy⟩:∃y,l[e]? = some y:=⟨_,ge_ (by omega)⟩;have HY:=Za hy;clear hy;have HKS:=Za ((Zba (xk:=x.k) (wants:=wants) HWJ.out HWH.out hrv HY.out).trans (by rw [if_neg (by omega)]));clear hrv
                 try clear h37
                 try clear h38
                 go_wp2_with (go_at_call 65;refine HRW.out.mono ?_;rintro en w5 ⟨ho5,hso5,-⟩;obtain ⟨rfl,hc5⟩:=hso5 _ _ rfl;have m5:w5.cell? ⟨g,5,none⟩=some (.slice (some ad) l.length rc):=(by rw [hc5.c.k.cell];rfl);obtain ⟨ad',e9,_,y0,y1,y2,y3,y4,y5⟩:=Zq hc5.s HY.out;cases e9;have k0x:w5.cell? ⟨bx,0,none⟩=some (.int .i64 x.k):=(by rw [(HBW.out.only ho5 HGX.out).cell];rfl);have HO5:=Za ho5;have HC5:=Za hc5;clear ho5 hso5 hc5)
                 all_goals
                  go_roundw
                  case rel =>
                   refine ⟨j+1,e5,y.k,max wants (n5),by first | rfl | exact congrArg (Value.int .i64) (by omega),rfl,by first | rfl | go_num,by omega,HC5.out,HO.out.trans HO5.out,by omega,l2,by omega,by omega,?_⟩;have h9:=HKR.out;rw [HKS.out] at h9;exact h9
                  case measure =>
                   simp only [intOf];omega
            · have hw4b:(wj == 4)=false:=by simp [hw4]
              by_cases hj1:j=1
              · subst hj1;rw [ZkM] at k7;have hjI1:(1:Int)<(ks.length:Int):=by omega
                have HWH:=Za hwh;rw [if_neg (fun h=>hw4 h.1)] at hwh;subst hwh
                cases hrv:Zo P l f e (wj) with
                | none =>
                 rw [hrv] at HRW;have HRN:=Za (show r=none by rw [HRK.out,←HKR.out,ZdD HWJ.out HWH.out hrv];rfl);clear hrv;go_wp2_with (go_at_call 65;refine HRW.out.mono ?_;rintro en w5 ⟨ho5,-,hno5⟩;obtain ⟨n5,rfl⟩:=hno5 rfl;have HO5:=Za ho5;clear ho5 hno5);go_ret2;refine ⟨(HON4.out.trans HO.out).trans HO5.out,fun e1 n1 h1=>?_,fun _=>⟨_,rfl⟩⟩;rw [HRN.out] at h1
                 cases h1
                | some en =>
                 obtain ⟨e5,n5⟩:=en;rw [hrv] at HRW;obtain ⟨l1,l2,l3,l4⟩:=HLE.out _ _ _ _ hrv;have u3:=IntWalk.i64_in (n5+1) (by omega);have heI:(e:Int)<(l.length:Int):=by omega
                 have heI0:(0:Int)≤(e:Int):=by omega
                 obtain ⟨y,hy⟩:∃y,l[e]? = some y:=⟨_,ge_ (by omega)⟩;have HY:=Za hy;clear hy
                 by_cases h19:19≤x.k
                 · have h19b:decide (19≤x.k)=true:=by simp [h19]
                   by_cases h37:x.k=37
                   · have h37b:(x.k != 37)=false:=by simp [h37]
                     have HKS:=Za ((Zba (xk:=x.k) (wants:=wants) HWJ.out HWH.out hrv HY.out).trans (by rw [if_neg (by omega)]));clear hrv
                     try clear h37
                     try clear h38
                     go_wp2_with (go_at_call 65;refine HRW.out.mono ?_;rintro en w5 ⟨ho5,hso5,-⟩;obtain ⟨rfl,hc5⟩:=hso5 _ _ rfl;have m5:w5.cell? ⟨g,5,none⟩=some (.slice (some ad) l.length rc):=(by rw [hc5.c.k.cell];rfl);obtain ⟨ad',e9,_,y0,y1,y2,y3,y4,y5⟩:=Zq hc5.s HY.out;cases e9;have k0x:w5.cell? ⟨bx,0,none⟩=some (.int .i64 x.k):=(by rw [(HBW.out.only ho5 HGX.out).cell];rfl);have HO5:=Za ho5;have HC5:=Za hc5;clear ho5 hso5 hc5)
                     all_goals
                      go_roundw
                      case rel =>
                       refine ⟨1+1,e5,y.k,max wants (n5),by first | rfl | exact congrArg (Value.int .i64) (by omega),rfl,by first | rfl | go_num,by omega,HC5.out,HO.out.trans HO5.out,by omega,l2,by omega,by omega,?_⟩;have h9:=HKR.out;rw [HKS.out] at h9;exact h9
                      case measure =>
                       simp only [intOf];omega
                   · have h37b:(x.k != 37)=true:=by simp [h37]
                     by_cases h38:x.k=38
                     · have h38b:(x.k != 38)=false:=by simp [h38]
                       have HKS:=Za ((Zba (xk:=x.k) (wants:=wants) HWJ.out HWH.out hrv HY.out).trans (by rw [if_neg (by omega)]));clear hrv
                       try clear h37
                       try clear h38
                       go_wp2_with (go_at_call 65;refine HRW.out.mono ?_;rintro en w5 ⟨ho5,hso5,-⟩;obtain ⟨rfl,hc5⟩:=hso5 _ _ rfl;have m5:w5.cell? ⟨g,5,none⟩=some (.slice (some ad) l.length rc):=(by rw [hc5.c.k.cell];rfl);obtain ⟨ad',e9,_,y0,y1,y2,y3,y4,y5⟩:=Zq hc5.s HY.out;cases e9;have k0x:w5.cell? ⟨bx,0,none⟩=some (.int .i64 x.k):=(by rw [(HBW.out.only ho5 HGX.out).cell];rfl);have HO5:=Za ho5;have HC5:=Za hc5;clear ho5 hso5 hc5)
                       all_goals
                        go_roundw
                        case rel =>
                         refine ⟨1+1,e5,y.k,max wants (n5),by first | rfl | exact congrArg (Value.int .i64) (by omega),rfl,by first | rfl | go_num,by omega,HC5.out,HO.out.trans HO5.out,by omega,l2,by omega,by omega,?_⟩;have h9:=HKR.out;rw [HKS.out] at h9;exact h9
                        case measure =>
                         simp only [intOf];omega
                     · have h38b:(x.k != 38)=true:=by simp [h38]
                       have HKS:=Za ((Zba (xk:=x.k) (wants:=wants) HWJ.out HWH.out hrv HY.out).trans (by rw [if_pos (by omega)]));clear hrv
                       try clear h37
                       try clear h38
                       go_wp2_with (go_at_call 65;refine HRW.out.mono ?_;rintro en w5 ⟨ho5,hso5,-⟩;obtain ⟨rfl,hc5⟩:=hso5 _ _ rfl;have m5:w5.cell? ⟨g,5,none⟩=some (.slice (some ad) l.length rc):=(by rw [hc5.c.k.cell];rfl);obtain ⟨ad',e9,_,y0,y1,y2,y3,y4,y5⟩:=Zq hc5.s HY.out;cases e9;have k0x:w5.cell? ⟨bx,0,none⟩=some (.int .i64 x.k):=(by rw [(HBW.out.only ho5 HGX.out).cell];rfl);have HO5:=Za ho5;have HC5:=Za hc5;clear ho5 hso5 hc5)
                       all_goals
                        go_roundw
                        case rel =>
                         refine ⟨1+1,e5,y.k,max wants (n5+1),by first | rfl | exact congrArg (Value.int .i64) (by omega),rfl,by first | rfl | go_num,by omega,HC5.out,HO.out.trans HO5.out,by omega,l2,by omega,by omega,?_⟩;have h9:=HKR.out;rw [HKS.out] at h9;exact h9
                        case measure =>
                         simp only [intOf];omega
                 · have h19b:decide (19≤x.k)=false:=by simp [h19]
                   have HKS:=Za ((Zba (xk:=x.k) (wants:=wants) HWJ.out HWH.out hrv HY.out).trans (by rw [if_neg (by omega)]));clear hrv
                   try clear h37
                   try clear h38
                   go_wp2_with (go_at_call 65;refine HRW.out.mono ?_;rintro en w5 ⟨ho5,hso5,-⟩;obtain ⟨rfl,hc5⟩:=hso5 _ _ rfl;have m5:w5.cell? ⟨g,5,none⟩=some (.slice (some ad) l.length rc):=(by rw [hc5.c.k.cell];rfl);obtain ⟨ad',e9,_,y0,y1,y2,y3,y4,y5⟩:=Zq hc5.s HY.out;cases e9;have k0x:w5.cell? ⟨bx,0,none⟩=some (.int .i64 x.k):=(by rw [(HBW.out.only ho5 HGX.out).cell];rfl);have HO5:=Za ho5;have HC5:=Za hc5;clear ho5 hso5 hc5)
                   all_goals
                    go_roundw
                    case rel =>
                     refine ⟨1+1,e5,y.k,max wants (n5),by first | rfl | exact congrArg (Value.int .i64) (by omega),rfl,by first | rfl | go_num,by omega,HC5.out,HO.out.trans HO5.out,by omega,l2,by omega,by omega,?_⟩;have h9:=HKR.out;rw [HKS.out] at h9;exact h9
                    case measure =>
                     simp only [intOf];omega
              · have hj1b:((j:Int) == 1)=false:=by simp;omega
                have hj1i:¬(j:Int)=1:=by omega
                have HWH:=Za hwh;rw [if_neg (fun h=>hw4 h.1)] at hwh;subst hwh
                cases hrv:Zo P l f e (wj) with
                | none =>
                 rw [hrv] at HRW;have HRN:=Za (show r=none by rw [HRK.out,←HKR.out,ZdD HWJ.out HWH.out hrv];rfl);clear hrv;go_wp2_with (go_at_call 65;refine HRW.out.mono ?_;rintro en w5 ⟨ho5,-,hno5⟩;obtain ⟨n5,rfl⟩:=hno5 rfl;have HO5:=Za ho5;clear ho5 hno5);go_ret2;refine ⟨(HON4.out.trans HO.out).trans HO5.out,fun e1 n1 h1=>?_,fun _=>⟨_,rfl⟩⟩;rw [HRN.out] at h1
                 cases h1
                | some en =>
                 obtain ⟨e5,n5⟩:=en;rw [hrv] at HRW;obtain ⟨l1,l2,l3,l4⟩:=HLE.out _ _ _ _ hrv;have u3:=IntWalk.i64_in (n5+1) (by omega);have heI:(e:Int)<(l.length:Int):=by omega
                 have heI0:(0:Int)≤(e:Int):=by omega
                 obtain ⟨y,hy⟩:∃y,l[e]? = some y:=⟨_,ge_ (by omega)⟩;have HY:=Za hy;clear hy;have HKS:=Za ((Zba (xk:=x.k) (wants:=wants) HWJ.out HWH.out hrv HY.out).trans (by rw [if_neg (by omega)]));clear hrv
                 try clear h37
                 try clear h38
                 go_wp2_with (go_at_call 65;refine HRW.out.mono ?_;rintro en w5 ⟨ho5,hso5,-⟩;obtain ⟨rfl,hc5⟩:=hso5 _ _ rfl;have m5:w5.cell? ⟨g,5,none⟩=some (.slice (some ad) l.length rc):=(by rw [hc5.c.k.cell];rfl);obtain ⟨ad',e9,_,y0,y1,y2,y3,y4,y5⟩:=Zq hc5.s HY.out;cases e9;have k0x:w5.cell? ⟨bx,0,none⟩=some (.int .i64 x.k):=(by rw [(HBW.out.only ho5 HGX.out).cell];rfl);have HO5:=Za ho5;have HC5:=Za hc5;clear ho5 hso5 hc5)
                 all_goals
                  go_roundw
                  case rel =>
                   refine ⟨j+1,e5,y.k,max wants (n5),by first | rfl | exact congrArg (Value.int .i64) (by omega),rfl,by first | rfl | go_num,by omega,HC5.out,HO.out.trans HO5.out,by omega,l2,by omega,by omega,?_⟩;have h9:=HKR.out;rw [HKS.out] at h9;exact h9
                  case measure =>
                   simp only [intOf];omega
          · have hjm2:j=ks.length:=by omega
            have hRe:R=some (e,wants):=by
             have:=HKR.out;rw [List.drop_of_length_le (by omega)] at this;exact this.symm
            have HRE:=Za (show r=Zev (some (e,wants)) by rw [HRK.out,hRe]);subst hjm2;clear hkr hRe ho hck
            by_cases hw:wants≤256
            · go_wp2_with fail
              all_goals
               go_ret2;refine ⟨HON4.out.trans HO.out,fun e1 n1 h1=>?_,fun h1=>?_⟩
               · rw [HRE.out] at h1;simp only [Zev,if_pos hw,Option.some.injEq,Prod.mk.injEq] at h1;obtain ⟨rfl,rfl⟩:=h1;refine ⟨?_,HCKW.out⟩;congr 4
                 first | omega | (simp;omega)
               · rw [HRE.out] at h1;simp [Zev,if_pos hw] at h1
            · have HRE2:=Za (show r=none by rw [HRE.out];simp only [Zev,if_neg hw]);go_wp2_with fail
              all_goals
               go_ret2;refine ⟨HON4.out.trans HO.out,fun e1 n1 h1=>?_,fun h1=>⟨_,rfl⟩⟩;rw [HRE2.out] at h1
               cases h1
 · have hed:decide (l.length≤i)=true:=by simp;omega
   have hrn:r=none:=by rw [←HR.out];exact Zmh (List.getElem?_eq_none (by omega))
   have HRN:=Za hrn;have hil2:(l.length:Int)≤(i:Int):=by omega
   clear hrn h;go_enter Try.func65,Try.ntmps65;go_wp2_with fail;go_quiet (fail);go_wp2_with fail;go_ret2;refine ⟨(Only.refl _ w).drewN _,fun e n h0=>?_,fun _=>⟨_,rfl⟩⟩;rw [HRN.out] at h0
   cases h0
end Go.Proofs.Ytdpokdcendgfeaa
