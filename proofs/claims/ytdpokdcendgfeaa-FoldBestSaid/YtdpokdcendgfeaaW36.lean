/- Several texts in one: What fold tells of the plan of the statements' own example: reckoned. Nothing here walks the program. The walk of the statements' own example (head). Conditions: those of each. -/
import Derived.Test.YtdpokdcendgfeaaW31
import Derived.Test.YtdpokdcendgfeaaW13
import Derived.Test.YtdpokdcendgfeaaW15
import Derived.Deep.DeepMust
set_option linter.unusedSimpArgs false
set_option linter.unusedVariables false
set_option maxHeartbeats 80000000
set_option maxRecDepth 100000
namespace Go.Proofs.Ytdpokdcendgfeaa
open Go.RowKit
def hd0:List Ac:=[⟨1,0,0,0,0,1⟩,⟨2,0,0,0,0,2⟩,⟨20,1,0,0,0,0⟩,⟨1,0,0,0,0,1⟩,⟨6,0,0,0,0,0⟩]
def hd1:List Ac:=[⟨1,0,0,0,0,1⟩,⟨1,0,0,0,0,1⟩,⟨6,0,0,0,0,0⟩]
def hd2:List Ac:=[⟨1,0,0,0,0,1⟩,⟨6,0,0,0,0,0⟩]
def ZC:Pl:=⟨[false],[],[],[[]],hd0⟩
section
variable {l:List Ac} {i:Nat}
theorem Zjn (f:Nat) (hx:l[i]? = some ⟨6,0,0,0,0,0⟩):Zo ZC l (f+1) i 0=some (i+1,1):=by
 unfold Zo;simp only [hx];rw [if_pos (by decide),if_neg (by decide),if_neg (by decide)];rfl
theorem ZfV (f:Nat) {what:Int} {y:Ac} {e:Nat} {n:Int} (hx:l[i]? = some ⟨1,0,0,0,0,1⟩) (hm:ZE what 1=true) (hy:l[i+1]? = some y) (hk:y.k=1∨y.k=2∨y.k=6) (hr:Zo ZC l f (i+1) 0=some (e,n)):Zo ZC l (f+1) i what=some (e,0):=by
 unfold Zo;simp only [hx];rw [if_pos (by rw [hm];rfl),if_pos trivial,if_neg (by decide)];rw [show ((1:Int).toNat)=1 from rfl,Zct (by decide) hy (by omega) (by omega) hr,Zcu];rfl
theorem Znn (f:Nat) (hx:l[i]? = some ⟨20,1,0,0,0,0⟩):Zo ZC l (f+1) i 3=some (i+1,1):=by
 unfold Zo;simp only [hx];rw [if_pos (by decide),if_neg (by decide),if_neg (by decide)];rfl
end
theorem ev0:Zy ZC hd0=true:=by
 have r4:∀f,Zo ZC hd0 (f+1) 4 0=some (5,1):=fun f=>Zjn f rfl
 have r3:∀f,Zo ZC hd0 (f+2) 3 1=some (5,0):=fun f=>ZfV (f+1) rfl rfl rfl (by decide) (r4 f)
 have r2:∀f,Zo ZC hd0 (f+1) 2 3=some (3,1):=fun f=>Znn f rfl
 have r1:Zo ZC hd0 5 1 0=some (5,1):=by
  unfold Zo;rw [show hd0[1]? = some ⟨2,0,0,0,0,2⟩ from rfl];simp only;rw [if_pos (by decide),if_neg (by decide),if_neg (by decide)];simp [kidsV,Zw,r2,r3];decide
 have r0:Zo ZC hd0 6 0 1=some (5,0):=ZfV 5 rfl rfl rfl (by decide) r1;unfold Zy;rw [show hd0.length+1=6 from rfl,r0];rfl
theorem ZnT:Zy ZC hd1=true:=by
 have r2:Zo ZC hd1 2 2 0=some (3,1):=Zjn 1 rfl;have r1:Zo ZC hd1 3 1 0=some (3,0):=ZfV 2 rfl rfl rfl (by decide) r2;have r0:Zo ZC hd1 4 0 1=some (3,0):=ZfV 3 rfl rfl rfl (by decide) r1;unfold Zy;rw [show hd1.length+1=4 from rfl,r0];rfl
theorem ZnS:Zy ZC hd2=true:=by
 have r1:Zo ZC hd2 2 1 0=some (2,1):=Zjn 1 rfl;have r0:Zo ZC hd2 3 0 1=some (2,0):=ZfV 2 rfl rfl rfl (by decide) r1;unfold Zy;rw [show hd2.length+1=3 from rfl,r0];rfl
theorem Zeh {P:Pl} {l:List Ac} (h:Zy P l=true) (hl:l.length≤131072):EvOk l:=⟨Zck h hl,hl,ZlZ h hl⟩
theorem ZfW:checkV ZC=0:=by
 have h:Zy ZC ([]:List Ac)=true:=rfl;unfold checkV;rw [if_pos];simp only [Bool.and_eq_true,decide_eq_true_eq,List.all_eq_true];refine ⟨⟨⟨⟨⟨⟨⟨by decide,by decide⟩,by decide⟩,by decide⟩,by decide⟩,by decide⟩,by decide⟩,fun l hl=>?_⟩;have:l=[]∨l=hd0:=by simpa [ZC] using hl
 rcases this with rfl | rfl
 · exact h
 · exact ev0
theorem ZlV {l:List Ac} {i:Nat} {sp:List (Nat×Nat)} (h:ZR l (rowL l i).n.toNat (i+1)=some sp):spL l i=sp:=by unfold spL;rw [h];rfl
theorem Zng:Zaw hd0 0=none:=by
 unfold Zaw;rw [if_neg (by decide),show Zaj hd0 0 (endL hd0 0) (rowL hd0 0) ((spL hd0 0).map (sub hd0)) (hsL hd0 (spL hd0 0)) (ZbT hd0 0)=none by unfold Zaj;rfl];rfl
theorem e2:ZV hd0 2 1=some 3:=by
 repeat (first | rw [Zay (by decide)] | rw [Zar (by decide) rfl])
theorem e3:ZV hd0 3 1=some 5:=by
 repeat (first | rw [Zay (by decide)] | rw [Zar (by decide) rfl])
theorem e1:ZV hd0 1 1=some 5:=by
 repeat (first | rw [Zay (by decide)] | rw [Zar (by decide) rfl])
theorem Znf:Zaw hd0 1=some ⟨8,1,5,some [⟨1,0,0,0,0,1⟩,⟨6,0,0,0,0,0⟩],1,1⟩:=by
 have hsp:spL hd0 1=[(2,3),(3,5)]:=ZlV (by rw [show (rowL hd0 1).n.toNat=2 from rfl];simp [ZR,e2,e3]);unfold Zaw;rw [if_neg (by decide),hsp,Zcq e1];rfl
theorem ZlX:Z6 hd0=some ⟨8,1,5,some [⟨1,0,0,0,0,1⟩,⟨6,0,0,0,0,0⟩],1,1⟩:=Zb7 (j:=1) (by decide) (fun i hi=>by have e:i=0:=(by omega);subst e;exact Zng) Znf
theorem ZnL:ZY hd0 ⟨8,1,5,some [⟨1,0,0,0,0,1⟩,⟨6,0,0,0,0,0⟩],1,1⟩=hd1:=rfl
theorem f2:ZV hd1 2 1=some 3:=by
 repeat (first | rw [Zay (by decide)] | rw [Zar (by decide) rfl])
theorem f1:ZV hd1 1 1=some 3:=by
 repeat (first | rw [Zay (by decide)] | rw [Zar (by decide) rfl])
theorem Zne:Zaw hd1 0=none:=by
 unfold Zaw;rw [if_neg (by decide),show Zaj hd1 0 (endL hd1 0) (rowL hd1 0) ((spL hd1 0).map (sub hd1)) (hsL hd1 (spL hd1 0)) (ZbT hd1 0)=none by unfold Zaj;rfl];rfl
theorem Znd:Zaw hd1 1=some ⟨17,1,3,some [⟨6,0,0,0,0,0⟩],1,1⟩:=by
 have hsp:spL hd1 1=[(2,3)]:=ZlV (by rw [show (rowL hd1 1).n.toNat=1 from rfl];simp [ZR,f2]);unfold Zaw;rw [if_neg (by decide),hsp,Zcq f1];rfl
theorem ZnE:Z6 hd1=some ⟨17,1,3,some [⟨6,0,0,0,0,0⟩],1,1⟩:=Zb7 (j:=1) (by decide) (fun i hi=>by have e:i=0:=(by omega);subst e;exact Zne) Znd
theorem ZnK:ZY hd1 ⟨17,1,3,some [⟨6,0,0,0,0,0⟩],1,1⟩=hd2:=rfl
theorem ZnD:Z6 hd2=none:=ZdG (fun i hi=>by
 have:i=0∨i=1:=by have:hd2.length=2:=rfl;omega
 rcases this with rfl | rfl
 · unfold Zaw;rw [if_neg (by decide),show Zaj hd2 0 (endL hd2 0) (rowL hd2 0) ((spL hd2 0).map (sub hd2)) (hsL hd2 (spL hd2 0)) (ZbT hd2 0)=none by unfold Zaj;rfl];rfl
 · unfold Zaw;rw [if_neg (by decide),show Zaj hd2 1 (endL hd2 1) (rowL hd2 1) ((spL hd2 1).map (sub hd2)) (hsL hd2 (spL hd2 1)) (ZbT hd2 1)=none by unfold Zaj;rfl]
   rfl)
theorem Zkg:Zb9 ZC=some (-1,⟨8,1,5,some [⟨1,0,0,0,0,1⟩,⟨6,0,0,0,0,0⟩],1,1⟩) :=
 Zb7 (j:=1) (by decide) (fun i hi=>by have e:i=0:=(by omega);subst e;rfl) (by show ((Z6 hd0).map _)=_;rw [ZlX];rfl)
theorem Zlo:RunTo 2 hd0 hd2 :=
 .step (Zeh ev0 (by decide)) ZlX ⟨by decide,by decide,fun _=>⟨0,rfl,by decide⟩,by decide,by decide⟩ (by
  rw [ZnL]
  exact .step (Zeh ZnT (by decide)) ZnE ⟨by decide,by decide,fun _=>⟨0,rfl,by decide⟩,by decide,by decide⟩ (by
   rw [ZnK]
   exact .stop (Zeh ZnS (by decide)) ZnD))
theorem ZmB:RunTo 0 [] []:=.stop (Zeh (P:=ZC) rfl (by decide)) rfl
theorem ZnM (w:World) (k a n:Int):Calls Try.prog 48 #[.int .i64 k,.int .i64 a,.int .i64 n] w fun en w'=>en=.returned (.agg #[.int .i64 k,.int .i64 a,.int .i64 0,.int .i64 0,.int .i64 0,.int .i64 n])∧Below w.heap.size w w':=by
 have HRES:=Za (show Try.f48.results=#[.cell 6 49] by rfl);go_enter Try.func48,Try.ntmps48;go_wp2_with fail;refine bodyPost_ret (v:=.agg #[.int .i64 k,.int .i64 a,.int .i64 0,.int .i64 0,.int .i64 0,.int .i64 n]) ?_ rfl ?_
 · simp only [results,HRES.out];go_simp
 exact ⟨rfl,(Below.refl _ w).alloc lr_ _⟩
theorem Zmg {w w':World} {en:Ending} {P:Pl} {R:Nat→List Ac} (hc:checkV P=0) (h:ZcQ w w' en P R):∃(g v t o m:Value) (us:List Value),en=.returned (.tuple #[.agg #[g,v,t,o,m],.int .i64 0])∧w'.ownsRow w.heap.size 4 1 g P.gh.length (ZZ P.gh)∧w'.ownsRow w.heap.size 51 3 v P.vs.length (vrs P.vs)∧w'.ownsRow w.heap.size 3 1 t P.ts.length (Zm P.ts) ∧
 w'.ownsRow w.heap.size 26 1 o P.on.length us∧(∀i,i<P.on.length→∃u,us[i]? = some u∧w'.ownsRow w.heap.size 49 6 u (R i).length (acs (R i)))∧w'.ownsRow w.heap.size 49 6 m (R P.on.length).length (acs (R P.on.length)):=by
 unfold ZcQ at h;rw [if_pos hc] at h;exact h
theorem ZmJ:hd2.length=2:=rfl
def Ze1 (gh go gm:Nat):PlV:=⟨some ⟨gh,0,none⟩,none,none,some ⟨go,0,none⟩,some ⟨gm,0,none⟩,1,1,0,0,0,0,1,1,5,5⟩
theorem Zlp {W:World} {gh go gm:Nat} {t1 t2 t3:TypeId} (h1:Blk W gh t1 (ZZ [false]).toArray) (h2:Blk W go t2 (slv [((none:Option Addr),0)] [[]]).toArray) (h3:Blk W gm t3 (acs hd0).toArray):PlMem W (Ze1 gh go gm) ZC [(none,0)] :=
 ⟨rfl,rfl,rfl,rfl,rfl,ZaM 1 h1,ZdQ W _,ZdQ W _,ZaM 1 h2,⟨rfl,fun i oa c l e1 e2=>by
  match i with
  | 0 =>
   simp [ZC] at e1 e2;obtain ⟨rfl,rfl⟩:=e1;subst e2;exact ⟨ZdQ W _,by simp,by decide⟩
  | 1 =>
   simp [ZC,Ze1] at e1 e2;obtain ⟨rfl,rfl⟩:=e1;subst e2;exact ⟨ZaM 5 h3,by decide,by decide⟩
  | i+2=>simp [ZC] at e1⟩,by decide,by decide,by decide,by decide⟩
theorem ZiJ (k:Nat) (h:k≤ZC.on.length):(k=0∧evP ZC k=[])∨(k=1∧evP ZC k=hd0):=by
 have:k=0∨k=1:=by have:ZC.on.length=1:=rfl;omega
 rcases this with rfl | rfl
 · exact .inl ⟨rfl,rfl⟩
 · exact .inr ⟨rfl,rfl⟩
theorem ZmI (w:World):Calls Try.prog 25 #[] w fun en w'=>en=.returned (.bool true)∧Below w.heap.size w w':=by
 have HA:=Za (fun (W:World) (k a n:Int)=>ZnM W k a n);have HB0:=Za (((Below.refl w.heap.size w).alloc lr_ (.cells #[.bool false] 4)).alloc (by simp) (.cells #[.slice none 0 0] 26));have HG0:=Za (show Blk ((w.alloc (.cells #[.bool false] 4)).alloc (.cells #[.slice none 0 0] 26)) w.heap.size 4 #[.bool false] from (Blk.new w _ _).alloc _);have HO0:=Za (show Blk ((w.alloc (.cells #[.bool false] 4)).alloc (.cells #[.slice none 0 0] 26)) (w.heap.size+1) 26 #[.slice none 0 0] from by have h9:=Blk.new (w.alloc (.cells #[.bool false] 4)) 26 #[.slice none 0 0];rwa [show (w.alloc (.cells #[.bool false] 4)).heap.size=w.heap.size+1 by simp] at h9);have HBC:=Za (Below.refl ((w.alloc (.cells #[.bool false] 4)).alloc (.cells #[.slice none 0 0] 26)).heap.size ((w.alloc (.cells #[.bool false] 4)).alloc (.cells #[.slice none 0 0] 26)));go_enter Try.func25,Try.ntmps25;go_upto_region 2 with (go_at_call 48;refine (HA.out _ _ _ _).mono ?_;rintro en w8 ⟨rfl,hb8⟩;have HBN:=Za (HBC.out.trans (hb8.mono HBC.out.size));clear hb8 HBC;have HBC:=HBN;clear HBN);have HBW:=Za (HB0.out.trans (HBC.out.mono HB0.out.size));have HG8:=Za (HG0.out.below HBC.out HG0.out.lt);have HO8:=Za (HO0.out.below HBC.out HO0.out.lt);clear HBC HG0 HO0 HB0;obtain ⟨gh,hgh⟩:∃g,w.heap.size=g:=⟨_,rfl⟩;obtain ⟨go,hgo⟩:∃g,w.heap.size+1=g:=⟨_,rfl⟩;obtain ⟨gm,hgm⟩:∃g,w8.heap.size=g:=⟨_,rfl⟩;obtain ⟨gb,hgb⟩:∃g,w8.heap.size+1=g:=⟨_,rfl⟩;rw [hgo] at HO8;rw [hgh] at HG8;simp only [hgb,hgo];simp only [hgm,hgh];have HM8:=Za ((Blk.new w8 49 #[.int .i64 1,.int .i64 0,.int .i64 0,.int .i64 0,.int .i64 0,.int .i64 1,.int .i64 2,.int .i64 0,.int .i64 0,.int .i64 0,.int .i64 0,.int .i64 2,.int .i64 20,.int .i64 1,.int .i64 0,.int .i64 0,.int .i64 0,.int .i64 0,.int .i64 1,.int .i64 0,.int .i64 0,.int .i64 0,.int .i64 0,.int .i64 1,.int .i64 6,.int .i64 0,.int .i64 0,.int .i64 0,.int .i64 0,.int .i64 0]).alloc (.cells #[.slice (some ⟨gh,0,none⟩) 1 1,.slice none 0 0,.slice none 0 0,.slice (some ⟨go,0,none⟩) 1 1,.slice (some ⟨gm,0,none⟩) 5 5] 28));have HP8:=Za (Blk.new (w8.alloc (.cells #[.int .i64 1,.int .i64 0,.int .i64 0,.int .i64 0,.int .i64 0,.int .i64 1,.int .i64 2,.int .i64 0,.int .i64 0,.int .i64 0,.int .i64 0,.int .i64 2,.int .i64 20,.int .i64 1,.int .i64 0,.int .i64 0,.int .i64 0,.int .i64 0,.int .i64 1,.int .i64 0,.int .i64 0,.int .i64 0,.int .i64 0,.int .i64 1,.int .i64 6,.int .i64 0,.int .i64 0,.int .i64 0,.int .i64 0,.int .i64 0] 49)) 28 #[.slice (some ⟨gh,0,none⟩) 1 1,.slice none 0 0,.slice none 0 0,.slice (some ⟨go,0,none⟩) 1 1,.slice (some ⟨gm,0,none⟩) 5 5]);have HG9:=Za ((HG8.out.alloc (.cells #[.int .i64 1,.int .i64 0,.int .i64 0,.int .i64 0,.int .i64 0,.int .i64 1,.int .i64 2,.int .i64 0,.int .i64 0,.int .i64 0,.int .i64 0,.int .i64 2,.int .i64 20,.int .i64 1,.int .i64 0,.int .i64 0,.int .i64 0,.int .i64 0,.int .i64 1,.int .i64 0,.int .i64 0,.int .i64 0,.int .i64 0,.int .i64 1,.int .i64 6,.int .i64 0,.int .i64 0,.int .i64 0,.int .i64 0,.int .i64 0] 49)).alloc (.cells #[.slice (some ⟨gh,0,none⟩) 1 1,.slice none 0 0,.slice none 0 0,.slice (some ⟨go,0,none⟩) 1 1,.slice (some ⟨gm,0,none⟩) 5 5] 28));have HO9:=Za ((HO8.out.alloc (.cells #[.int .i64 1,.int .i64 0,.int .i64 0,.int .i64 0,.int .i64 0,.int .i64 1,.int .i64 2,.int .i64 0,.int .i64 0,.int .i64 0,.int .i64 0,.int .i64 2,.int .i64 20,.int .i64 1,.int .i64 0,.int .i64 0,.int .i64 0,.int .i64 0,.int .i64 1,.int .i64 0,.int .i64 0,.int .i64 0,.int .i64 0,.int .i64 1,.int .i64 6,.int .i64 0,.int .i64 0,.int .i64 0,.int .i64 0,.int .i64 0] 49)).alloc (.cells #[.slice (some ⟨gh,0,none⟩) 1 1,.slice none 0 0,.slice none 0 0,.slice (some ⟨go,0,none⟩) 1 1,.slice (some ⟨gm,0,none⟩) 5 5] 28));have HBW2:=Za ((HBW.out.alloc HBW.out.size (.cells #[.int .i64 1,.int .i64 0,.int .i64 0,.int .i64 0,.int .i64 0,.int .i64 1,.int .i64 2,.int .i64 0,.int .i64 0,.int .i64 0,.int .i64 0,.int .i64 2,.int .i64 20,.int .i64 1,.int .i64 0,.int .i64 0,.int .i64 0,.int .i64 0,.int .i64 1,.int .i64 0,.int .i64 0,.int .i64 0,.int .i64 0,.int .i64 1,.int .i64 6,.int .i64 0,.int .i64 0,.int .i64 0,.int .i64 0,.int .i64 0] 49)).alloc (by simp;have:=HBW.out.size;omega) (.cells #[.slice (some ⟨gh,0,none⟩) 1 1,.slice none 0 0,.slice none 0 0,.slice (some ⟨go,0,none⟩) 1 1,.slice (some ⟨gm,0,none⟩) 5 5] 28));rw [show (w8.alloc (.cells #[.int .i64 1,.int .i64 0,.int .i64 0,.int .i64 0,.int .i64 0,.int .i64 1,.int .i64 2,.int .i64 0,.int .i64 0,.int .i64 0,.int .i64 0,.int .i64 2,.int .i64 20,.int .i64 1,.int .i64 0,.int .i64 0,.int .i64 0,.int .i64 0,.int .i64 1,.int .i64 0,.int .i64 0,.int .i64 0,.int .i64 0,.int .i64 1,.int .i64 6,.int .i64 0,.int .i64 0,.int .i64 0,.int .i64 0,.int .i64 0] 49)).heap.size=gb by rw [←hgb];simp] at HP8;rw [hgm] at HM8;have HGH:=Za hgh;clear hgo hgm hgb hgh;generalize ((w8.alloc (.cells #[.int .i64 1,.int .i64 0,.int .i64 0,.int .i64 0,.int .i64 0,.int .i64 1,.int .i64 2,.int .i64 0,.int .i64 0,.int .i64 0,.int .i64 0,.int .i64 2,.int .i64 20,.int .i64 1,.int .i64 0,.int .i64 0,.int .i64 0,.int .i64 0,.int .i64 1,.int .i64 0,.int .i64 0,.int .i64 0,.int .i64 0,.int .i64 1,.int .i64 6,.int .i64 0,.int .i64 0,.int .i64 0,.int .i64 0,.int .i64 0] 49)).alloc (.cells #[.slice (some ⟨gh,0,none⟩) 1 1,.slice none 0 0,.slice none 0 0,.slice (some ⟨go,0,none⟩) 1 1,.slice (some ⟨gm,0,none⟩) 5 5] 28))=W1 at HM8 HP8 HG9 HO9 HBW2 ⊢;have HM:=Za (Zlp (t1:=4) (t2:=26) (t3:=49) HG9.out HO9.out HM8.out)
 have hL:=ZeX W1 (Ze1 gh go gm) ZC [(none,0)] HM.out (fun l hl=>by have h9:l=[]∨l=hd0:=(by simpa [ZC] using hl);rcases h9 with rfl | rfl <;> decide) (fun _=>⟨by decide,fun k=>by
  by_cases hk:k≤ZC.on.length
  · rcases ZiJ k hk with ⟨_,e⟩ | ⟨_,e⟩
    · rw [e];exact Zeh (P:=ZC) rfl (by decide)
    · rw [e];exact Zeh ev0 (by decide)
  · have e:evP ZC k=[]:=by
     unfold evP;rw [List.getElem?_eq_none (by simp;omega)];rfl
    rw [e];exact Zeh (P:=ZC) rfl (by decide)⟩)
 have hlr:ZaD ZC=(-1,1,8,true):=by unfold ZaD;rw [if_pos ZfW,Zkg];rfl
 rw [hlr] at hL;simp only [PlV.val,Ze1] at hL;have HL:=Za hL
 have HR:=Za (fun (W:World) (hb:Below W1.heap.size W1 W)=>Zi1 W (Ze1 gh go gm) ZC [(none,0)] (HM.out.below hb) (fun l hl=>by have h9:l=[]∨l=hd0:=(by simpa [ZC] using hl);rcases h9 with rfl | rfl <;> decide) (fun k=>if k=0 then [] else hd2) (fun k=>if k=0 then 0 else 2) (fun _=>⟨⟨by decide,by decide,by decide,by decide,fun l hl=>by have h9:l=[]∨l=hd0:=(by simpa [ZC] using hl);rcases h9 with rfl | rfl <;> decide⟩,fun k hk=>by
  rcases ZiJ k hk with ⟨rfl,e⟩ | ⟨rfl,e⟩
  · rw [e];exact ZmB
  · rw [e];exact Zlo⟩))
 simp only [PlV.val,Ze1] at HR;obtain ⟨b0,b1,b2,b3,b4,hgl⟩:=ZaR HP8.out;have HGL:=Za hgl;have HBS:=Za (And.intro b0 (And.intro b1 (And.intro b2 (And.intro b3 b4))));clear hL hlr;go_upto_region 3 with (go_at_call 28;with_reducible refine HL.out.mono ?_;rintro en W2 ⟨rfl,hb2⟩;have HB2:=Za hb2;clear hb2);have HR2:=Za (HR.out W2 HB2.out);have c0:=(HB2.out.cell (p:=⟨gb,0,none⟩) hgl).trans b0;have c1:=(HB2.out.cell (p:=⟨gb,1,none⟩) hgl).trans b1;have c2:=(HB2.out.cell (p:=⟨gb,2,none⟩) hgl).trans b2;have c3:=(HB2.out.cell (p:=⟨gb,3,none⟩) hgl).trans b3;have c4:=(HB2.out.cell (p:=⟨gb,4,none⟩) hgl).trans b4;clear b0 b1 b2 b3 b4;go_upto_region 4 with (go_at_call 33;go_must (with_reducible refine HR2.out.mono ?_;rintro en W3 ⟨hr3,hb3⟩;obtain ⟨vg,vv,vt,vo,vm,us,e3,eg,ev,et,eo,eu,em⟩:=Zmg ZfW hr3;subst e3;obtain ⟨og,cg,e1⟩:=Zg eg;obtain ⟨ov,cv,e2⟩:=Zg ev;obtain ⟨ot,ct,e3⟩:=Zg et;obtain ⟨oo,co,e4⟩:=Zg eo;rw [if_neg (show ¬ZC.on.length=0 by decide)] at em;rw [ZmJ] at em;have em2:W3.ownsRow W2.heap.size 49 6 vm 2 (acs hd2):=em;clear em;have em:=em2;obtain ⟨gq,cm,e5,hcm,hcm2⟩:=Zam em (by decide);subst e1 e2 e3 e4 e5;have HEM:=Za em;have HB3:=Za hb3;clear eg ev et eo eu em hb3 hr3));have HB4:=Za (HB3.out.alloc HB3.out.size (.cells #[.slice og ZC.gh.length cg,.slice ov ZC.vs.length cv,.slice ot ZC.ts.length ct,.slice oo ZC.on.length co,.slice (some ⟨gq,0,none⟩) 2 cm] 28));have HX4:=Za (Blk.new W3 28 #[.slice og ZC.gh.length cg,.slice ov ZC.vs.length cv,.slice ot ZC.ts.length ct,.slice oo ZC.on.length co,.slice (some ⟨gq,0,none⟩) 2 cm]);have HE4:=Za (Zbq (w':=W3.alloc (.cells #[.slice og ZC.gh.length cg,.slice ov ZC.vs.length cv,.slice ot ZC.ts.length ct,.slice oo ZC.on.length co,.slice (some ⟨gq,0,none⟩) 2 cm] 28)) HEM.out (fun g hg=>Below.heap_alloc _ _ g (HEM.out.lt g hg).2));generalize W3.alloc (.cells #[.slice og ZC.gh.length cg,.slice ov ZC.vs.length cv,.slice ot ZC.ts.length ct,.slice oo ZC.on.length co,.slice (some ⟨gq,0,none⟩) 2 cm] 28)=W4 at HB4 HX4 HE4 ⊢;obtain ⟨gx,hgx⟩:∃g,W3.heap.size=g:=⟨_,rfl⟩;rw [hgx] at HX4;simp only [hgx];clear hgx;obtain ⟨a0,ea,hab,p0,p1,p2,p3,p4,p5⟩:=Zq (Zak HE4.out) (show hd2[0]? = some ⟨1,0,0,0,0,1⟩ from rfl);injection ea with ea;subst ea;obtain ⟨a0,ea,_,q0,q1,q2,q3,q4,q5⟩:=Zq (Zak HE4.out) (show hd2[1]? = some ⟨6,0,0,0,0,0⟩ from rfl);injection ea with ea;subst ea;have hab2:gq<W4.heap.size:=hab;simp only [show (⟨gq,0,none⟩:Addr).add (0*6)=⟨gq,0,none⟩ from rfl,show (⟨gq,0,none⟩:Addr).add (1*6)=⟨gq,6,none⟩ from rfl] at p0 p1 p2 p3 p4 p5 q0 q1 q2 q3 q4 q5;have x4:=(ZaR HX4.out).2.2.2.2.1;have hgl4:=HX4.out.lt;have f0:=fun (z:Grown W4)=>(z.b.cell (p:=⟨gx,4,none⟩) hgl4).trans x4
 have g0:=fun (z:Grown W4)=>(z.b.cell (p:=⟨gq,0,none⟩) hab2).trans p0
 have g1:=fun (z:Grown W4)=>(z.b.cell (p:=⟨gq,0+1,none⟩) hab2).trans p1
 have g2:=fun (z:Grown W4)=>(z.b.cell (p:=⟨gq,0+2,none⟩) hab2).trans p2
 have g3:=fun (z:Grown W4)=>(z.b.cell (p:=⟨gq,0+3,none⟩) hab2).trans p3
 have g4:=fun (z:Grown W4)=>(z.b.cell (p:=⟨gq,0+4,none⟩) hab2).trans p4
 have g5:=fun (z:Grown W4)=>(z.b.cell (p:=⟨gq,0+5,none⟩) hab2).trans p5
 have g6:=fun (z:Grown W4)=>(z.b.cell (p:=⟨gq,6,none⟩) hab2).trans q0
 have g7:=fun (z:Grown W4)=>(z.b.cell (p:=⟨gq,6+1,none⟩) hab2).trans q1
 have g8:=fun (z:Grown W4)=>(z.b.cell (p:=⟨gq,6+2,none⟩) hab2).trans q2
 have g9:=fun (z:Grown W4)=>(z.b.cell (p:=⟨gq,6+3,none⟩) hab2).trans q3
 have g10:=fun (z:Grown W4)=>(z.b.cell (p:=⟨gq,6+4,none⟩) hab2).trans q4
 have g11:=fun (z:Grown W4)=>(z.b.cell (p:=⟨gq,6+5,none⟩) hab2).trans q5
 simp only [Nat.zero_add,Nat.reduceAdd] at g0 g1 g2 g3 g4 g5 g6 g7 g8 g9 g10 g11;have he1:=fun (W:World)=>(eqA W 1 0 0 0 0 1 1 0 0 0 0 1).trans (by simp:_=Result.ok (.bool true) W)
 have he2:=fun (W:World)=>(eqA W 6 0 0 0 0 0 6 0 0 0 0 0).trans (by simp:_=Result.ok (.bool true) W)
 have hgd:=g49;clear c0 c1 c2 c3 c4 x4 p0 p1 p2 p3 p4 p5 q0 q1 q2 q3 q4 q5 hgl hab hcm hcm2;refine Za1 (Below.refl W4.heap.size W4) (by kernel_rfl) (by kernel_rfl) ?_
 repeat (go_big_quiet_step (first | (go_at_call 48;exact ZaK (HA.out _ _ _ _)) | fail))
 refine wpQuiet_nil ?_;intro w1 hw1;obtain ⟨⟨w1,hb1⟩,rfl⟩:=hw1;have HBF:=Za (HBW2.out.trans ((HB2.out.trans ((HB4.out.trans (hb1.mono HB4.out.size)).mono HB2.out.size)).mono HBW2.out.size));clear hb1 f0 g0 g1 g2 g3 g4 g5 g6 g7 g8 g9 g10 g11;go_wp2_with fail;go_ret;exact ⟨rfl,HBF.out⟩
end Go.Proofs.Ytdpokdcendgfeaa
