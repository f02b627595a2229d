/- Several texts in one: What fold tells of the plan of the statements' own example: reckoned. Nothing here walks the program. The walk of the statements' own example (head). Conditions: those of each. -/
import Derived.Test.YtdpokdcendgfeaaV31
import Derived.Test.YtdpokdcendgfeaaV13
import Derived.Test.YtdpokdcendgfeaaV15
import Derived.Deep.DeepMust
set_option linter.unusedSimpArgs false
set_option linter.unusedVariables false
set_option maxHeartbeats 80000000
set_option maxRecDepth 100000
namespace Go.Proofs.Ytdpokdcendgfeaa
open Go.RowKit
def hd0:List Ac:=[⟨1,0,0,0,0,1⟩,⟨2,0,0,0,0,2⟩,⟨20,1,0,0,0,0⟩,⟨1,0,0,0,0,1⟩,⟨6,0,0,0,0,0⟩]
def hd1:List Ac:=[⟨1,0,0,0,0,1⟩,⟨1,0,0,0,0,1⟩,⟨6,0,0,0,0,0⟩]
def hd2:List Ac:=[⟨1,0,0,0,0,1⟩,⟨6,0,0,0,0,0⟩]
def ZJ:Pl:=⟨[false],[],[],[[]],hd0⟩
section
variable {l:List Ac} {i:Nat}
theorem ZiT (f:Nat) (hx:l[i]? = some ⟨6,0,0,0,0,0⟩):Zt ZJ l (f+1) i 0=some (i+1,1):=by
 unfold Zt;simp only [hx];rw [if_pos (by decide),if_neg (by decide),if_neg (by decide)];rfl
theorem Zfz (f:Nat) {what:Int} {y:Ac} {e:Nat} {n:Int} (hx:l[i]? = some ⟨1,0,0,0,0,1⟩) (hm:Zao what 1=true) (hy:l[i+1]? = some y) (hk:y.k=1∨y.k=2∨y.k=6) (hr:Zt ZJ l f (i+1) 0=some (e,n)):Zt ZJ l (f+1) i what=some (e,0):=by
 unfold Zt;simp only [hx];rw [if_pos (by rw [hm];rfl),if_pos trivial,if_neg (by decide)];rw [show ((1:Int).toNat)=1 from rfl,ZdA (by decide) hy (by omega) (by omega) hr,ZdB];rfl
theorem Zm3 (f:Nat) (hx:l[i]? = some ⟨20,1,0,0,0,0⟩):Zt ZJ l (f+1) i 3=some (i+1,1):=by
 unfold Zt;simp only [hx];rw [if_pos (by decide),if_neg (by decide),if_neg (by decide)];rfl
end
theorem ev0:ZO ZJ hd0=true:=by
 have r4:∀f,Zt ZJ hd0 (f+1) 4 0=some (5,1):=fun f=>ZiT f rfl
 have r3:∀f,Zt ZJ hd0 (f+2) 3 1=some (5,0):=fun f=>Zfz (f+1) rfl rfl rfl (by decide) (r4 f)
 have r2:∀f,Zt ZJ hd0 (f+1) 2 3=some (3,1):=fun f=>Zm3 f rfl
 have r1:Zt ZJ hd0 5 1 0=some (5,1):=by
  unfold Zt;rw [show hd0[1]? = some ⟨2,0,0,0,0,2⟩ from rfl];simp only;rw [if_pos (by decide),if_neg (by decide),if_neg (by decide)];simp [kidsV,ZF,r2,r3];decide
 have r0:Zt ZJ hd0 6 0 1=some (5,0):=Zfz 5 rfl rfl rfl (by decide) r1;unfold ZO;rw [show hd0.length+1=6 from rfl,r0];rfl
theorem ZnG:ZO ZJ hd1=true:=by
 have r2:Zt ZJ hd1 2 2 0=some (3,1):=ZiT 1 rfl;have r1:Zt ZJ hd1 3 1 0=some (3,0):=Zfz 2 rfl rfl rfl (by decide) r2;have r0:Zt ZJ hd1 4 0 1=some (3,0):=Zfz 3 rfl rfl rfl (by decide) r1;unfold ZO;rw [show hd1.length+1=4 from rfl,r0];rfl
theorem ZnF:ZO ZJ hd2=true:=by
 have r1:Zt ZJ hd2 2 1 0=some (2,1):=ZiT 1 rfl;have r0:Zt ZJ hd2 3 0 1=some (2,0):=Zfz 2 rfl rfl rfl (by decide) r1;unfold ZO;rw [show hd2.length+1=3 from rfl,r0];rfl
theorem Zd8 {P:Pl} {l:List Ac} (h:ZO P l=true) (hl:l.length≤131072):EvOk l:=⟨Zdi h hl,hl,ZlE h hl⟩
theorem ZfA:checkV ZJ=0:=by
 have h:ZO ZJ ([]:List Ac)=true:=rfl;unfold checkV;rw [if_pos];simp only [Bool.and_eq_true,decide_eq_true_eq,List.all_eq_true];refine ⟨⟨⟨⟨⟨⟨⟨by decide,by decide⟩,by decide⟩,by decide⟩,by decide⟩,by decide⟩,by decide⟩,fun l hl=>?_⟩;have:l=[]∨l=hd0:=by simpa [ZJ] using hl
 rcases this with rfl | rfl
 · exact h
 · exact ev0
theorem Zlz {l:List Ac} {i:Nat} {sp:List (Nat×Nat)} (h:ZZ l (rowL l i).n.toNat (i+1)=some sp):spL l i=sp:=by unfold spL;rw [h];rfl
theorem ZmV:Zaz hd0 0=none:=by
 unfold Zaz;rw [if_neg (by decide),show Zal hd0 0 (endL hd0 0) (rowL hd0 0) ((spL hd0 0).map (sub hd0)) (hsL hd0 (spL hd0 0)) (ZbT hd0 0)=none by unfold Zal;rfl];rfl
theorem e2:ZV hd0 2 1=some 3:=by
 repeat (first | rw [ZaB (by decide)] | rw [Zat (by decide) rfl])
theorem e3:ZV hd0 3 1=some 5:=by
 repeat (first | rw [ZaB (by decide)] | rw [Zat (by decide) rfl])
theorem e1:ZV hd0 1 1=some 5:=by
 repeat (first | rw [ZaB (by decide)] | rw [Zat (by decide) rfl])
theorem ZmU:Zaz hd0 1=some ⟨8,1,5,some [⟨1,0,0,0,0,1⟩,⟨6,0,0,0,0,0⟩],1,1⟩:=by
 have hsp:spL hd0 1=[(2,3),(3,5)]:=Zlz (by rw [show (rowL hd0 1).n.toNat=2 from rfl];simp [ZZ,e2,e3]);unfold Zaz;rw [if_neg (by decide),hsp,Zc1 e1];rfl
theorem ZlA:ZaO hd0=some ⟨8,1,5,some [⟨1,0,0,0,0,1⟩,⟨6,0,0,0,0,0⟩],1,1⟩:=Zba (j:=1) (by decide) (fun i hi=>by have e:i=0:=(by omega);subst e;exact ZmV) ZmU
theorem Znv:ZaC hd0 ⟨8,1,5,some [⟨1,0,0,0,0,1⟩,⟨6,0,0,0,0,0⟩],1,1⟩=hd1:=rfl
theorem f2:ZV hd1 2 1=some 3:=by
 repeat (first | rw [ZaB (by decide)] | rw [Zat (by decide) rfl])
theorem f1:ZV hd1 1 1=some 3:=by
 repeat (first | rw [ZaB (by decide)] | rw [Zat (by decide) rfl])
theorem ZmT:Zaz hd1 0=none:=by
 unfold Zaz;rw [if_neg (by decide),show Zal hd1 0 (endL hd1 0) (rowL hd1 0) ((spL hd1 0).map (sub hd1)) (hsL hd1 (spL hd1 0)) (ZbT hd1 0)=none by unfold Zal;rfl];rfl
theorem ZmS:Zaz hd1 1=some ⟨17,1,3,some [⟨6,0,0,0,0,0⟩],1,1⟩:=by
 have hsp:spL hd1 1=[(2,3)]:=Zlz (by rw [show (rowL hd1 1).n.toNat=1 from rfl];simp [ZZ,f2]);unfold Zaz;rw [if_neg (by decide),hsp,Zc1 f1];rfl
theorem Znq:ZaO hd1=some ⟨17,1,3,some [⟨6,0,0,0,0,0⟩],1,1⟩:=Zba (j:=1) (by decide) (fun i hi=>by have e:i=0:=(by omega);subst e;exact ZmT) ZmS
theorem Znu:ZaC hd1 ⟨17,1,3,some [⟨6,0,0,0,0,0⟩],1,1⟩=hd2:=rfl
theorem Znp:ZaO hd2=none:=Zcf (fun i hi=>by
 have:i=0∨i=1:=by have:hd2.length=2:=rfl;omega
 rcases this with rfl | rfl
 · unfold Zaz;rw [if_neg (by decide),show Zal hd2 0 (endL hd2 0) (rowL hd2 0) ((spL hd2 0).map (sub hd2)) (hsL hd2 (spL hd2 0)) (ZbT hd2 0)=none by unfold Zal;rfl];rfl
 · unfold Zaz;rw [if_neg (by decide),show Zal hd2 1 (endL hd2 1) (rowL hd2 1) ((spL hd2 1).map (sub hd2)) (hsL hd2 (spL hd2 1)) (ZbT hd2 1)=none by unfold Zal;rfl]
   rfl)
theorem ZjK:Zb5 ZJ=some (-1,⟨8,1,5,some [⟨1,0,0,0,0,1⟩,⟨6,0,0,0,0,0⟩],1,1⟩) :=
 Zba (j:=1) (by decide) (fun i hi=>by have e:i=0:=(by omega);subst e;rfl) (by show ((ZaO hd0).map _)=_;rw [ZlA];rfl)
theorem ZkW:RunTo 2 hd0 hd2 :=
 .step (Zd8 ev0 (by decide)) ZlA ⟨by decide,by decide,fun _=>⟨0,rfl,by decide⟩,by decide,by decide⟩ (by
  rw [Znv]
  exact .step (Zd8 ZnG (by decide)) Znq ⟨by decide,by decide,fun _=>⟨0,rfl,by decide⟩,by decide,by decide⟩ (by
   rw [Znu]
   exact .stop (Zd8 ZnF (by decide)) Znp))
theorem Zl8:RunTo 0 [] []:=.stop (Zd8 (P:=ZJ) rfl (by decide)) rfl
theorem Zny (w:World) (k a n:Int):Calls Try.prog 48 #[.int .i64 k,.int .i64 a,.int .i64 n] w fun en w'=>en=.returned (.agg #[.int .i64 k,.int .i64 a,.int .i64 0,.int .i64 0,.int .i64 0,.int .i64 n])∧Below w.heap.size w w':=by
 have HRES:=Za (show Try.f48.results=#[.cell 6 49] by rfl);go_enter Try.func48,Try.ntmps48;go_wp2_with fail;refine bodyPost_ret (v:=.agg #[.int .i64 k,.int .i64 a,.int .i64 0,.int .i64 0,.int .i64 0,.int .i64 n]) ?_ rfl ?_
 · simp only [results,HRES.out];go_simp
 exact ⟨rfl,(Below.refl _ w).alloc lr_ _⟩
theorem ZlT {w w':World} {en:Ending} {P:Pl} {R:Nat→List Ac} (hc:checkV P=0) (h:Zhy w w' en P R):∃(g v t o m:Value) (us:List Value),en=.returned (.tuple #[.agg #[g,v,t,o,m],.int .i64 0])∧w'.ownsRow w.heap.size 4 1 g P.gh.length (ZY P.gh)∧w'.ownsRow w.heap.size 51 3 v P.vs.length (vrs P.vs)∧w'.ownsRow w.heap.size 3 1 t P.ts.length (Zn P.ts) ∧
 w'.ownsRow w.heap.size 26 1 o P.on.length us∧(∀i,i<P.on.length→∃u,us[i]? = some u∧w'.ownsRow w.heap.size 49 6 u (R i).length (acs (R i)))∧w'.ownsRow w.heap.size 49 6 m (R P.on.length).length (acs (R P.on.length)):=by
 unfold Zhy at h;rw [if_pos hc] at h;exact h
theorem Zmh:hd2.length=2:=rfl
def ZeM (gh go gm:Nat):PlV:=⟨some ⟨gh,0,none⟩,none,none,some ⟨go,0,none⟩,some ⟨gm,0,none⟩,1,1,0,0,0,0,1,1,5,5⟩
theorem ZkX {W:World} {gh go gm:Nat} {t1 t2 t3:TypeId} (h1:Blk W gh t1 (ZY [false]).toArray) (h2:Blk W go t2 (slv [((none:Option Addr),0)] [[]]).toArray) (h3:Blk W gm t3 (acs hd0).toArray):PlMem W (ZeM gh go gm) ZJ [(none,0)] :=
 ⟨rfl,rfl,rfl,rfl,rfl,Zax 1 h1,ZdH W _,ZdH W _,Zax 1 h2,⟨rfl,fun i oa c l e1 e2=>by
  match i with
  | 0 =>
   simp [ZJ] at e1 e2;obtain ⟨rfl,rfl⟩:=e1;subst e2;exact ⟨ZdH W _,by simp,by decide⟩
  | 1 =>
   simp [ZJ,ZeM] at e1 e2;obtain ⟨rfl,rfl⟩:=e1;subst e2;exact ⟨Zax 5 h3,by decide,by decide⟩
  | i+2=>simp [ZJ] at e1⟩,by decide,by decide,by decide,by decide⟩
theorem Zh8 (k:Nat) (h:k≤ZJ.on.length):(k=0∧evP ZJ k=[])∨(k=1∧evP ZJ k=hd0):=by
 have:k=0∨k=1:=by have:ZJ.on.length=1:=rfl;omega
 rcases this with rfl | rfl
 · exact .inl ⟨rfl,rfl⟩
 · exact .inr ⟨rfl,rfl⟩
theorem Zmg (w:World):Calls Try.prog 25 #[] w fun en w'=>en=.returned (.bool true)∧Below w.heap.size w w':=by
 have HA:=Za (fun (W:World) (k a n:Int)=>Zny W k a n);have HB0:=Za (((Below.refl w.heap.size w).alloc lr_ (.cells #[.bool false] 4)).alloc (by simp) (.cells #[.slice none 0 0] 26));have HG0:=Za (show Blk ((w.alloc (.cells #[.bool false] 4)).alloc (.cells #[.slice none 0 0] 26)) w.heap.size 4 #[.bool false] from (Blk.new w _ _).alloc _);have HO0:=Za (show Blk ((w.alloc (.cells #[.bool false] 4)).alloc (.cells #[.slice none 0 0] 26)) (w.heap.size+1) 26 #[.slice none 0 0] from by have h9:=Blk.new (w.alloc (.cells #[.bool false] 4)) 26 #[.slice none 0 0];rwa [show (w.alloc (.cells #[.bool false] 4)).heap.size=w.heap.size+1 by simp] at h9);have HBC:=Za (Below.refl ((w.alloc (.cells #[.bool false] 4)).alloc (.cells #[.slice none 0 0] 26)).heap.size ((w.alloc (.cells #[.bool false] 4)).alloc (.cells #[.slice none 0 0] 26)));go_enter Try.func25,Try.ntmps25;go_upto_region 2 with (go_at_call 48;refine (HA.out _ _ _ _).mono ?_;rintro en w8 ⟨rfl,hb8⟩;have HBN:=Za (HBC.out.trans (hb8.mono HBC.out.size));clear hb8 HBC;have HBC:=HBN;clear HBN);have HBW:=Za (HB0.out.trans (HBC.out.mono HB0.out.size));have HG8:=Za (HG0.out.below HBC.out HG0.out.lt);have HO8:=Za (HO0.out.below HBC.out HO0.out.lt);clear HBC HG0 HO0 HB0;obtain ⟨gh,hgh⟩:∃g,w.heap.size=g:=⟨_,rfl⟩;obtain ⟨go,hgo⟩:∃g,w.heap.size+1=g:=⟨_,rfl⟩;obtain ⟨gm,hgm⟩:∃g,w8.heap.size=g:=⟨_,rfl⟩;obtain ⟨gb,hgb⟩:∃g,w8.heap.size+1=g:=⟨_,rfl⟩;rw [hgo] at HO8;rw [hgh] at HG8;simp only [hgb,hgo];simp only [hgm,hgh];have HM8:=Za ((Blk.new w8 49 #[.int .i64 1,.int .i64 0,.int .i64 0,.int .i64 0,.int .i64 0,.int .i64 1,.int .i64 2,.int .i64 0,.int .i64 0,.int .i64 0,.int .i64 0,.int .i64 2,.int .i64 20,.int .i64 1,.int .i64 0,.int .i64 0,.int .i64 0,.int .i64 0,.int .i64 1,.int .i64 0,.int .i64 0,.int .i64 0,.int .i64 0,.int .i64 1,.int .i64 6,.int .i64 0,.int .i64 0,.int .i64 0,.int .i64 0,.int .i64 0]).alloc (.cells #[.slice (some ⟨gh,0,none⟩) 1 1,.slice none 0 0,.slice none 0 0,.slice (some ⟨go,0,none⟩) 1 1,.slice (some ⟨gm,0,none⟩) 5 5] 28));have HP8:=Za (Blk.new (w8.alloc (.cells #[.int .i64 1,.int .i64 0,.int .i64 0,.int .i64 0,.int .i64 0,.int .i64 1,.int .i64 2,.int .i64 0,.int .i64 0,.int .i64 0,.int .i64 0,.int .i64 2,.int .i64 20,.int .i64 1,.int .i64 0,.int .i64 0,.int .i64 0,.int .i64 0,.int .i64 1,.int .i64 0,.int .i64 0,.int .i64 0,.int .i64 0,.int .i64 1,.int .i64 6,.int .i64 0,.int .i64 0,.int .i64 0,.int .i64 0,.int .i64 0] 49)) 28 #[.slice (some ⟨gh,0,none⟩) 1 1,.slice none 0 0,.slice none 0 0,.slice (some ⟨go,0,none⟩) 1 1,.slice (some ⟨gm,0,none⟩) 5 5]);have HG9:=Za ((HG8.out.alloc (.cells #[.int .i64 1,.int .i64 0,.int .i64 0,.int .i64 0,.int .i64 0,.int .i64 1,.int .i64 2,.int .i64 0,.int .i64 0,.int .i64 0,.int .i64 0,.int .i64 2,.int .i64 20,.int .i64 1,.int .i64 0,.int .i64 0,.int .i64 0,.int .i64 0,.int .i64 1,.int .i64 0,.int .i64 0,.int .i64 0,.int .i64 0,.int .i64 1,.int .i64 6,.int .i64 0,.int .i64 0,.int .i64 0,.int .i64 0,.int .i64 0] 49)).alloc (.cells #[.slice (some ⟨gh,0,none⟩) 1 1,.slice none 0 0,.slice none 0 0,.slice (some ⟨go,0,none⟩) 1 1,.slice (some ⟨gm,0,none⟩) 5 5] 28));have HO9:=Za ((HO8.out.alloc (.cells #[.int .i64 1,.int .i64 0,.int .i64 0,.int .i64 0,.int .i64 0,.int .i64 1,.int .i64 2,.int .i64 0,.int .i64 0,.int .i64 0,.int .i64 0,.int .i64 2,.int .i64 20,.int .i64 1,.int .i64 0,.int .i64 0,.int .i64 0,.int .i64 0,.int .i64 1,.int .i64 0,.int .i64 0,.int .i64 0,.int .i64 0,.int .i64 1,.int .i64 6,.int .i64 0,.int .i64 0,.int .i64 0,.int .i64 0,.int .i64 0] 49)).alloc (.cells #[.slice (some ⟨gh,0,none⟩) 1 1,.slice none 0 0,.slice none 0 0,.slice (some ⟨go,0,none⟩) 1 1,.slice (some ⟨gm,0,none⟩) 5 5] 28));have HBW2:=Za ((HBW.out.alloc HBW.out.size (.cells #[.int .i64 1,.int .i64 0,.int .i64 0,.int .i64 0,.int .i64 0,.int .i64 1,.int .i64 2,.int .i64 0,.int .i64 0,.int .i64 0,.int .i64 0,.int .i64 2,.int .i64 20,.int .i64 1,.int .i64 0,.int .i64 0,.int .i64 0,.int .i64 0,.int .i64 1,.int .i64 0,.int .i64 0,.int .i64 0,.int .i64 0,.int .i64 1,.int .i64 6,.int .i64 0,.int .i64 0,.int .i64 0,.int .i64 0,.int .i64 0] 49)).alloc (by simp;have:=HBW.out.size;omega) (.cells #[.slice (some ⟨gh,0,none⟩) 1 1,.slice none 0 0,.slice none 0 0,.slice (some ⟨go,0,none⟩) 1 1,.slice (some ⟨gm,0,none⟩) 5 5] 28));rw [show (w8.alloc (.cells #[.int .i64 1,.int .i64 0,.int .i64 0,.int .i64 0,.int .i64 0,.int .i64 1,.int .i64 2,.int .i64 0,.int .i64 0,.int .i64 0,.int .i64 0,.int .i64 2,.int .i64 20,.int .i64 1,.int .i64 0,.int .i64 0,.int .i64 0,.int .i64 0,.int .i64 1,.int .i64 0,.int .i64 0,.int .i64 0,.int .i64 0,.int .i64 1,.int .i64 6,.int .i64 0,.int .i64 0,.int .i64 0,.int .i64 0,.int .i64 0] 49)).heap.size=gb by rw [←hgb];simp] at HP8;rw [hgm] at HM8;have HGH:=Za hgh;clear hgo hgm hgb hgh;generalize ((w8.alloc (.cells #[.int .i64 1,.int .i64 0,.int .i64 0,.int .i64 0,.int .i64 0,.int .i64 1,.int .i64 2,.int .i64 0,.int .i64 0,.int .i64 0,.int .i64 0,.int .i64 2,.int .i64 20,.int .i64 1,.int .i64 0,.int .i64 0,.int .i64 0,.int .i64 0,.int .i64 1,.int .i64 0,.int .i64 0,.int .i64 0,.int .i64 0,.int .i64 1,.int .i64 6,.int .i64 0,.int .i64 0,.int .i64 0,.int .i64 0,.int .i64 0] 49)).alloc (.cells #[.slice (some ⟨gh,0,none⟩) 1 1,.slice none 0 0,.slice none 0 0,.slice (some ⟨go,0,none⟩) 1 1,.slice (some ⟨gm,0,none⟩) 5 5] 28))=W1 at HM8 HP8 HG9 HO9 HBW2 ⊢;have HM:=Za (ZkX (t1:=4) (t2:=26) (t3:=49) HG9.out HO9.out HM8.out)
 have hL:=Zh5 W1 (ZeM gh go gm) ZJ [(none,0)] HM.out (fun l hl=>by have h9:l=[]∨l=hd0:=(by simpa [ZJ] using hl);rcases h9 with rfl | rfl <;> decide) (fun _=>⟨by decide,fun k=>by
  by_cases hk:k≤ZJ.on.length
  · rcases Zh8 k hk with ⟨_,e⟩ | ⟨_,e⟩
    · rw [e];exact Zd8 (P:=ZJ) rfl (by decide)
    · rw [e];exact Zd8 ev0 (by decide)
  · have e:evP ZJ k=[]:=by
     unfold evP;rw [List.getElem?_eq_none (by simp;omega)];rfl
    rw [e];exact Zd8 (P:=ZJ) rfl (by decide)⟩)
 have hlr:Za2 ZJ=(-1,1,8,true):=by unfold Za2;rw [if_pos ZfA,ZjK];rfl
 rw [hlr] at hL;simp only [PlV.val,ZeM] at hL;have HL:=Za hL
 have HR:=Za (fun (W:World) (hb:Below W1.heap.size W1 W)=>Znk W (ZeM gh go gm) ZJ [(none,0)] (HM.out.below hb) (fun l hl=>by have h9:l=[]∨l=hd0:=(by simpa [ZJ] using hl);rcases h9 with rfl | rfl <;> decide) (fun k=>if k=0 then [] else hd2) (fun k=>if k=0 then 0 else 2) (fun _=>⟨⟨by decide,by decide,by decide,by decide,fun l hl=>by have h9:l=[]∨l=hd0:=(by simpa [ZJ] using hl);rcases h9 with rfl | rfl <;> decide⟩,fun k hk=>by
  rcases Zh8 k hk with ⟨rfl,e⟩ | ⟨rfl,e⟩
  · rw [e];exact Zl8
  · rw [e];exact ZkW⟩))
 simp only [PlV.val,ZeM] at HR;obtain ⟨b0,b1,b2,b3,b4,hgl⟩:=ZeR HP8.out;have HGL:=Za hgl;have HBS:=Za (And.intro b0 (And.intro b1 (And.intro b2 (And.intro b3 b4))));clear hL hlr;go_upto_region 3 with (go_at_call 28;with_reducible refine HL.out.mono ?_;rintro en W2 ⟨rfl,hb2⟩;have HB2:=Za hb2;clear hb2);have HR2:=Za (HR.out W2 HB2.out);have c0:=(HB2.out.cell (p:=⟨gb,0,none⟩) hgl).trans b0;have c1:=(HB2.out.cell (p:=⟨gb,1,none⟩) hgl).trans b1;have c2:=(HB2.out.cell (p:=⟨gb,2,none⟩) hgl).trans b2;have c3:=(HB2.out.cell (p:=⟨gb,3,none⟩) hgl).trans b3;have c4:=(HB2.out.cell (p:=⟨gb,4,none⟩) hgl).trans b4;clear b0 b1 b2 b3 b4;go_upto_region 4 with (go_at_call 33;go_must (with_reducible refine HR2.out.mono ?_;rintro en W3 ⟨hr3,hb3⟩;obtain ⟨vg,vv,vt,vo,vm,us,e3,eg,ev,et,eo,eu,em⟩:=ZlT ZfA hr3;subst e3;obtain ⟨og,cg,e1⟩:=Zw eg;obtain ⟨ov,cv,e2⟩:=Zw ev;obtain ⟨ot,ct,e3⟩:=Zw et;obtain ⟨oo,co,e4⟩:=Zw eo;rw [if_neg (show ¬ZJ.on.length=0 by decide)] at em;rw [Zmh] at em;have em2:W3.ownsRow W2.heap.size 49 6 vm 2 (acs hd2):=em;clear em;have em:=em2;obtain ⟨gq,cm,e5,hcm,hcm2⟩:=Zas em (by decide);subst e1 e2 e3 e4 e5;have HEM:=Za em;have HB3:=Za hb3;clear eg ev et eo eu em hb3 hr3));have HB4:=Za (HB3.out.alloc HB3.out.size (.cells #[.slice og ZJ.gh.length cg,.slice ov ZJ.vs.length cv,.slice ot ZJ.ts.length ct,.slice oo ZJ.on.length co,.slice (some ⟨gq,0,none⟩) 2 cm] 28));have HX4:=Za (Blk.new W3 28 #[.slice og ZJ.gh.length cg,.slice ov ZJ.vs.length cv,.slice ot ZJ.ts.length ct,.slice oo ZJ.on.length co,.slice (some ⟨gq,0,none⟩) 2 cm]);have HE4:=Za (Zbx (w':=W3.alloc (.cells #[.slice og ZJ.gh.length cg,.slice ov ZJ.vs.length cv,.slice ot ZJ.ts.length ct,.slice oo ZJ.on.length co,.slice (some ⟨gq,0,none⟩) 2 cm] 28)) HEM.out (fun g hg=>Below.heap_alloc _ _ g (HEM.out.lt g hg).2));generalize W3.alloc (.cells #[.slice og ZJ.gh.length cg,.slice ov ZJ.vs.length cv,.slice ot ZJ.ts.length ct,.slice oo ZJ.on.length co,.slice (some ⟨gq,0,none⟩) 2 cm] 28)=W4 at HB4 HX4 HE4 ⊢;obtain ⟨gx,hgx⟩:∃g,W3.heap.size=g:=⟨_,rfl⟩;rw [hgx] at HX4;simp only [hgx];clear hgx;obtain ⟨a0,ea,hab,p0,p1,p2,p3,p4,p5⟩:=Zo (Zaq HE4.out) (show hd2[0]? = some ⟨1,0,0,0,0,1⟩ from rfl);injection ea with ea;subst ea;obtain ⟨a0,ea,_,q0,q1,q2,q3,q4,q5⟩:=Zo (Zaq HE4.out) (show hd2[1]? = some ⟨6,0,0,0,0,0⟩ from rfl);injection ea with ea;subst ea;have hab2:gq<W4.heap.size:=hab;simp only [show (⟨gq,0,none⟩:Addr).add (0*6)=⟨gq,0,none⟩ from rfl,show (⟨gq,0,none⟩:Addr).add (1*6)=⟨gq,6,none⟩ from rfl] at p0 p1 p2 p3 p4 p5 q0 q1 q2 q3 q4 q5;have x4:=(ZeR HX4.out).2.2.2.2.1;have hgl4:=HX4.out.lt;have f0:=fun (z:Grown W4)=>(z.b.cell (p:=⟨gx,4,none⟩) hgl4).trans x4
 have g0:=fun (z:Grown W4)=>(z.b.cell (p:=⟨gq,0,none⟩) hab2).trans p0
 have g1:=fun (z:Grown W4)=>(z.b.cell (p:=⟨gq,0+1,none⟩) hab2).trans p1
 have g2:=fun (z:Grown W4)=>(z.b.cell (p:=⟨gq,0+2,none⟩) hab2).trans p2
 have g3:=fun (z:Grown W4)=>(z.b.cell (p:=⟨gq,0+3,none⟩) hab2).trans p3
 have g4:=fun (z:Grown W4)=>(z.b.cell (p:=⟨gq,0+4,none⟩) hab2).trans p4
 have g5:=fun (z:Grown W4)=>(z.b.cell (p:=⟨gq,0+5,none⟩) hab2).trans p5
 have g6:=fun (z:Grown W4)=>(z.b.cell (p:=⟨gq,6,none⟩) hab2).trans q0
 have g7:=fun (z:Grown W4)=>(z.b.cell (p:=⟨gq,6+1,none⟩) hab2).trans q1
 have g8:=fun (z:Grown W4)=>(z.b.cell (p:=⟨gq,6+2,none⟩) hab2).trans q2
 have g9:=fun (z:Grown W4)=>(z.b.cell (p:=⟨gq,6+3,none⟩) hab2).trans q3
 have g10:=fun (z:Grown W4)=>(z.b.cell (p:=⟨gq,6+4,none⟩) hab2).trans q4
 have g11:=fun (z:Grown W4)=>(z.b.cell (p:=⟨gq,6+5,none⟩) hab2).trans q5
 simp only [Nat.zero_add,Nat.reduceAdd] at g0 g1 g2 g3 g4 g5 g6 g7 g8 g9 g10 g11;have he1:=fun (W:World)=>(eqA W 1 0 0 0 0 1 1 0 0 0 0 1).trans (by simp:_=Result.ok (.bool true) W)
 have he2:=fun (W:World)=>(eqA W 6 0 0 0 0 0 6 0 0 0 0 0).trans (by simp:_=Result.ok (.bool true) W)
 have hgd:=g49;clear c0 c1 c2 c3 c4 x4 p0 p1 p2 p3 p4 p5 q0 q1 q2 q3 q4 q5 hgl hab hcm hcm2;refine ZG (Below.refl W4.heap.size W4) (by kernel_rfl) (by kernel_rfl) ?_
 repeat (go_big_quiet_step (first | (go_at_call 48;exact ZK (HA.out _ _ _ _)) | fail))
 refine wpQuiet_nil ?_;intro w1 hw1;obtain ⟨⟨w1,hb1⟩,rfl⟩:=hw1;have HBF:=Za (HBW2.out.trans ((HB2.out.trans ((HB4.out.trans (hb1.mono HB4.out.size)).mono HB2.out.size)).mono HBW2.out.size));clear hb1 f0 g0 g1 g2 g3 g4 g5 g6 g7 g8 g9 g10 g11;go_wp2_with fail;go_ret;exact ⟨rfl,HBF.out⟩
end Go.Proofs.Ytdpokdcendgfeaa
