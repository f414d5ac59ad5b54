/- FnRunsIn: the law's walk. Conditions: the code can be read. -/
import Derived.Test.YtgojnefiephafaaGreatLwDx
import Derived.Test.YtgojnefiephafaaGreatSesN
namespace Sg
def cntW (l:List Act) (k:Nat):Nat:=((l.take k).filter fun a=>decide (a.kind=0)).length
theorem cntW_succ {l:List Act} {k:Nat} {a:Act} (h:l[k]? = some a):cntW l (k + 1)=cntW l k + if a.kind=0 then 1 else 0:=by
 unfold cntW;rw [Go.Proofs.YtgojnefiephafaaGreat.take_snoc l k h,List.filter_append,List.length_append];by_cases hz:a.kind=0 <;> simp [hz]
theorem cntW_le (l:List Act) (k:Nat):cntW l k≤l.length:=Nat.le_trans (List.length_filter_le _ _) (by rw [List.length_take];exact Nat.min_le_right _ _)
theorem cntW_none {l:List Act} (h:cntW l l.length=0):noWrite l:=by
 unfold cntW at h;rw [List.take_length,List.length_eq_zero_iff,List.filter_eq_nil_iff] at h;intro a ha hk;exact h a ha (by simp [hk])
def cntN (g:Graph) (k:Nat):Nat:=(whichL (fun j=>decide (kindAt g (j:Int)≠0)) k).length
theorem cntN_succ (g:Graph) (k:Nat):cntN g (k + 1)=cntN g k + if kindAt g (k:Int)≠0 then 1 else 0:=by
 unfold cntN;rw [whichL_succ];by_cases hz:kindAt g (k:Int)=0 <;> simp [hz]
theorem cntN_le (g:Graph) (k:Nat):cntN g k≤k:=whichL_len _ _
end Sg
namespace Go.Proofs.YtgojnefiephafaaGreat
open Go.RowKit
set_option maxRecDepth 100000 in
set_option maxHeartbeats 8000000 in
theorem ex_FnRunsIn (A:Option Addr) (c:Nat) (l:List Int) (w:World) (h:Rd w 1 A l.length (u8s l)) (hr:∀ x ∈ l,0≤x∧x≤255) (hc:l.length≤c) (hcm:c≤maxLen) :
  Calls Tryz.prog 6 #[.slice A l.length c] w fun e w'=>e = .returned (.bool true)∧Ext w w':=by
 have hbig:=h.big;have HD:=lh (s_DrawRunsIn A c l w h hr hc hcm);clear h hr hc hcm;by_cases hb:1048576<l.length
 ·have hb2:(1048576:Int)<(l.length:Int):=by omega
  go_enter Tryz.func6,Tryz.ntmps6;go_wp2;go_ret;exact ⟨rfl,Ext.rfl' _⟩
 have hb2:¬ (1048576:Int)<(l.length:Int):=by omega
 clear hb;go_enter Tryz.func6,Tryz.ntmps6;go_wp2_with fail
 refine (HD.out).mono ?_;rintro e w1 ⟨g,Ag,cg,x,A2,c2,ac,A3,c3,rfl,hg,hx,hac,hc3,hcm3,hN,hX,hA,he1⟩;go_upto_region 4 with fail
 have EA:=lh ((Ext.rfl' w1).al (.cells #[.slice Ag g.length cg] 33));have q0:World.cell? (World.alloc w1 (.cells #[.slice Ag g.length cg] 33)) ⟨w1.heap.size,0,none⟩=some (.slice Ag g.length cg):=by simp [go_sem]
 have RG:=lh (hN.ext EA.out);have RX:=lh (hX.ext EA.out);have RA:=lh (hA.ext EA.out);have EW:=lh (he1.tr EA.out);clear hN hX hA he1 EA HD;generalize World.alloc w1 (.cells #[.slice Ag g.length cg] 33)=v0 at *;generalize w1.heap.size=bg at *;have E0:=lh (Ext.rfl' v0);have b0:=blt q0;have HI:=lh (fun w1 h1 h2 h3=>i_RunsIn Ag A2 A3 cg c2 c3 g x ac w1 h1 h2 h3);have HS:=lh (fun w1 h1 h2 h3=>s_RunsIn Ag A2 A3 cg c2 c3 g x ac w1 h1 h2 h3);cases hfit:Sg.fitS g x ac
 ·have hr:=Sg.runs_not hfit;clear hfit;rw [hr] at HI HS;clear hr;dsimp only at HI HS;go_wp2_with fail
  refine (HI.out _ (RG.out.ext E0.out) (RX.out.ext E0.out) (RA.out.ext E0.out)).mono ?_;rintro e v1 ⟨rfl,he1⟩;have E1:=lh (E0.out.tr he1);have q1:=he1.cellE q0;have b1:=blt q1;clear he1 q0 b0;go_wp2_with fail
  refine (HS.out _ (RG.out.ext E1.out) (RX.out.ext E1.out) (RA.out.ext E1.out)).mono ?_;rintro e v2 ⟨rfl,he2⟩;have E2:=lh (E1.out.tr he2);have q2:=he2.cellE q1;have b2:=blt q2;clear he2 q1 b1;go_wp2;go_ret;exact ⟨rfl,EW.out.tr E2.out⟩
 obtain ⟨hr1,hr2,hr3,hr4⟩:=Sg.runs_law hfit;clear hfit;generalize Sg.runsIn g x ac=R at *;obtain ⟨ra,rb⟩:=R;dsimp only at *;have hra:¬ ra<0:=by omega
 have HW4:=lh (show Sg.cntW ac ac.length=0→ra=(Sg.cntN g g.length:Int) from fun h=>hr4 (Sg.cntW_none h));have HN3:=lh (show (Sg.cntN g g.length:Int)≤ra from hr3);have HR:=lh (And.intro hr1 hr2);clear hr1 hr2 hr3 hr4;go_wp2_with fail
 refine (HI.out _ (RG.out.ext E0.out) (RX.out.ext E0.out) (RA.out.ext E0.out)).mono ?_;rintro e v1 ⟨rfl,he1⟩;have E1:=lh (E0.out.tr he1);have q1:=he1.cellE q0;have b1:=blt q1;clear he1 q0 b0;go_wp2_with fail
 refine (HS.out _ (RG.out.ext E1.out) (RX.out.ext E1.out) (RA.out.ext E1.out)).mono ?_;rintro e v2 ⟨rfl,he2⟩;have E2:=lh (E1.out.tr he2);have q2:=he2.cellE q1;have b2:=blt q2;clear he2 q1 b1;have HSW:=lh (show ∀ k (a:Sg.Act),ac[k]? = some a→Sg.cntW ac (k + 1)=Sg.cntW ac k + if a.kind=0 then 1 else 0 from fun k a h=>Sg.cntW_succ h);have HSN:=lh (show ∀ k,Sg.cntN g (k + 1)=Sg.cntN g k + if Sg.kindAt g (k:Int)≠0 then 1 else 0 from Sg.cntN_succ g);have HLW:=lh (show ∀ k,Sg.cntW ac k≤ac.length from Sg.cntW_le ac);have HLN:=lh (show ∀ k,Sg.cntN g k≤k from Sg.cntN_le g);have H0W:=lh (show Sg.cntW ac 0=0 from rfl);have H0N:=lh (show Sg.cntN g 0=0 from rfl);generalize Sg.cntW ac=CW at *;generalize Sg.cntN g=CN at *;have hba:=RA.out.big;have hgl:=RG.out.1;go_wp2_with fail
 go_loopw [10,11] (fun s10 s11 wr=>∃ k:Nat,k≤ac.length∧s11 = .int .i64 k∧s10 = .int .i64 (CW k:Int)∧Hid (Ext v2 wr)) (fun _ s11 _=>ac.length - (intOf s11).toNat)
 case atStart=>exact ⟨0,Nat.zero_le _,rfl,by rw [H0W.out];rfl,lh (Ext.rfl' v2)⟩
 case round =>
  obtain ⟨k,hk,rfl,rfl,hX⟩:=hrel;have hcl:=HLW.out k;by_cases hlk:k<ac.length
  ·obtain ⟨bo,oo,⟨xk,xn,xv⟩,rfl,hx,h0,h1,h2⟩:=(RA.out.ext (E2.out.tr hX.out)).atA hlk;dsimp only at *;have b0:=blt h0;have hkx:(k:Int)<(ac.length:Int):=by omega
   have hs:=HSW.out k _ hx;dsimp only at hs;clear hx h1 h2;have iw:IntKind.i64.wrap ((CW k:Int) + 1)=(CW k:Int) + 1:=IntWalk.i64_in _ (by omega);by_cases hz:xk=0
   ·subst hz;rw [if_pos rfl] at hs;have Hs:=lh hs;clear hs;go_wp2;go_roundw
    case rel=>exact ⟨k + 1,by omega,by go_num,by rw [Hs.out];simp,hX⟩
    case measure=>simp [intOf];omega
   ·rw [if_neg hz] at hs;have Hs:=lh hs;have z1:(xk == 0)=false:=by simp [hz]
    clear hs hz;go_wp2;go_roundw
    case rel=>exact ⟨k + 1,by omega,by go_num,by rw [Hs.out];simp,hX⟩
    case measure=>simp [intOf];omega
  ·obtain rfl:k=ac.length:=by omega
   obtain ⟨wj,rfl⟩:∃ wj:World,wj=wr:=⟨_,rfl⟩;generalize CW ac.length=nw at *;go_wp2_with fail
   go_loopw [12,13] (fun s12 s13 wr=>∃ j:Nat,j≤g.length∧s13 = .int .i64 j∧s12 = .int .i64 (CN j:Int)∧Hid (Ext v2 wr)) (fun _ s13 _=>g.length - (intOf s13).toNat)
   case atStart=>exact ⟨0,Nat.zero_le _,rfl,by rw [H0N.out];rfl,hX⟩
   case round =>
    obtain ⟨j,hj,rfl,rfl,hY⟩:=hrel;have qw:=hY.out.cellE q2;have bw:=blt qw;have hnl:=HLN.out j;by_cases hlt:j<g.length
    ·obtain ⟨⟨nk,nf⟩,b,oo,Aq,cq,hn,rfl,hkc,hsc,hf,hfl⟩:=(RG.out.ext (E2.out.tr hY.out)).at_ hlt;dsimp only at *;have HK:=lh (show Sg.kindAt g (j:Int)=nk by unfold Sg.kindAt;simp [hn]);have bk:=blt hkc;have hjx:(j:Int)<(g.length:Int):=by omega
     clear hn hsc hf hfl;have hs:=HSN.out j;rw [HK.out] at hs;have iw:IntKind.i64.wrap ((CN j:Int) + 1)=(CN j:Int) + 1:=IntWalk.i64_in _ (by omega);by_cases hz:nk=0
     ·subst hz;rw [if_neg (fun h=>h rfl)] at hs;have Hs:=lh hs;clear hs;go_wp2;go_roundw
      case rel=>exact ⟨j + 1,by omega,by go_num,by rw [Hs.out];simp,hY⟩
      case measure=>simp [intOf];omega
     ·rw [if_pos hz] at hs;have Hs:=lh hs;have z1:(nk == 0)=false:=by simp [hz]
      have z2:(nk != 0)=true:=by simp [hz]
      clear hs hz;go_wp2;go_roundw
      case rel=>exact ⟨j + 1,by omega,by go_num,by rw [Hs.out];simp,hY⟩
      case measure=>simp [intOf];omega
    ·obtain rfl:j=g.length:=by omega
     obtain ⟨hr1,hr2⟩:=HR.out;have hr3:=HN3.out;have HY:=lh (EW.out.tr (E2.out.tr hY.out));generalize CN g.length=nn at *;by_cases hw:nw=0
     ·have hre:=HW4.out hw;subst hw;subst hre;clear hr3;go_wp2;go_ret;exact ⟨rfl,HY.out⟩
     ·have hw1:(0:Int)<(nw:Int):=by omega
      have hr4:ra ≥ (nn:Int):=hr3;go_wp2;go_ret;exact ⟨rfl,HY.out⟩
end Go.Proofs.YtgojnefiephafaaGreat
