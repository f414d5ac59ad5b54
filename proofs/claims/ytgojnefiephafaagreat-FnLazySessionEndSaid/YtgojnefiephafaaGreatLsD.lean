/- FnLazySessionEnd: the law's walk. Conditions: the code can be read. -/
import Derived.Test.YtgojnefiephafaaGreatLwDx
import Derived.Test.YtgojnefiephafaaGreatSesQI
import Derived.Test.YtgojnefiephafaaGreatSesC
namespace Sg
def stopTo (l:List Act) (n k:Nat):Bool:=(l.take k).any fun a=>decide (a.kind=1) && decide (a.node=n)
theorem stopTo_succ {l:List Act} {n k:Nat} {a:Act} (h:l[k]? = some a):stopTo l n (k + 1)=(stopTo l n k || (decide (a.kind=1) && decide (a.node=n))):=by
 unfold stopTo;rw [Go.Proofs.YtgojnefiephafaaGreat.take_snoc l k h,List.any_append];simp
theorem stopTo_all {l:List Act} {n:Nat} (h:stopTo l n l.length=false):∀ a ∈ l,¬ (a.kind=1∧a.node=n):=by
 unfold stopTo at h;rw [List.take_length,List.any_eq_false] at h;intro a ha hc;exact h a ha (by simp [hc.1,hc.2])
theorem last_take {l:List Show} {n k:Nat} {s:Show} (h:l[k]? = some s):lastOf n (l.take (k + 1))=if s.node=n then s.val else lastOf n (l.take k):=by
 rw [Go.Proofs.YtgojnefiephafaaGreat.take_snoc l k h];unfold lastOf;rw [lastFrom_app];rfl
end Sg
namespace Go.Proofs.YtgojnefiephafaaGreat
open Go.RowKit
set_option maxRecDepth 100000 in
set_option maxHeartbeats 8000000 in
theorem ex_FnLazySessionEnd (A:Option Addr) (c:Nat) (l:List Int) (w:World) (h:Rd w 1 A l.length (u8s l)) (hr:∀ x ∈ l,0≤x∧x≤255) (hc:l.length≤c) (hcm:c≤maxLen) :
  Calls Tryz.prog 5 #[.slice A l.length c] w fun e w'=>e = .returned (.bool true)∧Ext w w':=by
 have hbig:=h.big;have HD:=lh (s_DrawLazySession A c l w h hr hc hcm);clear h hr hc hcm;by_cases hb:1048576<l.length
 ·have hb2:(1048576:Int)<(l.length:Int):=by omega
  go_enter Tryz.func5,Tryz.ntmps5;go_wp2;go_ret;exact ⟨rfl,Ext.rfl' _⟩
 have hb2:¬ (1048576:Int)<(l.length:Int):=by omega
 clear hb;go_enter Tryz.func5,Tryz.ntmps5;go_wp2_with fail
 refine (HD.out).mono ?_;rintro e w1 ⟨g,Ag,cg,x,A2,c2,ac,A3,c3,rfl,hg,hx,hac,hc3,hcm3,hN,hX,hA,he1⟩;go_upto_region 4 with fail
 have EA:=lh ((Ext.rfl' w1).al (.cells #[.slice Ag g.length cg] 33));have q0:World.cell? (World.alloc w1 (.cells #[.slice Ag g.length cg] 33)) ⟨w1.heap.size,0,none⟩=some (.slice Ag g.length cg):=by simp [go_sem]
 have RG:=lh (hN.ext EA.out);have RX:=lh (hX.ext EA.out);have RA:=lh (hA.ext EA.out);have EW:=lh (he1.tr EA.out);clear hN hX hA he1 EA HD;generalize World.alloc w1 (.cells #[.slice Ag g.length cg] 33)=v0 at *;generalize w1.heap.size=bg at *;have E0:=lh (Ext.rfl' v0);have b0:=blt q0;go_wp2_with fail
 refine (i_LazySession Ag A2 A3 cg c2 c3 g x ac _ (RG.out.ext E0.out) (RX.out.ext E0.out) (RA.out.ext E0.out)).mono ?_;rintro e v1 ⟨BO1,dO1,rfl,hO1,he1⟩;have O1:=lh hO1.rd;have hcapa:=hO1.2.1;have hcapb:=hO1.2.2.1;have HCAP:=lh (And.intro hcapa hcapb);clear hcapa hcapb;have E1:=lh (E0.out.tr he1);have q1:=he1.cellE q0;have b1:=blt q1;clear he1 q0 b0 hO1;go_wp2_with fail
 refine (s_LazySession Ag A2 A3 cg c2 c3 g x ac _ (RG.out.ext E1.out) (RX.out.ext E1.out) (RA.out.ext E1.out)).mono ?_;rintro e v2 ⟨BO2,dO2,rfl,hO2,he2⟩;have O1:=lh (O1.out.ext he2);have O2:=lh hO2.rd;have E2:=lh (E1.out.tr he2);have q2:=he2.cellE q1;have b2:=blt q2;clear he2 q1 b1 hO2;have HVC:=lh (i_ValidCells Ag A2 cg c2 g x);have HVA:=lh (i_ValidActs Ag A3 cg c3 g ac);cases hC:(Sg.validG g && Sg.validC g x)
 ·have HC:=lh hC;clear hC;go_wp2_with fail
  refine (l_equalShows BO1 BO2 dO1 dO2 _ (Sg.lazyS g x ac) _ O1.out O2.out).mono ?_;rintro e v3 ⟨rfl,he3⟩;have O1:=lh (O1.out.ext he3);have O2:=lh (O2.out.ext he3);have E3:=lh (E2.out.tr he3);have q3:=he3.cellE q2;have b3:=blt q3;clear he3 q2 b2;go_wp2_with fail
  refine (HVC.out _ (RG.out.ext E3.out) (RX.out.ext E3.out)).mono ?_;rintro e v4 ⟨rfl,he4⟩;have O1:=lh (O1.out.ext he4);have O2:=lh (O2.out.ext he4);have E4:=lh (E3.out.tr he4);have q4:=he4.cellE q3;have b4:=blt q4;clear he4 q3 b3;rw [HC.out];go_wp2_with fail
  refine (s_LazySession Ag A2 A3 cg c2 c3 g x ac _ (RG.out.ext E4.out) (RX.out.ext E4.out) (RA.out.ext E4.out)).mono ?_;rintro e v5 ⟨BO3,dO3,rfl,hO3,he5⟩;have O1:=lh (O1.out.ext he5);have O2:=lh (O2.out.ext he5);have O3:=lh hO3.rd;have E5:=lh (E4.out.tr he5);have q5:=he5.cellE q4;have b5:=blt q5;clear he5 q4 b4 hO3;go_wp2_with fail
  refine (l_equalShows BO1 BO3 dO1 dO3 _ (Sg.lazyS g x ac) _ O1.out O3.out).mono ?_;rintro e v6 ⟨rfl,he6⟩;have O1:=lh (O1.out.ext he6);have O2:=lh (O2.out.ext he6);have O3:=lh (O3.out.ext he6);have E6:=lh (E5.out.tr he6);have q6:=he6.cellE q5;have b6:=blt q6;clear he6 q5 b5;go_wp2;go_ret;exact ⟨rfl,EW.out.tr E6.out⟩
 have HC:=lh hC;cases hA:Sg.validA g ac
 ·have HA:=lh hA;clear hA hC;go_wp2_with fail
  refine (l_equalShows BO1 BO2 dO1 dO2 _ (Sg.lazyS g x ac) _ O1.out O2.out).mono ?_;rintro e v3 ⟨rfl,he3⟩;have O1:=lh (O1.out.ext he3);have O2:=lh (O2.out.ext he3);have E3:=lh (E2.out.tr he3);have q3:=he3.cellE q2;have b3:=blt q3;clear he3 q2 b2;go_wp2_with fail
  refine (HVC.out _ (RG.out.ext E3.out) (RX.out.ext E3.out)).mono ?_;rintro e v4 ⟨rfl,he4⟩;have O1:=lh (O1.out.ext he4);have O2:=lh (O2.out.ext he4);have E4:=lh (E3.out.tr he4);have q4:=he4.cellE q3;have b4:=blt q4;clear he4 q3 b3;rw [HC.out];go_wp2_with fail
  refine (HVA.out _ (RG.out.ext E4.out) (RA.out.ext E4.out)).mono ?_;rintro e v5 ⟨rfl,he5⟩;have O1:=lh (O1.out.ext he5);have O2:=lh (O2.out.ext he5);have E5:=lh (E4.out.tr he5);have q5:=he5.cellE q4;have b5:=blt q5;clear he5 q4 b4;rw [HA.out];go_wp2_with fail
  refine (s_LazySession Ag A2 A3 cg c2 c3 g x ac _ (RG.out.ext E5.out) (RX.out.ext E5.out) (RA.out.ext E5.out)).mono ?_;rintro e v6 ⟨BO3,dO3,rfl,hO3,he6⟩;have O1:=lh (O1.out.ext he6);have O2:=lh (O2.out.ext he6);have O3:=lh hO3.rd;have E6:=lh (E5.out.tr he6);have q6:=he6.cellE q5;have b6:=blt q6;clear he6 q5 b5 hO3;go_wp2_with fail
  refine (l_equalShows BO1 BO3 dO1 dO3 _ (Sg.lazyS g x ac) _ O1.out O3.out).mono ?_;rintro e v7 ⟨rfl,he7⟩;have O1:=lh (O1.out.ext he7);have O2:=lh (O2.out.ext he7);have O3:=lh (O3.out.ext he7);have E7:=lh (E6.out.tr he7);have q7:=he7.cellE q6;have b7:=blt q7;clear he7 q6 b6;go_wp2;go_ret;exact ⟨rfl,EW.out.tr E7.out⟩
 have HA:=lh hA;have hfit:Sg.fitS g x ac=true:=by unfold Sg.fitS;rw [hC,hA];rfl
 have HFT:=lh hfit;have HG:=lh (Bool.and_eq_true _ _ ▸ hC).1;have HCV:=lh (Sg.cellsAfter_valid hfit);clear hC hA;go_wp2_with fail
 refine (l_equalShows BO1 BO2 dO1 dO2 _ (Sg.lazyS g x ac) _ O1.out O2.out).mono ?_;rintro e v3 ⟨rfl,he3⟩;have O1:=lh (O1.out.ext he3);have O2:=lh (O2.out.ext he3);have E3:=lh (E2.out.tr he3);have q3:=he3.cellE q2;have b3:=blt q3;clear he3 q2 b2;go_wp2_with fail
 refine (HVC.out _ (RG.out.ext E3.out) (RX.out.ext E3.out)).mono ?_;rintro e v4 ⟨rfl,he4⟩;have O1:=lh (O1.out.ext he4);have O2:=lh (O2.out.ext he4);have E4:=lh (E3.out.tr he4);have q4:=he4.cellE q3;have b4:=blt q4;clear he4 q3 b3;rw [HC.out];go_wp2_with fail
 refine (HVA.out _ (RG.out.ext E4.out) (RA.out.ext E4.out)).mono ?_;rintro e v5 ⟨rfl,he5⟩;have O1:=lh (O1.out.ext he5);have O2:=lh (O2.out.ext he5);have E5:=lh (E4.out.tr he5);have q5:=he5.cellE q4;have b5:=blt q5;clear he5 q4 b4;rw [HA.out];have HLW:=lh (fun (n:Nat) (hn:n<g.length) (hs:Sg.stopTo ac n ac.length=false)=>Sg.last_word hfit hn (Sg.stopTo_all hs));have HIC:=lh (fun w1 h1 h2 h3=>i_CellsAfter Ag A2 A3 cg c2 c3 g x ac w1 h1 h2 h3 HFT.out);have HIM:=lh (fun (A1:Option Addr) (c1:Nat) w1 h1 h2=>i_MeaningN Ag A1 cg c1 g (Sg.cellsAfter g x ac) w1 h1 h2 HG.out HCV.out);clear hfit;have EX:=lh (EW.out.tr E5.out);have Q0:=lh q5;have RG2:=lh (RG.out.ext E5.out);have RX2:=lh (RX.out.ext E5.out);have RA2:=lh (RA.out.ext E5.out);clear RG RX RA EW O2 HVC HVA HC HA HCAP E0 E1 E2 E3 E4;have D0:=lh ((Ext.rfl' v5).dr);have O1b:=lh O1.out;go_wp2_with fail
 refine zb 6 (fun W=>W.cell? ⟨bg,0,none⟩=some (.slice Ag g.length cg)) ?_ (fun hHeld=>?_)
 ·exact D0.out.cellE Q0.out
 refine zy 0 ?_;refine zy 1 ?_;refine zy 2 ?_;refine zy 3 ?_;refine zr 4 rfl fun K hK=>?_;go_simp;refine (HIC.out _ (RG2.out.ext D0.out) (RX2.out.ext D0.out) (RA2.out.ext D0.out)).mono ?_;rintro e vp ⟨BO4,dO4,rfl,hO4,hep⟩;have O4:=lh hO4.rd;have EP:=lh (D0.out.tr hep);have qp:=EP.out.cellE Q0.out;clear hO4 hep;try go_wp2_with fail
 refine hK.out _ _ (fun _=>qp) (fun hh=>?_);have hHeld:=hh (by decide);clear hK K hh;try simp only [Act.put,pu]
 refine zr 5 rfl fun K hK=>?_;go_simp;refine (HIM.out BO4 dO4 _ (RG2.out.ext EP.out) O4.out).mono ?_;rintro e vm ⟨BO5,rfl,hO5,hem⟩;have O5:=lh hO5.rd;have EM:=lh (EP.out.tr hem);have qm:=EM.out.cellE Q0.out;clear hO5 hem;try go_wp2_with fail
 refine hK.out _ _ (fun _=>qm) (fun hh=>?_);have hHeld:=hh (by decide);clear hK K hh;try simp only [Act.put,pu]
 refine zr 6 rfl fun K hK=>?_;go_simp;refine hK.out _ _ (fun e=>absurd rfl e) (fun hh=>?_);clear hK K hHeld hh;try simp only [Act.put,pu]
 refine zn ?_;skip
 have O1:=lh (O1b.out.ext EM.out);have RG:=lh (RG2.out.ext EM.out);have RA:=lh (RA2.out.ext EM.out);have EZ:=lh (EX.out.tr EM.out);have bm:=blt qm;clear q5 b5 Q0 RG2 RX2 RA2 D0 O1b EX HIC HIM E5 EP EM qp O4 HG HCV;have HSA:=lh (show ∀ k (a:Sg.Act) (n:Nat),ac[k]? = some a→Sg.stopTo ac n (k + 1)=(Sg.stopTo ac n k || (decide (a.kind=1) && decide (a.node=n))) from fun k a n h=>Sg.stopTo_succ h);have HLA:=lh (show ∀ k (s:Sg.Show) (n:Nat),(Sg.lazyS g x ac)[k]? = some s→Sg.lastOf n ((Sg.lazyS g x ac).take (k + 1))=if s.node=n then s.val else Sg.lastOf n ((Sg.lazyS g x ac).take k) from fun k s n h=>Sg.last_take h);have HL0:=lh (show ∀ n:Nat,Sg.lastOf n ((Sg.lazyS g x ac).take 0) = -1 from fun n=>rfl);have HS0:=lh (show ∀ n:Nat,Sg.stopTo ac n 0=false from fun n=>rfl);have HLE:=lh (show ∀ n:Nat,Sg.lastOf n ((Sg.lazyS g x ac).take (Sg.lazyS g x ac).length)=Sg.lastOf n (Sg.lazyS g x ac) from fun n=>by rw [List.take_length]);generalize Sg.mean g (Sg.cellsAfter g x ac)=mv at *;generalize Sg.lazyS g x ac=out at *;obtain ⟨LS,hLS⟩:∃ LS:Nat→Nat→Int,∀ n k,LS n k=Sg.lastOf n (out.take k):=⟨_,fun _ _=>rfl⟩;simp only [← hLS] at HLA HL0 HLE;clear hLS;obtain ⟨ST,hST⟩:∃ ST:Nat→Nat→Bool,∀ n k,ST n k=Sg.stopTo ac n k:=⟨_,fun _ _=>rfl⟩;simp only [← hST] at HSA HS0 HLW;clear hST;have hbo:=O1.out.big;have hba:=RA.out.big;have hgl:=RG.out.1;go_wp2_with fail
 go_loopw [8] (fun s8 wr=>∃ n:Nat,n≤g.length∧s8 = .int .i64 n∧Hid (Ext vm wr)) (fun s8 _=>g.length - (intOf s8).toNat)
 case atStart=>exact ⟨0,Nat.zero_le _,rfl,lh (Ext.rfl' vm)⟩
 case round =>
  obtain ⟨n,hn,rfl,hX⟩:=hrel;obtain ⟨wi,rfl⟩:∃ wi:World,wi=wr:=⟨_,rfl⟩;have qw:=hX.out.cellE qm;have bw:=blt qw;by_cases hlt:n<g.length
  ·have hnx:(n:Int)<(g.length:Int):=by omega
   go_wp2_with fail
   go_loopw [9,11] (fun s9 s11 wr=>∃ k:Nat,k≤out.length∧s11 = .int .i64 k∧s9 = .int .i64 (LS n k)∧Hid (Ext vm wr)) (fun _ s11 _=>out.length - (intOf s11).toNat)
   case atStart=>exact ⟨0,Nat.zero_le _,rfl,by rw [HL0.out],hX⟩
   case round =>
    obtain ⟨k,hk,rfl,rfl,hY⟩:=hrel;by_cases hlk:k<out.length
    ·obtain ⟨bo,oo,⟨xn,xv⟩,rfl,hx,h0,h1⟩:=(O1.out.ext hY.out).atS hlk;dsimp only at *;have b0:=blt h0;have b1:=blt h1;have hkx:(k:Int)<(out.length:Int):=by omega
     have hs:=HLA.out k _ n hx;dsimp only at hs;clear hx;by_cases hz:xn=(n:Int)
     ·subst hz;rw [if_pos rfl] at hs;have Hs:=lh hs;clear hs;go_wp2;go_roundw
      case rel=>exact ⟨k + 1,by omega,by go_num,by rw [Hs.out],hY⟩
      case measure=>simp [intOf];omega
     ·rw [if_neg hz] at hs;have Hs:=lh hs;have z1:(xn == (n:Int))=false:=by simp [hz]
      clear hs hz;go_wp2;go_roundw
      case rel=>exact ⟨k + 1,by omega,by go_num,by rw [Hs.out],hY⟩
      case measure=>simp [intOf];omega
    ·obtain rfl:k=out.length:=by omega
     obtain ⟨wj,rfl⟩:∃ wj:World,wj=wr:=⟨_,rfl⟩;rw [HLE.out];go_wp2_with fail
     go_loopw [10,12] (fun s10 s12 wr=>∃ k:Nat,k≤ac.length∧s12 = .int .i64 k∧s10 = .bool (ST n k)∧Hid (Ext vm wr)) (fun _ s12 _=>ac.length - (intOf s12).toNat)
     case atStart=>exact ⟨0,Nat.zero_le _,rfl,by rw [HS0.out],hY⟩
     case round =>
      obtain ⟨k,hk,rfl,rfl,hU⟩:=hrel;by_cases hlk:k<ac.length
      ·obtain ⟨bo,oo,⟨xk,xn,xv⟩,rfl,hx,h0,h1,h2⟩:=(RA.out.ext hU.out).atA hlk;dsimp only at *;have b0:=blt h0;have b1:=blt h1;have hkx:(k:Int)<(ac.length:Int):=by omega
       have hs:=HSA.out k _ n hx;dsimp only at hs;clear hx h2;generalize ST n k=sk at *;cases sk
       ·rw [Bool.false_or] at hs;by_cases hz:xk=1
        ·subst hz;by_cases hy:xn=(n:Int)
         ·subst hy;rw [decide_eq_true rfl,decide_eq_true rfl] at hs;have Hs:=lh hs;clear hs;go_wp2;go_roundw
          case rel=>exact ⟨k + 1,by omega,by go_num,by rw [Hs.out];rfl,hU⟩
          case measure=>simp [intOf];omega
         ·rw [decide_eq_true rfl,decide_eq_false hy] at hs;have Hs:=lh hs;have z1:(xn == (n:Int))=false:=by simp [hy]
          clear hs hy;go_wp2;go_roundw
          case rel=>exact ⟨k + 1,by omega,by go_num,by rw [Hs.out];rfl,hU⟩
          case measure=>simp [intOf];omega
        ·rw [decide_eq_false hz] at hs;have Hs:=lh hs;have z1:(xk == 1)=false:=by simp [hz]
         clear hs hz;go_wp2;go_roundw
         case rel=>exact ⟨k + 1,by omega,by go_num,by rw [Hs.out];rfl,hU⟩
         case measure=>simp [intOf];omega
       ·rw [Bool.true_or] at hs;have Hs:=lh hs;clear hs;go_wp2;go_roundw
        case rel=>exact ⟨k + 1,by omega,by go_num,by rw [Hs.out],hU⟩
        case measure=>simp [intOf];omega
      ·obtain rfl:k=ac.length:=by omega
       obtain ⟨wk,rfl⟩:∃ wk:World,wk=wr:=⟨_,rfl⟩;have hlw:=HLW.out n hlt;generalize ST n ac.length=sk at *;cases sk
       ·obtain ⟨bv,ov,y,rfl,hy,hy0⟩:=(O5.out.ext hU.out).at1 hlt;have by0:=blt hy0;have hyv:mv.getD n 0=y:=by simp [hy]
        have hlv:=hlw rfl;rw [hyv] at hlv;clear hy hyv hlw;generalize Sg.lastOf n out=lv at *;rcases hlv with rfl | rfl
        ·go_wp2;go_roundw
         case rel=>exact ⟨n + 1,by omega,by go_num,hU⟩
         case measure=>simp [intOf];omega
        ·by_cases hp:0≤lv
         ·go_wp2;go_roundw
          case rel=>exact ⟨n + 1,by omega,by go_num,hU⟩
          case measure=>simp [intOf];omega
         ·go_wp2;go_roundw
          case rel=>exact ⟨n + 1,by omega,by go_num,hU⟩
          case measure=>simp [intOf];omega
       ·generalize Sg.lastOf n out=lv at *;clear hlw;go_wp2;go_roundw
        case rel=>exact ⟨n + 1,by omega,by go_num,hU⟩
        case measure=>simp [intOf];omega
  ·obtain rfl:n=g.length:=by omega
   go_wp2;go_ret;exact ⟨rfl,EZ.out.tr hX.out⟩
end Go.Proofs.YtgojnefiephafaaGreat
