/- FnRunDesk: the law's walk. Conditions: the code can be read; the program's variables are as they were laid. -/
import Derived.Test.YthibllkleakiiaaGreatDoorDkA
import Derived.Test.YthibllkleakiiaaGreatDoorDkG
namespace Go.Proofs.YthibllkleakiiaaGreatDoor
open Go.RowKit
theorem Rd.takeS {w:World}{A:Option Addr}{n:Nat}{l:List ByteArray}(h:Rd w 1 A n (Bh l)){i:Nat}(hi:i<=n):Rd w 1 A i (Bh (l.take i)):=by
 obtain⟨h1,h0,h2⟩:=h;refine⟨by simp at h1 ⊢;omega,by omega,fun hp=>?_⟩;obtain⟨b,o,rfl,h3⟩:=h2 (by omega);refine⟨b,o,rfl,fun k u hu=>h3 k u ?_⟩;unfold Bh at hu ⊢;rw[List.map_take] at hu;rw[List.getElem?_take] at hu;split at hu
 ·exact hu
 ·cases hu
theorem Ss (s:ByteArray)(A:Option Addr)(c n:Nat)(ls:List Sg.AO)(w:World)(hn:ls.length=n)(hG:Ge w)(hs:s.size<=1048576)(hll:∀ l ∈ ls,l.length<=1048576)(h:Rd w 1 A n (Bh (ls.map ts))) :
  Calls Tryz.prog 8 #[.string s,.slice A n c] w fun e w'=>e= .returned (.string (ts (Sg.FD (tx s) ls)))/\Aa w w':=by
 subst hn;exact K4 s A c ls w hG hs hll h
theorem Wn {a b:Sg.AO}(h:a <+: b):(ts b).extract 0 a.length=ts a:=by
 obtain⟨t,rfl⟩:=h;apply K2;rw[OQ,Fm,Fm];simp
theorem Wo (A:Option Addr)(n c k:Nat)(W:World)(hk:k<=c):(Instr.slice 22 (.slice A n c) none (some (.int .i64 (k:Int))) none).run Tryz.prog W= .ok (.slice A k c) W:=by
 have h1:(k:Int)<=(c:Int):=by omega
 have h0:(0:Int)<=(k:Int):=by omega
 go_simp
theorem Wp {a b:Sg.AO}(h:a <+: b)(W:World):(Instr.slice 9 (.string (ts b)) none (some (.int .i64 (a.length:Int))) none).run Tryz.prog W= .ok (.string (ts a)) W:=by
 have h1:(a.length:Int)<=((ts b).size:Int):=by have:=h.length_le;rw[BB];omega
 have h0:(0:Int)<=(a.length:Int):=by omega
 have:=Wn h;go_simp;intro h2;have:=h.length_le;omega
set_option maxRecDepth 100000 in
set_option maxHeartbeats 8000000 in
theorem Pe (A:Option Addr)(c:Nat)(l:List Int)(w:World)(hG:Ge w)(h:Rd w 1 A l.length (Vc l))(hr:∀ x ∈ l,0<=x/\x<=255)(hc:l.length<=c)(hcm:c<=maxLen) :
  Calls Tryz.prog 4 #[.slice A l.length c] w fun e w'=>e= .returned (.bool true)/\Aa w w':=by
 have hbig:=h.big;have HG:=lh hG;have HD:=lh (Nw A c l w h hr hc hcm);clear h hr hc hcm hG;by_cases hb:1048576<l.length
 ·have hb2:(1048576:Int)<(l.length:Int):=by omega
  go_enter Tryz.func4,Tryz.ntmps4;go_wp2;go_ret;exact⟨rfl,Aa.rfl' _⟩
 have hb2:¬ (1048576:Int)<(l.length:Int):=by omega
 clear hb;go_enter Tryz.func4,Tryz.ntmps4;go_wp2_with fail
 refine HD.out.mono ?_;rintro e w0 ⟨s,A1,c1,ss,rfl,hsz,hl8,hx8,hlc,hr1,he0⟩;obtain⟨ls,rfl⟩:∃ ls:List Sg.AO,ss=ls.map ts:=⟨ss.map tx,(Ok ss).symm⟩;rw[List.length_map] at hl8 hlc hr1;rw[List.length_map];have hs:s.size<=1048576:=by omega
 have hll:∀ l ∈ ls,l.length<=1048576:=fun l hl=>by
  have:=hx8 (ts l) (List.mem_map_of_mem hl);rw[BB] at this;omega
 have E0:=lh he0;have R0:=lh hr1;have HI:=lh fun v (k:Nat) (hk:k<=ls.length) (e:Aa w v) h=>Ss s A1 c1 k (ls.take k) v (by rw[List.length_take];omega) (HG.out.ext e) hs (fun l hl=>hll l (List.mem_of_mem_take hl)) h;have HI0:=lh fun v (e:Aa w v) h=>K4 s A1 c1 ls v (HG.out.ext e) hs hll h;have HS:=lh fun v h=>Ol s A1 c1 ls v hs hll h;have HP:=lh fun k=>Sg.Rx (s:=tx s) (ls:=ls) (by omega) k;have hrl:=Sg.PR (tx s) ls;have HNL:=lh (Sg.Ry (s:=tx s) (ls:=ls) (by omega));have HKL:=lh fun k=>Sg.PR (tx s) (ls.take k);generalize Sg.FD (tx s) ls=R at *;have bR:(R == R)=true:=by simp
 have bR2:(R != R)=false:=by simp
 clear he0 hr1 hsz hx8 hs hll HD HG;go_wp2_with fail
 refine(HI0.out _ E0.out R0.out).mono ?_;rintro e w1 ⟨rfl,e1⟩;have E1:=lh (E0.out.tr e1);have R1:=lh (R0.out.ext e1);clear e1 E0 R0 HI0;go_wp2_with fail
 refine(HS.out _ R1.out).mono ?_;rintro e w2 ⟨rfl,e2⟩;have E2:=lh (E1.out.tr e2);have R2:=lh (R1.out.ext e2);clear e2 E1 R1 HS;go_wp2_with fail
 go_loopw [6] (fun s6 wr=>∃ k:Nat,k<=ls.length+1/\s6= .int .i64 k/\Hid (Aa w wr)/\Hid (Aa w2 wr)) (fun s6 _=>ls.length+1 - (intOf s6).toNat)
 case atStart=>exact⟨0,Nat.zero_le _,rfl,E2,lh xr⟩
 case round =>
  obtain⟨k,hk,rfl,EE,EX⟩:=hrel;by_cases hkl:k<=ls.length
  ·have hki:(k:Int)<=(ls.length:Int):=by omega
   have HPK:=lh (HP.out k);have hl9:=HKL.out k;have HIK:=lh (HI.out wr k hkl EE.out (by rw[List.map_take];exact(R2.out.ext EX.out).takeS hkl));generalize Sg.FD (tx s) (ls.take k)=Y at *;have hYR:Y.length<=R.length:=HPK.out.length_le;have hYi:¬ ((R.length:Int)<(Y.length:Int)):=by omega
   have bY:(Y != Y)=false:=by simp
   have hsl:=fun W=>Wo A1 ls.length c1 k W (Nat.le_trans hkl hlc);have hcut:=fun W=>Wp HPK.out W;clear hYR;go_wp2_with fail
   refine HIK.out.mono ?_;rintro e w3 ⟨rfl,e3⟩;go_wp2_with fail
   go_roundw
   case rel=>exact⟨k+1,by omega,by go_num,lh (EE.out.tr e3),lh (EX.out.tr e3)⟩
   case measure=>simp[intOf];omega
  ·obtain rfl:k=ls.length+1:=by omega
   have hk2:¬ (((ls.length+1:Nat):Int)<=(ls.length:Int)):=by omega
   have HQ:=lh (St (ts R) wr (by rw[BB];omega));rw[Fm,HNL.out] at HQ;go_wp2_with fail
   refine HQ.out.mono ?_;rintro e w3 ⟨rfl,rfl⟩;go_wp2;go_ret;exact⟨rfl,EE.out⟩
end Go.Proofs.YthibllkleakiiaaGreatDoor
