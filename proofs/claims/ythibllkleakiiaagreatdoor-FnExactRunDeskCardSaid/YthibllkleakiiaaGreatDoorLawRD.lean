/- FnExactRunDesk: the law's walk with the contracts of both functions. Conditions: the program's variables are as they were laid. -/
import Derived.Test.YthibllkleakiiaaGreatDoorDkA
import Derived.Test.YthibllkleakiiaaGreatDoorDkG
namespace Go.Proofs.YthibllkleakiiaaGreatDoor
open Go.RowKit
set_option maxRecDepth 100000 in
set_option maxHeartbeats 8000000 in
theorem KC (s:ByteArray)(A:Option Addr)(c:Nat)(ss:List ByteArray)(w:World)(hG:Ge w)(h:Rd w 1 A ss.length (Bh ss))(hz:∀ x ∈ ss,x.size<=maxLen) :
  Calls Tryz.prog 3 #[.string s,.slice A ss.length c] w fun e w'=>e= .returned (.bool true)/\Aa w w':=by
 obtain⟨ls,rfl⟩:∃ ls:List Sg.AO,ss=ls.map ts:=⟨ss.map tx,(Ok ss).symm⟩;rw[List.length_map] at h ⊢;have HG:=lh hG;have HR:=lh h;have HSZ:=lh (QL A c ls 1048576 w h hz (Nat.le_refl _));clear hG hz h;by_cases hb:1048576<s.size
 ·have hb2:(1048576:Int)<(s.size:Int):=by omega
  clear HSZ HR;go_enter Tryz.func3,Tryz.ntmps3;go_wp2;go_ret;exact⟨rfl,Aa.rfl' _⟩
 have hb2:¬ (1048576:Int)<(s.size:Int):=by omega
 have hs:s.size<=1048576:=by omega
 obtain⟨z,hz⟩:∃ z,z=Sg.Tt (ls.map List.length) 1048576:=⟨_,rfl⟩;rw[<- hz] at HSZ;by_cases hp:z<0
 ·clear hz;go_enter Tryz.func3,Tryz.ntmps3;go_wp2_with fail
  refine HSZ.out.mono ?_;rintro e w1 ⟨rfl,he1⟩;go_wp2;go_ret;exact⟨rfl,he1⟩
 have hok:=Sg.Xc (ls.map List.length) 1048576 (by rw[<- hz];omega);obtain⟨h1,h2,-⟩:=hok;rw[List.length_map] at h1;have hll:∀ l ∈ ls,l.length<=1048576:=fun l hl=>h2 _ (List.mem_map_of_mem hl);have HT:=lh fun v (e:Aa w v)=>QJ A c ls v (HR.out.ext e) h1;have HS:=lh fun v A c h=>Ol s A c ls v hs hll h;have HI:=lh fun v A c (e:Aa w v) h=>K4 s A c ls v (HG.out.ext e) hs hll h;generalize Sg.FD (tx s) ls=R at *;have bR:(R == R)=true:=by simp
 have bR2:(R != R)=false:=by simp
 clear hz h2 hll hs hb HR HG;go_enter Tryz.func3,Tryz.ntmps3;go_wp2_with fail
 refine HSZ.out.mono ?_;rintro e w1 ⟨rfl,he1⟩;have E1:=lh he1;clear he1 HSZ;go_wp2_with fail
 refine(HT.out _ E1.out).mono ?_;rintro e w2 ⟨A2,rfl,h2,e2⟩;have E2:=lh (E1.out.tr e2);have H2:=lh h2;clear h2 e2 E1;go_wp2_with fail
 refine(HS.out _ A2 _ H2.out).mono ?_;rintro e w3 ⟨rfl,e3⟩;have E3:=lh (E2.out.tr e3);clear e3 E2 H2;go_wp2_with fail
 refine(HT.out _ E3.out).mono ?_;rintro e w4 ⟨A4,rfl,h4,e4⟩;have E4:=lh (E3.out.tr e4);have H4:=lh h4;clear h4 e4 E3;go_wp2_with fail
 refine(HI.out _ A4 _ E4.out H4.out).mono ?_;rintro e w5 ⟨rfl,e5⟩;have E5:=lh (E4.out.tr e5);have H5:=lh (H4.out.ext e5);clear e5 E4 H4;go_wp2_with fail
 refine(HT.out _ E5.out).mono ?_;rintro e w6 ⟨A6,rfl,h6,e6⟩;have E6:=lh (E5.out.tr e6);have H6:=lh (H5.out.ext e6);have K6:=lh h6;clear h6 e6 E5 H5;go_wp2_with fail
 refine(QK A4 A6 _ _ ls _ H6.out K6.out).mono ?_;rintro e w7 ⟨rfl,e7⟩;have E7:=lh (E6.out.tr e7);clear e7 E6 H6 K6;go_wp2;go_ret;exact⟨rfl,E7.out⟩
end Go.Proofs.YthibllkleakiiaaGreatDoor
