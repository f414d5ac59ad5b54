/- FnLazySession: the law's walk. Conditions: the code can be read. -/
import Derived.Test.YtgojnefiephafaaGreatLwDx
import Derived.Test.YtgojnefiephafaaGreatSesQI
namespace Go.Proofs.YtgojnefiephafaaGreat
open Go.RowKit
set_option maxRecDepth 100000 in
set_option maxHeartbeats 8000000 in
theorem ex_FnLazySession (A:Option Addr) (c:Nat) (l:List Int) (w:World) (h:Rd w 1 A l.length (u8s l)) (hr:∀ x ∈ l,0≤x∧x≤255) (hc:l.length≤c) (hcm:c≤maxLen) :
  Calls Tryz.prog 4 #[.slice A l.length c] w fun e w'=>e = .returned (.bool true)∧Ext w w':=by
 have hbig:=h.big;have HD:=lh (s_DrawLazySession A c l w h hr hc hcm);clear h hr hc hcm;by_cases hb:1048576<l.length
 ·have hb2:(1048576:Int)<(l.length:Int):=by omega
  go_enter Tryz.func4,Tryz.ntmps4;go_wp2;go_ret;exact ⟨rfl,Ext.rfl' _⟩
 have hb2:¬ (1048576:Int)<(l.length:Int):=by omega
 clear hb;go_enter Tryz.func4,Tryz.ntmps4;go_wp2_with fail
 refine (HD.out).mono ?_;rintro e w1 ⟨g,Ag,cg,x,A2,c2,ac,A3,c3,rfl,hg,hx,hac,hc3,hcm3,hN,hX,hA,he1⟩;go_upto_region 4 with fail
 have EA:=lh ((Ext.rfl' w1).al (.cells #[.slice Ag g.length cg] 33));have q0:World.cell? (World.alloc w1 (.cells #[.slice Ag g.length cg] 33)) ⟨w1.heap.size,0,none⟩=some (.slice Ag g.length cg):=by simp [go_sem]
 have RG:=lh (hN.ext EA.out);have RX:=lh (hX.ext EA.out);have RA:=lh (hA.ext EA.out);have EW:=lh (he1.tr EA.out);clear hN hX hA he1 EA HD;generalize World.alloc w1 (.cells #[.slice Ag g.length cg] 33)=v0 at *;generalize w1.heap.size=bg at *;have E0:=lh (Ext.rfl' v0);have b0:=blt q0;go_wp2_with fail
 refine (i_LazySession Ag A2 A3 cg c2 c3 g x ac _ (RG.out.ext E0.out) (RX.out.ext E0.out) (RA.out.ext E0.out)).mono ?_;rintro e v1 ⟨BO1,dO1,rfl,hO1,he1⟩;have O1:=lh hO1.rd;have hcapa:=hO1.2.1;have hcapb:=hO1.2.2.1;have HCAP:=lh (And.intro hcapa hcapb);clear hcapa hcapb;have E1:=lh (E0.out.tr he1);have q1:=he1.cellE q0;have b1:=blt q1;clear he1 q0 b0 hO1;go_wp2_with fail
 refine (s_LazySession Ag A2 A3 cg c2 c3 g x ac _ (RG.out.ext E1.out) (RX.out.ext E1.out) (RA.out.ext E1.out)).mono ?_;rintro e v2 ⟨BO2,dO2,rfl,hO2,he2⟩;have O1:=lh (O1.out.ext he2);have O2:=lh hO2.rd;have E2:=lh (E1.out.tr he2);have q2:=he2.cellE q1;have b2:=blt q2;clear he2 q1 b1 hO2;go_wp2_with fail
 refine (l_equalShows BO1 BO2 dO1 dO2 _ (Sg.lazyS g x ac) _ O1.out O2.out).mono ?_;rintro e v3 ⟨rfl,he3⟩;have O1:=lh (O1.out.ext he3);have O2:=lh (O2.out.ext he3);have E3:=lh (E2.out.tr he3);have q3:=he3.cellE q2;have b3:=blt q3;clear he3 q2 b2;have HEP:=lh (Sg.lazy_is_plain g x ac);go_wp2_with fail
 refine (i_PlainSession Ag A2 A3 cg c2 c3 g x ac _ (RG.out.ext E3.out) (RX.out.ext E3.out) (RA.out.ext E3.out)).mono ?_;rintro e v4 ⟨BO3,dO3,rfl,hO3,he4⟩;have O1:=lh (O1.out.ext he4);have O2:=lh (O2.out.ext he4);have O3:=lh hO3.rd;have E4:=lh (E3.out.tr he4);have q4:=he4.cellE q3;have b4:=blt q4;clear he4 q3 b3 hO3;rw [← HEP.out] at O3;go_wp2_with fail
 rw [← HEP.out];refine (l_equalShows BO1 BO3 dO1 dO3 _ (Sg.lazyS g x ac) _ O1.out O3.out).mono ?_;rintro e v5 ⟨rfl,he5⟩;have O1:=lh (O1.out.ext he5);have O2:=lh (O2.out.ext he5);have O3:=lh (O3.out.ext he5);have E5:=lh (E4.out.tr he5);have q5:=he5.cellE q4;have b5:=blt q5;clear he5 q4 b4;go_wp2;go_ret;exact ⟨rfl,EW.out.tr E5.out⟩
end Go.Proofs.YtgojnefiephafaaGreat
