/- RunsIn of both sides: contracts. Conditions: the arguments can be read. -/
import Derived.Test.YtgojnefiephafaaGreatSesF
import Derived.Test.YtgojnefiephafaaGreatSesQI
namespace Sg
theorem runs_fit {g:Graph} {x:List Int} {l:List Act} (h:fitS g x l=true):runsIn g x l=((eagR g x l).2.2.2,(lazyR g x l).2.2.2):=by unfold runsIn;rw [if_pos h,(eag_all h).2]
theorem runs_not {g:Graph} {x:List Int} {l:List Act} (h:fitS g x l=false):runsIn g x l=(-1,-1):=by unfold runsIn;rw [h];rfl
end Sg
namespace Go.Proofs.YtgojnefiephafaaGreat
open Go.RowKit
set_option maxRecDepth 100000 in
set_option maxHeartbeats 4000000 in
theorem i_RunsIn (A Ac Al:Option Addr) (c cc cl:Nat) (g:Sg.Graph) (x:List Int) (l:List Sg.Act) (w:World) (h:RdN w A g) (hx:Rd w 1 Ac x.length (ints x)) (hl:Rd w 3 Al l.length (acts l)) :
  Calls Tryz.prog 32 #[.agg #[.slice A g.length c],.slice Ac x.length cc,.slice Al l.length cl] w fun e w'=>e = .returned (.tuple #[.int .i64 (Sg.runsIn g x l).1,.int .i64 (Sg.runsIn g x l).2])∧Ext w w':=by
 have H:=lh h;have HX:=lh hx;have HL:=lh hl;have q0:World.cell? (World.alloc w (.cells #[.slice A g.length c] 33)) ⟨w.heap.size,0,none⟩=some (.slice A g.length c):=by simp [go_sem]
 have Q0:=lh q0;have EB:=lh ((Ext.rfl' w).al (.cells #[.slice A g.length c] 33));have HF:=lh (i_sessionFits A Ac Al c cc cl g x l);clear h hx hl q0;go_enter Tryz.func32,Tryz.ntmps32;cases hfit:Sg.fitS g x l
 ·have HFT:=lh hfit;have HE:=lh (Sg.runs_not hfit);clear hfit;rw [HE.out];go_wp2_with fail
  refine (HF.out _ (H.out.ext EB.out) (HX.out.ext EB.out) (HL.out.ext EB.out)).mono ?_;rintro e w1 ⟨rfl,he1⟩;rw [HFT.out];go_wp2;go_ret2;exact ⟨rfl,EB.out.tr he1⟩
 have HFT:=lh hfit;have HE:=lh (Sg.runs_fit hfit);clear hfit;go_wp2_with fail
 refine (HF.out _ (H.out.ext EB.out) (HX.out.ext EB.out) (HL.out.ext EB.out)).mono ?_;rintro e w1 ⟨rfl,he1⟩;rw [HFT.out];have q1:=he1.cellE Q0.out;have EX1:=lh (EB.out.tr he1);have bq1:=blt q1;clear he1 Q0;go_wp2_with fail
 refine (i_eagerSession A Ac Al c cc cl g x l _ (H.out.ext EX1.out) (HX.out.ext EX1.out) (HL.out.ext EX1.out) HFT.out).mono ?_;rintro e w2 ⟨A1,c1,rfl,-,he2⟩;have EX2:=lh (EX1.out.tr he2);have q2:=he2.cellE q1;have bq2:=blt q2;clear he2 q1 bq1;generalize (Sg.eagR g x l).2.2.2=na at *;generalize (Sg.eagR g x l).2.2.1=sa at *;go_wp2_with fail
 refine (i_lazySession A Ac Al c cc cl g x l _ (H.out.ext EX2.out) (HX.out.ext EX2.out) (HL.out.ext EX2.out) HFT.out).mono ?_;rintro e w3 ⟨A3,c3,rfl,-,he3⟩;have E3:=lh (EX2.out.tr he3);clear he3;generalize (Sg.lazyR g x l).2.2.2=nb at *;generalize (Sg.lazyR g x l).2.2.1=sb at *;go_wp2;go_ret2;rw [HE.out];exact ⟨rfl,E3.out⟩
set_option maxRecDepth 100000 in
set_option maxHeartbeats 4000000 in
theorem s_RunsIn (A Ac Al:Option Addr) (c cc cl:Nat) (g:Sg.Graph) (x:List Int) (l:List Sg.Act) (w:World) (h:RdN w A g) (hx:Rd w 1 Ac x.length (ints x)) (hl:Rd w 3 Al l.length (acts l)) :
  Calls Tryz.prog 33 #[.agg #[.slice A g.length c],.slice Ac x.length cc,.slice Al l.length cl] w fun e w'=>e = .returned (.tuple #[.int .i64 (Sg.runsIn g x l).1,.int .i64 (Sg.runsIn g x l).2])∧Ext w w':=by
 have H:=lh h;have HX:=lh hx;have HL:=lh hl;have q0:World.cell? (World.alloc w (.cells #[.slice A g.length c] 33)) ⟨w.heap.size,0,none⟩=some (.slice A g.length c):=by simp [go_sem]
 have Q0:=lh q0;have EB:=lh ((Ext.rfl' w).al (.cells #[.slice A g.length c] 33));have HF:=lh (s_validSession A Ac Al c cc cl g x l);clear h hx hl q0;go_enter Tryz.func33,Tryz.ntmps33;cases hfit:Sg.fitS g x l
 ·have HFT:=lh hfit;have HE:=lh (Sg.runs_not hfit);clear hfit;rw [HE.out];go_wp2_with fail
  refine (HF.out _ (H.out.ext EB.out) (HX.out.ext EB.out) (HL.out.ext EB.out)).mono ?_;rintro e w1 ⟨rfl,he1⟩;rw [HFT.out];go_wp2;go_ret2;exact ⟨rfl,EB.out.tr he1⟩
 have HFT:=lh hfit;have HE:=lh (Sg.runs_fit hfit);clear hfit;go_wp2_with fail
 refine (HF.out _ (H.out.ext EB.out) (HX.out.ext EB.out) (HL.out.ext EB.out)).mono ?_;rintro e w1 ⟨rfl,he1⟩;rw [HFT.out];have q1:=he1.cellE Q0.out;have EX1:=lh (EB.out.tr he1);have bq1:=blt q1;clear he1 Q0;go_wp2_with fail
 refine (s_eagerly A Ac Al c cc cl g x l _ (H.out.ext EX1.out) (HX.out.ext EX1.out) (HL.out.ext EX1.out) HFT.out).mono ?_;rintro e w2 ⟨A1,c1,rfl,-,he2⟩;have EX2:=lh (EX1.out.tr he2);have q2:=he2.cellE q1;have bq2:=blt q2;clear he2 q1 bq1;generalize (Sg.eagR g x l).2.2.2=na at *;generalize (Sg.eagR g x l).2.2.1=sa at *;go_wp2_with fail
 refine (s_lazily A Ac Al c cc cl g x l _ (H.out.ext EX2.out) (HX.out.ext EX2.out) (HL.out.ext EX2.out) HFT.out).mono ?_;rintro e w3 ⟨A3,c3,rfl,-,he3⟩;have E3:=lh (EX2.out.tr he3);clear he3;generalize (Sg.lazyR g x l).2.2.2=nb at *;generalize (Sg.lazyR g x l).2.2.1=sb at *;go_wp2;go_ret2;rw [HE.out];exact ⟨rfl,E3.out⟩
end Go.Proofs.YtgojnefiephafaaGreat
