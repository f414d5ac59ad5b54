/- Parts of one proof, joined. The program's PlainSession: its closure and its contract. Conditions: bounds on lengths. Sessions with the eager machine: plain shape, the cells of a graph, a write of all cells: contracts. Conditions: in the theorems. -/
import Derived.Test.YtgojnefiephafaaGreatSesV
import Derived.Deep.DeepCutAuto
import Derived.Test.YtgojnefiephafaaGreatLwSpc
namespace Sg
theorem plainFl_small {g:Graph} {q:List Int × List Show} {k:Nat} (h:q.2.length≤g.length * (k + 1)) (p:List Int) (s:List Bool):(plainFl g q p s).2.length≤g.length * (k + 1 + 1):=by
 have:=plainFl_len g q p s;rw [Nat.mul_add g.length (k + 1) 1];omega
theorem plainS_small (g:Graph) (x:List Int) (l:List Act):(plainS g x l).length≤1048576:=by
 unfold plainS;split
 ·rename_i h
  obtain ⟨hG,hC,hA,hl⟩:=fitS_parts h;have hg:=Go.Proofs.YtgojnefiephafaaGreat.validG_len hG;have h1:=run_len g (ses0 g x,(x,showL (effs g (List.replicate g.length false)) (mean g x))) l;have h2:(showL (effs g (List.replicate g.length false)) (mean g x)).length≤g.length:=by rw [showL_len];exact effs_len _ _
  have h3:=Nat.mul_le_mul hg hl;refine Nat.le_trans h1 ?_;show (showL (effs g (List.replicate g.length false)) (mean g x)).length + _≤_;omega
 ·exact Nat.zero_le _
end Sg
namespace Go.Proofs.YtgojnefiephafaaGreat
open Go.RowKit
theorem mem_effs_lt {g:Sg.Graph} {s:List Bool} {n:Int} (h:n ∈ Sg.effs g s):0≤n∧n<(g.length:Int):=by
 unfold Sg.effs at h;obtain ⟨i,rfl,hi,_⟩:=Sg.mem_whichL.1 h;omega
theorem mem_common_lt {g:Sg.Graph} {s:List Bool} {b:List Int} {n:Int} (h:n ∈ Sg.common (Sg.effs g s) b):0≤n∧n<(g.length:Int):=by
 unfold Sg.common at h;exact mem_effs_lt (List.mem_filter.1 h).1
theorem Sep.pick {B:Nat} {P S g o w b x:Th B} {rs:List (Th B)} {W:World} (h:Sep (P :: S :: g :: o :: w :: b :: x :: rs) W):Sep (g :: o :: w :: b :: P :: rs) W :=
 (h.sub ((((((((List.Sublist.refl rs).cons x).cons_cons b).cons_cons w).cons_cons o).cons_cons g).cons S).cons_cons P)).perm (List.perm_middle (l₁:=[g,o,w,b]) (l₂:=rs)).symm
def PThings {B:Nat} (A:Option Addr) (c:Nat) (g:Sg.Graph) (bo bg bb:Nat) (Ao:Option Addr) (co:Nat) (Ab:Option Addr) (cb:Nat) (s:List Int × List Sg.Show):List (Th B) :=
 [Th.box B bg [.slice A g.length c],Th.box B bo [.slice Ao s.2.length co],Th.own B 56 2 Ao s.2.length co (shs s.2),Th.box B bb [.slice Ab s.1.length cb],Th.own B 3 1 Ab s.1.length cb (ints s.1)]
def PInv {B:Nat} (A:Option Addr) (c:Nat) (g:Sg.Graph) (bo bg bb:Nat) (k:Nat) (s:List Int × List Sg.Show) (ts:List (Th B)):Prop :=
 ∃ Ao co Ab cb,ts=PThings A c g bo bg bb Ao co Ab cb s∧Sg.validC g s.1=true∧s.2.length≤g.length * (k + 1)
set_option maxRecDepth 100000 in
set_option maxHeartbeats 16000000 in
theorem flu_plain (A:Option Addr) (c:Nat) (g:Sg.Graph) (a:World) (bo bg bb:Nat) (hA:RdN a A g) (hG:Sg.validG g=true) (hg:g.length≤1000) :
  Flu Tryz.prog 52 [.pointer (some ⟨bo,0,none⟩),.pointer (some ⟨bg,0,none⟩),.pointer (some ⟨bb,0,none⟩)] g a (PInv A c g bo bg bb) (Sg.plainFl g) where
 ent:=ent_of Tryz.func52 rfl (by kernel_rfl)
 up:=fun k s ts h=>by
  obtain ⟨Ao,co,Ab,cb,e,hv,hl⟩:=h;exact ⟨Ao,co,Ab,cb,e,hv,by rw [Nat.mul_add g.length (k + 1) 1];omega⟩
 call:=fun k s ts rs w Ap As cp cs n m p st hI hk hp hpn hsm hm hE hS=>by
  obtain ⟨Ao,co,Ab,cb,rfl,hv,hl⟩:=hI;obtain ⟨x,q⟩:=s;subst hpn hsm;dsimp only at *;have hxl:=Sg.length_validC hv;have hpl:=Sg.length_validC hp;have HXL:=lh hxl;have HPL:=lh hpl;have HSM:=lh hm;have HV:=lh hv;have HP:=lh hp;have HQL:=lh (show q.length≤40000 from Nat.le_trans hl (Nat.le_trans (Nat.mul_le_mul hg (show k + 1≤31 by omega)) (by omega)));have HL:=lh hl;clear hxl hpl hm hv hp hl;unfold PThings at hS;have hS2:=hS.perm (List.Perm.refl _);have Hp:Own w a.heap.size 3 1 Ap p.length cp (ints p):=Sep.get hS 0 rfl;have Hs:Own w a.heap.size 4 1 As st.length cs (bools st):=Sep.get hS 1 rfl;have xg:w.cell? ⟨bg,0,none⟩=some (.slice A g.length c):=((Sep.get hS 2 rfl:Bx _ _ _∧_).1).cell (j:=0) rfl;have xo:w.cell? ⟨bo,0,none⟩=some (.slice Ao q.length co):=((Sep.get hS 3 rfl:Bx _ _ _∧_).1).cell (j:=0) rfl;have xb:w.cell? ⟨bb,0,none⟩=some (.slice Ab x.length cb):=((Sep.get hS 5 rfl:Bx _ _ _∧_).1).cell (j:=0) rfl;have Hb:Own w a.heap.size 3 1 Ab x.length cb (ints x):=Sep.get hS 6 rfl;have XG:=lh xg;have XO:=lh xo;have XB:=lh xb;have RP:=lh Hp.rd;have RS:=lh Hs.rd;have RB:=lh Hb.rd;have RG:=lh (hA.ext hE);have HE:=lh hE;have HS:=lh hS;have hsz:=hE.size;have E0:=lh ((Ext.rfl' w).dr);have bg0:=blt xg;have bo0:=blt xo;have bb0:=blt xb;clear hS hS2 Hp Hs Hb hE;have HEF:=lh (fun w1 h1 h2=>i_effects A As c cs g st w1 h1 h2 HSM.out);have HMR:=lh (i_MustRun A Ab Ap c cb cp g x p);have HMO:=lh (fun w1 h1 h2=>i_MeaningN A Ap c cp g p w1 h1 h2 hG HP.out);go_enter Tryz.func52,Tryz.ntmps52;go_wp2_with fail
  refine zb 14 (fun W=>W.cell? ⟨bo,0,none⟩=some (.slice Ao q.length co)∧W.cell? ⟨bg,0,none⟩=some (.slice A g.length c)∧W.cell? ⟨bb,0,none⟩=some (.slice Ab x.length cb)) ?_ (fun hHeld=>?_)
  ·exact ⟨E0.out.cellE XO.out,E0.out.cellE XG.out,E0.out.cellE XB.out⟩
  refine zy 0 ?_;refine zy 1 ?_;refine zy 2 ?_;refine zy 4 ?_;refine zy 5 ?_;refine zy 6 ?_;refine zy 9 ?_;refine zy 10 ?_;refine zr 3 rfl fun K hK=>?_;go_simp;refine (HEF.out _ (RG.out.ext E0.out) (RS.out.ext E0.out)).mono ?_;rintro e v1 ⟨A1,rfl,hO1,he1⟩;have E1:=lh (E0.out.tr he1);have O1:=lh hO1;clear he1 hO1;try go_wp2_with fail
  refine hK.out _ _ (fun _=>⟨E1.out.cellE XO.out,E1.out.cellE XG.out,E1.out.cellE XB.out⟩) (fun hh=>?_);have hHeld:=hh (by decide);clear hK K hh;try simp only [Act.put,pu]
  refine zr 7 rfl fun K hK=>?_;go_simp;refine (HMR.out _ (RG.out.ext E1.out) (RB.out.ext E1.out) (RP.out.ext E1.out)).mono ?_;rintro e v2 ⟨A2,rfl,hO2,he2⟩;have O1:=lh (O1.out.ext he2);have E2:=lh (E1.out.tr he2);have O2:=lh hO2;clear he2 hO2;try go_wp2_with fail
  refine hK.out _ _ (fun _=>⟨E2.out.cellE XO.out,E2.out.cellE XG.out,E2.out.cellE XB.out⟩) (fun hh=>?_);have hHeld:=hh (by decide);clear hK K hh;try simp only [Act.put,pu]
  refine zr 8 rfl fun K hK=>?_;go_simp;refine (i_common A1 A2 (Sg.effs g st).length (Sg.mustOr g x p).length (Sg.effs g st) (Sg.mustOr g x p) _ O1.out.rd O2.out.rd (Nat.le_trans (Sg.effs_len g st) (by omega))).mono ?_;rintro e v3 ⟨A3,c3,rfl,hO3,he3⟩;have E3:=lh (E2.out.tr he3);have O3:=lh hO3;clear he3 hO3;try go_wp2_with fail
  refine hK.out _ _ (fun _=>⟨E3.out.cellE XO.out,E3.out.cellE XG.out,E3.out.cellE XB.out⟩) (fun hh=>?_);have hHeld:=hh (by decide);clear hK K hh;try simp only [Act.put,pu]
  refine zr 11 rfl fun K hK=>?_;go_simp;refine (HMO.out _ (RG.out.ext E3.out) (RP.out.ext E3.out)).mono ?_;rintro e v4 ⟨A4,rfl,hO4,he4⟩;have O3:=lh (O3.out.ext he4);have E4:=lh (E3.out.tr he4);have O4:=lh hO4;clear he4 hO4;try go_wp2_with fail
  refine hK.out _ _ (fun _=>⟨E4.out.cellE XO.out,E4.out.cellE XG.out,E4.out.cellE XB.out⟩) (fun hh=>?_);have hHeld:=hh (by decide);clear hK K hh;try simp only [Act.put,pu]
  refine zr 12 rfl fun K hK=>?_;go_simp;refine (i_showsN A3 A4 c3 g.length _ g.length (Sg.common (Sg.effs g st) (Sg.mustOr g x p)) (Sg.mean g p) _ rfl (by simp [Sg.mean]) O3.out.rd O4.out.rd (fun z hz=>mem_common_lt hz) (Nat.le_trans (common_len _ _) (Nat.le_trans (Sg.effs_len g st) (by omega)))).mono ?_;rintro e v5 ⟨A5,c5,rfl,hO5,he5⟩;have E5:=lh (E4.out.tr he5);have O5:=lh hO5;clear he5 hO5;have S5:=lh (Sep.ext HS.out E5.out);have L5:=lh (show (Sg.showL (Sg.common (Sg.effs g st) (Sg.mustOr g x p)) (Sg.mean g p)).length≤1000 from by rw [Sg.showL_len];exact Nat.le_trans (common_len _ _) (Nat.le_trans (Sg.effs_len g st) hg));have HFL:=lh (show Sg.plainFl g (x,q) p st=(p,q++Sg.showL (Sg.common (Sg.effs g st) (Sg.mustOr g x p)) (Sg.mean g p)) from rfl);generalize Sg.showL (Sg.common (Sg.effs g st) (Sg.mustOr g x p)) (Sg.mean g p)=sh at *;try go_wp2_with fail
  refine hK.out _ _ (fun _=>⟨E5.out.cellE XO.out,E5.out.cellE XG.out,E5.out.cellE XB.out⟩) (fun hh=>?_);have hHeld:=hh (by decide);clear hK K hh;try simp only [Act.put,pu]
  refine zr 13 rfl fun K hK=>?_;have HOW:Own v5 a.heap.size 56 2 Ao q.length co (shs q):=Sep.get S5.out 4 rfl;refine held_appR rfl rfl eiShow rfl HOW rfl O5.out.rd (one_shs sh) (by have:=HQL.out;have:=L5.out;unfold maxLen;omega) (by have:=HQL.out;have:=L5.out;omega) (by have:=E5.out.size;omega) ?_;intro A6 c6 v6 ho6 hg6 hat6;have S6:=lh (Sep.app S5.out 4 rfl (n':=q.length + sh.length) (xs':=shs q++shs sh) ho6 hg6 (hat6.imp id fun e=>⟨_,e,Nat.le_refl _⟩));have E6:=lh ((HE.out.tr E5.out).gr hg6 (fun z hz=>(HOW.lt hz).1));have y6:Bx v6 bo [.slice Ao q.length co]:=((Sep.get S6.out 3 rfl:Bx _ _ _∧_).1);have YG:=lh (((Sep.get S6.out 2 rfl:Bx _ _ _∧_).1).cell (j:=0) rfl:v6.cell? ⟨bg,0,none⟩=some (.slice A g.length c));have YB:=lh (((Sep.get S6.out 5 rfl:Bx _ _ _∧_).1).cell (j:=0) rfl:v6.cell? ⟨bb,0,none⟩=some (.slice Ab x.length cb));have r6:=y6.cell (j:=0) rfl;have f6:=y6.free 0;have R6:=lh r6;have Y6:=lh y6;clear ho6 hg6 hat6 HOW y6;try simp only [pg]
  refine hK.out _ _ (fun _=>⟨R6.out,YG.out,YB.out⟩) (fun hh=>?_);have hHeld:=hh (by decide);clear hK K hh;try simp only [Act.put,pu]
  refine zr 14 rfl fun K hK=>?_;have l6:=Y6.out.lt;go_simp;have S7:=lh (Sep.st S6.out 3 rfl ⟨bo,0,none⟩ (.slice A6 (q.length + sh.length) c6) rfl (Th.box a.heap.size bo [.slice A6 (q.length + sh.length) c6]) ⟨Y6.out.set 0 _,(Sep.get S6.out 3 rfl:Bx _ _ _∧_).2⟩ (fun _ e=>e));have E7:=lh (E6.out.set (p:=⟨bo,0,none⟩) (Sep.get S6.out 3 rfl:Bx _ _ _∧_).2 (.slice A6 (q.length + sh.length) c6));refine hK.out _ _ (fun e=>absurd rfl e) (fun hh=>?_);clear hK K hHeld hh;try simp only [Act.put]
  refine zn ?_;generalize hv7:World.setCell v6 ⟨bo,0,none⟩ (.slice A6 (q.length + sh.length) c6)=v7 at *;clear hv7;have y7:Bx v7 bb [.slice Ab x.length cb]:=(Sep.get S7.out 5 rfl:Bx _ _ _∧_).1;have r7:=y7.cell (j:=0) rfl;have f7:=y7.free 0;have l7:=y7.lt;have Y7:=lh y7;clear y7 r6 f6 l6;go_wp2;have S8:=lh (Sep.st S7.out 5 rfl ⟨bb,0,none⟩ (.slice Ap p.length cp) rfl (Th.box a.heap.size bb [.slice Ap p.length cp]) ⟨Y7.out.set 0 _,(Sep.get S7.out 5 rfl:Bx _ _ _∧_).2⟩ (fun _ e=>e));have E8:=lh (E7.out.set (p:=⟨bb,0,none⟩) (Sep.get S7.out 5 rfl:Bx _ _ _∧_).2 (.slice Ap p.length cp));go_end0;refine ⟨rfl,E8.out,_,⟨A6,c6,Ap,cp,rfl,HP.out,?_⟩,?_⟩
  ·exact Sg.plainFl_small (q:=(x,q)) HL.out p st
  ·rw [HFL.out];unfold PThings;dsimp only;rw [List.length_append,← shs_app];have h9:=S8.out;exact Sep.pick h9
theorem held_alSh {ops:Array Oper} {o:Oper} {a:Act} {w:World} {K:Act→World→Prop} {Q:Exit→Act→World→Prop} {E0:Prop} (hgd:o.guard=none) (ho:o.op=Op.alloc 29)
  (h:∀ b w',b=w.heap.size→Bx w' b [.slice none 0 0]→Ext w w'→K (a.put o.dst (.pointer (some ⟨b,0,none⟩))) w'):if Region.wanted o (yielded ops a.tmps)=true then Oper.wp Tryz.prog o a w K Q else E0:=by
 have hw:Region.wanted o (yielded ops a.tmps)=true:=by simp [Region.wanted,hgd]
 rw [if_pos hw];obtain ⟨dst,op,ty,pos,aft,gd⟩:=o;simp only at hgd ho;subst ho;go_simp;exact h _ _ rfl (by simpa using Bx.new w #[.slice none 0 0] 29) ((Ext.rfl' w).al _)
theorem boolsR (n:Nat):(madeCells (Value.bool false).cells (n * 1)).toList=bools (List.replicate n false):=by rw [made_one _ _ rfl];simp [bools]
theorem perm_ob {α:Type _} (x y p q r:α):[x,y,p,q,r].Perm [r,x,y,p,q]:=(List.perm_middle (l₁:=[x,y,p,q]) (l₂:=[]) (a:=r))
set_option maxRecDepth 100000 in
set_option maxHeartbeats 16000000 in
theorem i_PlainSession (A Ac Al:Option Addr) (c cc cl:Nat) (g:Sg.Graph) (x:List Int) (l:List Sg.Act) (w:World) (h:RdN w A g) (hx:Rd w 1 Ac x.length (ints x)) (hl:Rd w 3 Al l.length (acts l)) :
  Calls Tryz.prog 26 #[.agg #[.slice A g.length c],.slice Ac x.length cc,.slice Al l.length cl] w fun e w'=>∃ A1 c1,e = .returned (.slice A1 (Sg.plainS g x l).length c1)∧Own w' w.heap.size 56 2 A1 (Sg.plainS g x l).length c1 (shs (Sg.plainS g x l))∧Ext w w':=by
 have H:=lh h;have HX:=lh hx;have HL:=lh hl;have hgl:=h.1;have b0:=Bx.new w #[.slice A g.length c] 33;have B0:=lh b0;have q0:=b0.cell (j:=0) rfl;have Q0:=lh q0;have e0:=(Ext.rfl' w).al (.cells #[.slice A g.length c] 33);have EB:=lh e0;have HF:=lh (i_sessionFits A Ac Al c cc cl g x l);clear h hx hl b0 q0 e0;go_enter Tryz.func26,Tryz.ntmps26;cases hfit:Sg.fitS g x l
 ·have HFT:=lh hfit;have HE:Hid (Sg.plainS g x l=[]):=lh (by unfold Sg.plainS;rw [hfit];rfl);clear hfit;rw [HE.out];go_wp2_with fail
  refine (HF.out _ (H.out.ext EB.out) (HX.out.ext EB.out) (HL.out.ext EB.out)).mono ?_;rintro e w1 ⟨rfl,he1⟩;rw [HFT.out];go_wp2;go_ret;exact ⟨none,0,rfl,Own.nil _ _ _ _,EB.out.tr he1⟩
 obtain ⟨hG,hC,hAc,hl30⟩:=Sg.fitS_parts hfit;have hxl:=Sg.length_validC hC;have hg10:=validG_len hG;have hx4:x.length≤1048576:=by omega
 have HFT:=lh hfit;have HC:=lh hC;have HXG:=lh hxl;have HL30:=lh hl30;clear hfit hxl hC hl30;go_wp2_with fail
 refine (HF.out _ (H.out.ext EB.out) (HX.out.ext EB.out) (HL.out.ext EB.out)).mono ?_;rintro e w1 ⟨rfl,he1⟩;rw [HFT.out];have q1:=he1.cellE Q0.out;have g1:=lh (B0.out.ext he1);have EX1:=lh (EB.out.tr he1);have bq1:=blt q1;clear he1 Q0 B0;go_wp2_with fail
 refine (i_clone Ac x.length cc x _ (HX.out.ext EX1.out) (by omega)).mono ?_;rintro e w2 ⟨Ab,rfl,hb,he2⟩;have hsz2:=he2.size;have hsz1:=EX1.out.size;have EX2:=lh (EX1.out.tr he2);have SS:=lh (Sep.add (B:=w.heap.size) (ts:=[Th.box w.heap.size w.heap.size [.slice A g.length c]]) (Sep.iff.2 ⟨fun t ht=>by rw [List.mem_singleton.1 ht];exact ⟨g1.out,Nat.le_refl _⟩,by simp⟩) he2 (Th.own w.heap.size 3 1 Ab x.length x.length (ints x)) (hb.mono (by omega)) (fun b e=>(hb.lt e).1));clear hb g1 q1 bq1 he2 EX1;go_upto_region 4 with fail
 have SB:=lh (Sep.add SS.out ((Ext.rfl' w2).al (.cells #[.slice Ab x.length x.length] 25)) (Th.box w.heap.size w2.heap.size [.slice Ab x.length x.length]) ⟨Bx.new w2 #[.slice Ab x.length x.length] 25,by omega⟩ (fun b e=>by have e2:b=w2.heap.size:=e;omega));have HB:=lh (EX2.out.al (.cells #[.slice Ab x.length x.length] 25));clear SS EX2;generalize World.alloc w2 (.cells #[.slice Ab x.length x.length] 25)=w3 at *;generalize hbb:w2.heap.size=bb at *;clear hbb hsz1;have qg:=(((Sep.get SB.out 2 rfl:Bx _ _ _∧_).1).cell (j:=0) rfl:w3.cell? ⟨w.heap.size,0,none⟩=some (.slice A g.length c));have QG:=lh qg;have bg:=blt qg;go_cut [8] (fun s8 wx=>∃ (bo:Nat) (Ao:Option Addr) (co:Nat),s8 = .pointer (some ⟨bo,0,none⟩)∧Hid (Sep [Th.box w.heap.size bo [.slice Ao (Sg.showL (Sg.effs g (List.replicate g.length false)) (Sg.mean g x)).length co],Th.own w.heap.size 56 2 Ao (Sg.showL (Sg.effs g (List.replicate g.length false)) (Sg.mean g x)).length co (shs (Sg.showL (Sg.effs g (List.replicate g.length false)) (Sg.mean g x))),Th.box w.heap.size bb [.slice Ab x.length x.length],Th.own w.heap.size 3 1 Ab x.length x.length (ints x),Th.box w.heap.size w.heap.size [.slice A g.length c]] wx)∧Hid (Ext w wx))
 case first =>
  have E0:=lh ((Ext.rfl' w3).dr);have SS:=lh (Sep.ext SB.out E0.out);have RG:=lh (H.out.ext HB.out);have RX:=lh (HX.out.ext HB.out);clear SB;have HMO:=lh (fun w1 h1 h2=>i_MeaningN A Ac c cc g x w1 h1 h2 hG HC.out);have HLR:=lh (List.length_replicate (n:=g.length) (a:=false));have HEF:=lh (fun w1 h1 (A1:Option Addr) (c1:Nat) h2=>(by have:=i_effects A A1 c c1 g (List.replicate g.length false) w1 h1 h2 HLR.out;rw [HLR.out] at this;exact this:Calls Tryz.prog 49 #[.agg #[.slice A g.length c],.slice A1 g.length c1] w1 fun e w'=>∃ A1,e = .returned (.slice A1 (Sg.effs g (List.replicate g.length false)).length (Sg.effs g (List.replicate g.length false)).length)∧Own w' w1.heap.size 3 1 A1 (Sg.effs g (List.replicate g.length false)).length (Sg.effs g (List.replicate g.length false)).length (ints (Sg.effs g (List.replicate g.length false)))∧Ext w1 w'));have HEL:=lh (Sg.effs_len g (List.replicate g.length false));have HEM:=lh (fun z (hz:z ∈ Sg.effs g (List.replicate g.length false))=>mem_effs_lt hz);generalize Sg.effs g (List.replicate g.length false)=ef at *;refine zb 10 (fun W=>W.cell? ⟨w.heap.size,0,none⟩=some (.slice A g.length c)) ?_ (fun hHeld=>?_)
  ·exact E0.out.cellE QG.out
  refine zy 0 ?_;refine zy 1 ?_;refine zy 5 ?_;refine zy 6 ?_;refine zr2 2 9 rfl rfl (fun K hK=>?_) (fun K hK=>?_)
  ·go_simp;refine (i_size A g.length c _).mono ?_;rintro e v1 ⟨rfl,he1⟩;have E1:=lh (E0.out.tr he1);have SS:=lh (Sep.ext SS.out he1);clear he1;try go_wp2_with fail
   refine hK.out _ _ (fun _=>E1.out.cellE QG.out) (fun hh=>?_);have hHeld:=hh (by decide);clear hK K hh;try simp only [Act.put,pu]
   refine zr2 3 9 rfl rfl (fun K hK=>?_) (fun K hK=>?_)
   ·refine held_mk rfl rfl eiBool rfl rfl (by omega) (by omega) (Nat.le_refl _) ?_;intro v2 hO1 he2;rw [boolsR] at hO1;have O1:=lh hO1;have E2:=lh (E1.out.tr he2);have SS:=lh (Sep.ext SS.out he2);clear he2 hO1;try simp only [pg]
    refine hK.out _ _ (fun _=>E2.out.cellE QG.out) (fun hh=>?_);have hHeld:=hh (by decide);clear hK K hh;try simp only [Act.put,pu]
    refine zr2 4 9 rfl rfl (fun K hK=>?_) (fun K hK=>?_)
    ·go_simp;refine (HEF.out _ (RG.out.ext E2.out) _ _ (by have:=O1.out.rd;simpa using this)).mono ?_;rintro e v3 ⟨A2,rfl,hO2,he3⟩;have O1:=lh (O1.out.ext he3);have O2:=lh hO2;have E3:=lh (E2.out.tr he3);have SS:=lh (Sep.ext SS.out he3);clear he3 hO2;try go_wp2_with fail
     refine hK.out _ _ (fun _=>E3.out.cellE QG.out) (fun hh=>?_);have hHeld:=hh (by decide);clear hK K hh;try simp only [Act.put,pu]
     refine zr2 7 9 rfl rfl (fun K hK=>?_) (fun K hK=>?_)
     ·go_simp;refine (HMO.out _ (RG.out.ext E3.out) (RX.out.ext E3.out)).mono ?_;rintro e v4 ⟨A4,rfl,hO4,he4⟩;have O1:=lh (O1.out.ext he4);have O2:=lh (O2.out.ext he4);have O4:=lh hO4;have E4:=lh (E3.out.tr he4);have SS:=lh (Sep.ext SS.out he4);clear he4 hO4;try go_wp2_with fail
      refine hK.out _ _ (fun _=>E4.out.cellE QG.out) (fun hh=>?_);have hHeld:=hh (by decide);clear hK K hh;try simp only [Act.put,pu]
      refine zr2 8 9 rfl rfl (fun K hK=>?_) (fun K hK=>?_)
      ·go_simp;refine (i_showsN A2 A4 _ g.length _ g.length ef (Sg.mean g x) _ rfl (by simp [Sg.mean]) O2.out.rd O4.out.rd HEM.out (Nat.le_trans HEL.out (by omega))).mono ?_;rintro e v5 ⟨A5,c5,rfl,hO5,he5⟩;have O1:=lh (O1.out.ext he5);have O2:=lh (O2.out.ext he5);have O4:=lh (O4.out.ext he5);have O5:=lh hO5;have E5:=lh (E4.out.tr he5);have SS:=lh (Sep.add SS.out he5 (Th.own w.heap.size 56 2 A5 (Sg.showL ef (Sg.mean g x)).length c5 (shs (Sg.showL ef (Sg.mean g x)))) (hO5.mono (by have:=E4.out.size;have:=HB.out.size;(try simp only [World.size_drew] at *);omega)) (fun b e=>(hO5.lt e).1));clear he5 hO5;try go_wp2_with fail
       refine hK.out _ _ (fun _=>E5.out.cellE QG.out) (fun hh=>?_);have hHeld:=hh (by decide);clear hK K hh;try simp only [Act.put,pu]
       refine zr 9 rfl fun K hK=>?_;refine held_alSh rfl rfl ?_;intro bt v6 hbt hbx he6;have O1:=lh (O1.out.ext he6);have O2:=lh (O2.out.ext he6);have O4:=lh (O4.out.ext he6);have O5:=lh (O5.out.ext he6);have LBT:w.heap.size≤bt:=by have:=E5.out.size;have:=HB.out.size;(try simp only [World.size_drew] at *);omega
       have SS:=lh (Sep.add SS.out he6 (Th.box (w.heap.size) bt [.slice none 0 0]) ⟨hbx,LBT⟩ (fun b e=>by have e2:b=bt:=e;omega));have E6:=lh (E5.out.tr he6);clear he6 hbt hbx;try simp only [pg]
       refine hK.out _ _ (fun _=>E6.out.cellE QG.out) (fun hh=>?_);have hHeld:=hh (by decide);clear hK K hh;try simp only [Act.put,pu]
       refine zr 10 rfl fun K hK=>?_;have y9:Bx v6 bt [.slice none 0 0]:=(Sep.get SS.out 0 rfl:Bx _ _ _∧_).1;have r9:=y9.cell (j:=0) rfl;have f9:=y9.free 0;have l9:=y9.lt;have Y9:=lh y9;clear y9;go_simp;have SS:=lh (Sep.st SS.out 0 rfl ⟨bt,0,none⟩ (.slice A5 (Sg.showL ef (Sg.mean g x)).length c5) rfl (Th.box (w.heap.size) bt [.slice A5 (Sg.showL ef (Sg.mean g x)).length c5]) ⟨Y9.out.set 0 _,LBT⟩ (fun _ e=>e));have E9:=lh ((HB.out.tr E6.out).set (p:=⟨bt,0,none⟩) LBT (.slice A5 (Sg.showL ef (Sg.mean g x)).length c5));refine hK.out _ _ (fun e=>absurd rfl e) (fun hh=>?_);clear hK K hHeld hh;try simp only [Act.put]
       refine zn ?_;go_wp2_with fail
       go_meet
       exact ⟨bt,A5,c5,rfl,lh (SS.out),E9⟩
      ·refine held_alSh rfl rfl ?_;intro bt v5 hbt hbx he5;have O1:=lh (O1.out.ext he5);have O2:=lh (O2.out.ext he5);have O4:=lh (O4.out.ext he5);have LBT:w.heap.size≤bt:=by have:=E4.out.size;have:=HB.out.size;(try simp only [World.size_drew] at *);omega
       have SS:=lh (Sep.add SS.out he5 (Th.box (w.heap.size) bt [.slice none 0 0]) ⟨hbx,LBT⟩ (fun b e=>by have e2:b=bt:=e;omega));have E5:=lh (E4.out.tr he5);clear he5 hbt hbx;try simp only [pg]
       refine hK.out _ _ (fun _=>E5.out.cellE QG.out) (fun hh=>?_);have hHeld:=hh (by decide);clear hK K hh;try simp only [Act.put,pu]
       refine zr 8 rfl fun K hK=>?_;go_simp;refine (i_showsN A2 A4 _ g.length _ g.length ef (Sg.mean g x) _ rfl (by simp [Sg.mean]) O2.out.rd O4.out.rd HEM.out (Nat.le_trans HEL.out (by omega))).mono ?_;rintro e v6 ⟨A5,c5,rfl,hO5,he6⟩;have O1:=lh (O1.out.ext he6);have O2:=lh (O2.out.ext he6);have O4:=lh (O4.out.ext he6);have O5:=lh hO5;have E6:=lh (E5.out.tr he6);have SS:=lh (Sep.add SS.out he6 (Th.own w.heap.size 56 2 A5 (Sg.showL ef (Sg.mean g x)).length c5 (shs (Sg.showL ef (Sg.mean g x)))) (hO5.mono (by have:=E5.out.size;have:=HB.out.size;(try simp only [World.size_drew] at *);omega)) (fun b e=>(hO5.lt e).1));clear he6 hO5;try go_wp2_with fail
       refine hK.out _ _ (fun _=>E6.out.cellE QG.out) (fun hh=>?_);have hHeld:=hh (by decide);clear hK K hh;try simp only [Act.put,pu]
       refine zr 10 rfl fun K hK=>?_;have y9:Bx v6 bt [.slice none 0 0]:=(Sep.get SS.out 1 rfl:Bx _ _ _∧_).1;have r9:=y9.cell (j:=0) rfl;have f9:=y9.free 0;have l9:=y9.lt;have Y9:=lh y9;clear y9;go_simp;have SS:=lh (Sep.st SS.out 1 rfl ⟨bt,0,none⟩ (.slice A5 (Sg.showL ef (Sg.mean g x)).length c5) rfl (Th.box (w.heap.size) bt [.slice A5 (Sg.showL ef (Sg.mean g x)).length c5]) ⟨Y9.out.set 0 _,LBT⟩ (fun _ e=>e));have E9:=lh ((HB.out.tr E6.out).set (p:=⟨bt,0,none⟩) LBT (.slice A5 (Sg.showL ef (Sg.mean g x)).length c5));refine hK.out _ _ (fun e=>absurd rfl e) (fun hh=>?_);clear hK K hHeld hh;try simp only [Act.put]
       refine zn ?_;go_wp2_with fail
       go_meet
       exact ⟨bt,A5,c5,rfl,lh (Sep.swap SS.out),E9⟩
     ·refine held_alSh rfl rfl ?_;intro bt v4 hbt hbx he4;have O1:=lh (O1.out.ext he4);have O2:=lh (O2.out.ext he4);have LBT:w.heap.size≤bt:=by have:=E3.out.size;have:=HB.out.size;(try simp only [World.size_drew] at *);omega
      have SS:=lh (Sep.add SS.out he4 (Th.box (w.heap.size) bt [.slice none 0 0]) ⟨hbx,LBT⟩ (fun b e=>by have e2:b=bt:=e;omega));have E4:=lh (E3.out.tr he4);clear he4 hbt hbx;try simp only [pg]
      refine hK.out _ _ (fun _=>E4.out.cellE QG.out) (fun hh=>?_);have hHeld:=hh (by decide);clear hK K hh;try simp only [Act.put,pu]
      refine zr 7 rfl fun K hK=>?_;go_simp;refine (HMO.out _ (RG.out.ext E4.out) (RX.out.ext E4.out)).mono ?_;rintro e v5 ⟨A4,rfl,hO4,he5⟩;have O1:=lh (O1.out.ext he5);have O2:=lh (O2.out.ext he5);have O4:=lh hO4;have E5:=lh (E4.out.tr he5);have SS:=lh (Sep.ext SS.out he5);clear he5 hO4;try go_wp2_with fail
      refine hK.out _ _ (fun _=>E5.out.cellE QG.out) (fun hh=>?_);have hHeld:=hh (by decide);clear hK K hh;try simp only [Act.put,pu]
      refine zr 8 rfl fun K hK=>?_;go_simp;refine (i_showsN A2 A4 _ g.length _ g.length ef (Sg.mean g x) _ rfl (by simp [Sg.mean]) O2.out.rd O4.out.rd HEM.out (Nat.le_trans HEL.out (by omega))).mono ?_;rintro e v6 ⟨A5,c5,rfl,hO5,he6⟩;have O1:=lh (O1.out.ext he6);have O2:=lh (O2.out.ext he6);have O4:=lh (O4.out.ext he6);have O5:=lh hO5;have E6:=lh (E5.out.tr he6);have SS:=lh (Sep.add SS.out he6 (Th.own w.heap.size 56 2 A5 (Sg.showL ef (Sg.mean g x)).length c5 (shs (Sg.showL ef (Sg.mean g x)))) (hO5.mono (by have:=E5.out.size;have:=HB.out.size;(try simp only [World.size_drew] at *);omega)) (fun b e=>(hO5.lt e).1));clear he6 hO5;try go_wp2_with fail
      refine hK.out _ _ (fun _=>E6.out.cellE QG.out) (fun hh=>?_);have hHeld:=hh (by decide);clear hK K hh;try simp only [Act.put,pu]
      refine zr 10 rfl fun K hK=>?_;have y9:Bx v6 bt [.slice none 0 0]:=(Sep.get SS.out 1 rfl:Bx _ _ _∧_).1;have r9:=y9.cell (j:=0) rfl;have f9:=y9.free 0;have l9:=y9.lt;have Y9:=lh y9;clear y9;go_simp;have SS:=lh (Sep.st SS.out 1 rfl ⟨bt,0,none⟩ (.slice A5 (Sg.showL ef (Sg.mean g x)).length c5) rfl (Th.box (w.heap.size) bt [.slice A5 (Sg.showL ef (Sg.mean g x)).length c5]) ⟨Y9.out.set 0 _,LBT⟩ (fun _ e=>e));have E9:=lh ((HB.out.tr E6.out).set (p:=⟨bt,0,none⟩) LBT (.slice A5 (Sg.showL ef (Sg.mean g x)).length c5));refine hK.out _ _ (fun e=>absurd rfl e) (fun hh=>?_);clear hK K hHeld hh;try simp only [Act.put]
      refine zn ?_;go_wp2_with fail
      go_meet
      exact ⟨bt,A5,c5,rfl,lh (Sep.swap SS.out),E9⟩
    ·refine held_alSh rfl rfl ?_;intro bt v3 hbt hbx he3;have O1:=lh (O1.out.ext he3);have LBT:w.heap.size≤bt:=by have:=E2.out.size;have:=HB.out.size;(try simp only [World.size_drew] at *);omega
     have SS:=lh (Sep.add SS.out he3 (Th.box (w.heap.size) bt [.slice none 0 0]) ⟨hbx,LBT⟩ (fun b e=>by have e2:b=bt:=e;omega));have E3:=lh (E2.out.tr he3);clear he3 hbt hbx;try simp only [pg]
     refine hK.out _ _ (fun _=>E3.out.cellE QG.out) (fun hh=>?_);have hHeld:=hh (by decide);clear hK K hh;try simp only [Act.put,pu]
     refine zr 4 rfl fun K hK=>?_;go_simp;refine (HEF.out _ (RG.out.ext E3.out) _ _ (by have:=O1.out.rd;simpa using this)).mono ?_;rintro e v4 ⟨A2,rfl,hO2,he4⟩;have O1:=lh (O1.out.ext he4);have O2:=lh hO2;have E4:=lh (E3.out.tr he4);have SS:=lh (Sep.ext SS.out he4);clear he4 hO2;try go_wp2_with fail
     refine hK.out _ _ (fun _=>E4.out.cellE QG.out) (fun hh=>?_);have hHeld:=hh (by decide);clear hK K hh;try simp only [Act.put,pu]
     refine zr 7 rfl fun K hK=>?_;go_simp;refine (HMO.out _ (RG.out.ext E4.out) (RX.out.ext E4.out)).mono ?_;rintro e v5 ⟨A4,rfl,hO4,he5⟩;have O1:=lh (O1.out.ext he5);have O2:=lh (O2.out.ext he5);have O4:=lh hO4;have E5:=lh (E4.out.tr he5);have SS:=lh (Sep.ext SS.out he5);clear he5 hO4;try go_wp2_with fail
     refine hK.out _ _ (fun _=>E5.out.cellE QG.out) (fun hh=>?_);have hHeld:=hh (by decide);clear hK K hh;try simp only [Act.put,pu]
     refine zr 8 rfl fun K hK=>?_;go_simp;refine (i_showsN A2 A4 _ g.length _ g.length ef (Sg.mean g x) _ rfl (by simp [Sg.mean]) O2.out.rd O4.out.rd HEM.out (Nat.le_trans HEL.out (by omega))).mono ?_;rintro e v6 ⟨A5,c5,rfl,hO5,he6⟩;have O1:=lh (O1.out.ext he6);have O2:=lh (O2.out.ext he6);have O4:=lh (O4.out.ext he6);have O5:=lh hO5;have E6:=lh (E5.out.tr he6);have SS:=lh (Sep.add SS.out he6 (Th.own w.heap.size 56 2 A5 (Sg.showL ef (Sg.mean g x)).length c5 (shs (Sg.showL ef (Sg.mean g x)))) (hO5.mono (by have:=E5.out.size;have:=HB.out.size;(try simp only [World.size_drew] at *);omega)) (fun b e=>(hO5.lt e).1));clear he6 hO5;try go_wp2_with fail
     refine hK.out _ _ (fun _=>E6.out.cellE QG.out) (fun hh=>?_);have hHeld:=hh (by decide);clear hK K hh;try simp only [Act.put,pu]
     refine zr 10 rfl fun K hK=>?_;have y9:Bx v6 bt [.slice none 0 0]:=(Sep.get SS.out 1 rfl:Bx _ _ _∧_).1;have r9:=y9.cell (j:=0) rfl;have f9:=y9.free 0;have l9:=y9.lt;have Y9:=lh y9;clear y9;go_simp;have SS:=lh (Sep.st SS.out 1 rfl ⟨bt,0,none⟩ (.slice A5 (Sg.showL ef (Sg.mean g x)).length c5) rfl (Th.box (w.heap.size) bt [.slice A5 (Sg.showL ef (Sg.mean g x)).length c5]) ⟨Y9.out.set 0 _,LBT⟩ (fun _ e=>e));have E9:=lh ((HB.out.tr E6.out).set (p:=⟨bt,0,none⟩) LBT (.slice A5 (Sg.showL ef (Sg.mean g x)).length c5));refine hK.out _ _ (fun e=>absurd rfl e) (fun hh=>?_);clear hK K hHeld hh;try simp only [Act.put]
     refine zn ?_;go_wp2_with fail
     go_meet
     exact ⟨bt,A5,c5,rfl,lh (Sep.swap SS.out),E9⟩
   ·refine held_alSh rfl rfl ?_;intro bt v2 hbt hbx he2;have LBT:w.heap.size≤bt:=by have:=E1.out.size;have:=HB.out.size;(try simp only [World.size_drew] at *);omega
    have SS:=lh (Sep.add SS.out he2 (Th.box (w.heap.size) bt [.slice none 0 0]) ⟨hbx,LBT⟩ (fun b e=>by have e2:b=bt:=e;omega));have E2:=lh (E1.out.tr he2);clear he2 hbt hbx;try simp only [pg]
    refine hK.out _ _ (fun _=>E2.out.cellE QG.out) (fun hh=>?_);have hHeld:=hh (by decide);clear hK K hh;try simp only [Act.put,pu]
    refine zr 3 rfl fun K hK=>?_;refine held_mk rfl rfl eiBool rfl rfl (by omega) (by omega) (Nat.le_refl _) ?_;intro v3 hO1 he3;rw [boolsR] at hO1;have O1:=lh hO1;have E3:=lh (E2.out.tr he3);have SS:=lh (Sep.ext SS.out he3);clear he3 hO1;try simp only [pg]
    refine hK.out _ _ (fun _=>E3.out.cellE QG.out) (fun hh=>?_);have hHeld:=hh (by decide);clear hK K hh;try simp only [Act.put,pu]
    refine zr 4 rfl fun K hK=>?_;go_simp;refine (HEF.out _ (RG.out.ext E3.out) _ _ (by have:=O1.out.rd;simpa using this)).mono ?_;rintro e v4 ⟨A2,rfl,hO2,he4⟩;have O1:=lh (O1.out.ext he4);have O2:=lh hO2;have E4:=lh (E3.out.tr he4);have SS:=lh (Sep.ext SS.out he4);clear he4 hO2;try go_wp2_with fail
    refine hK.out _ _ (fun _=>E4.out.cellE QG.out) (fun hh=>?_);have hHeld:=hh (by decide);clear hK K hh;try simp only [Act.put,pu]
    refine zr 7 rfl fun K hK=>?_;go_simp;refine (HMO.out _ (RG.out.ext E4.out) (RX.out.ext E4.out)).mono ?_;rintro e v5 ⟨A4,rfl,hO4,he5⟩;have O1:=lh (O1.out.ext he5);have O2:=lh (O2.out.ext he5);have O4:=lh hO4;have E5:=lh (E4.out.tr he5);have SS:=lh (Sep.ext SS.out he5);clear he5 hO4;try go_wp2_with fail
    refine hK.out _ _ (fun _=>E5.out.cellE QG.out) (fun hh=>?_);have hHeld:=hh (by decide);clear hK K hh;try simp only [Act.put,pu]
    refine zr 8 rfl fun K hK=>?_;go_simp;refine (i_showsN A2 A4 _ g.length _ g.length ef (Sg.mean g x) _ rfl (by simp [Sg.mean]) O2.out.rd O4.out.rd HEM.out (Nat.le_trans HEL.out (by omega))).mono ?_;rintro e v6 ⟨A5,c5,rfl,hO5,he6⟩;have O1:=lh (O1.out.ext he6);have O2:=lh (O2.out.ext he6);have O4:=lh (O4.out.ext he6);have O5:=lh hO5;have E6:=lh (E5.out.tr he6);have SS:=lh (Sep.add SS.out he6 (Th.own w.heap.size 56 2 A5 (Sg.showL ef (Sg.mean g x)).length c5 (shs (Sg.showL ef (Sg.mean g x)))) (hO5.mono (by have:=E5.out.size;have:=HB.out.size;(try simp only [World.size_drew] at *);omega)) (fun b e=>(hO5.lt e).1));clear he6 hO5;try go_wp2_with fail
    refine hK.out _ _ (fun _=>E6.out.cellE QG.out) (fun hh=>?_);have hHeld:=hh (by decide);clear hK K hh;try simp only [Act.put,pu]
    refine zr 10 rfl fun K hK=>?_;have y9:Bx v6 bt [.slice none 0 0]:=(Sep.get SS.out 1 rfl:Bx _ _ _∧_).1;have r9:=y9.cell (j:=0) rfl;have f9:=y9.free 0;have l9:=y9.lt;have Y9:=lh y9;clear y9;go_simp;have SS:=lh (Sep.st SS.out 1 rfl ⟨bt,0,none⟩ (.slice A5 (Sg.showL ef (Sg.mean g x)).length c5) rfl (Th.box (w.heap.size) bt [.slice A5 (Sg.showL ef (Sg.mean g x)).length c5]) ⟨Y9.out.set 0 _,LBT⟩ (fun _ e=>e));have E9:=lh ((HB.out.tr E6.out).set (p:=⟨bt,0,none⟩) LBT (.slice A5 (Sg.showL ef (Sg.mean g x)).length c5));refine hK.out _ _ (fun e=>absurd rfl e) (fun hh=>?_);clear hK K hHeld hh;try simp only [Act.put]
    refine zn ?_;go_wp2_with fail
    go_meet
    exact ⟨bt,A5,c5,rfl,lh (Sep.swap SS.out),E9⟩
  ·refine held_alSh rfl rfl ?_;intro bt v1 hbt hbx he1;have LBT:w.heap.size≤bt:=by have:=E0.out.size;have:=HB.out.size;(try simp only [World.size_drew] at *);omega
   have SS:=lh (Sep.add SS.out he1 (Th.box (w.heap.size) bt [.slice none 0 0]) ⟨hbx,LBT⟩ (fun b e=>by have e2:b=bt:=e;omega));have E1:=lh (E0.out.tr he1);clear he1 hbt hbx;try simp only [pg]
   refine hK.out _ _ (fun _=>E1.out.cellE QG.out) (fun hh=>?_);have hHeld:=hh (by decide);clear hK K hh;try simp only [Act.put,pu]
   refine zr 2 rfl fun K hK=>?_;go_simp;refine (i_size A g.length c _).mono ?_;rintro e v2 ⟨rfl,he2⟩;have E2:=lh (E1.out.tr he2);have SS:=lh (Sep.ext SS.out he2);clear he2;try go_wp2_with fail
   refine hK.out _ _ (fun _=>E2.out.cellE QG.out) (fun hh=>?_);have hHeld:=hh (by decide);clear hK K hh;try simp only [Act.put,pu]
   refine zr 3 rfl fun K hK=>?_;refine held_mk rfl rfl eiBool rfl rfl (by omega) (by omega) (Nat.le_refl _) ?_;intro v3 hO1 he3;rw [boolsR] at hO1;have O1:=lh hO1;have E3:=lh (E2.out.tr he3);have SS:=lh (Sep.ext SS.out he3);clear he3 hO1;try simp only [pg]
   refine hK.out _ _ (fun _=>E3.out.cellE QG.out) (fun hh=>?_);have hHeld:=hh (by decide);clear hK K hh;try simp only [Act.put,pu]
   refine zr 4 rfl fun K hK=>?_;go_simp;refine (HEF.out _ (RG.out.ext E3.out) _ _ (by have:=O1.out.rd;simpa using this)).mono ?_;rintro e v4 ⟨A2,rfl,hO2,he4⟩;have O1:=lh (O1.out.ext he4);have O2:=lh hO2;have E4:=lh (E3.out.tr he4);have SS:=lh (Sep.ext SS.out he4);clear he4 hO2;try go_wp2_with fail
   refine hK.out _ _ (fun _=>E4.out.cellE QG.out) (fun hh=>?_);have hHeld:=hh (by decide);clear hK K hh;try simp only [Act.put,pu]
   refine zr 7 rfl fun K hK=>?_;go_simp;refine (HMO.out _ (RG.out.ext E4.out) (RX.out.ext E4.out)).mono ?_;rintro e v5 ⟨A4,rfl,hO4,he5⟩;have O1:=lh (O1.out.ext he5);have O2:=lh (O2.out.ext he5);have O4:=lh hO4;have E5:=lh (E4.out.tr he5);have SS:=lh (Sep.ext SS.out he5);clear he5 hO4;try go_wp2_with fail
   refine hK.out _ _ (fun _=>E5.out.cellE QG.out) (fun hh=>?_);have hHeld:=hh (by decide);clear hK K hh;try simp only [Act.put,pu]
   refine zr 8 rfl fun K hK=>?_;go_simp;refine (i_showsN A2 A4 _ g.length _ g.length ef (Sg.mean g x) _ rfl (by simp [Sg.mean]) O2.out.rd O4.out.rd HEM.out (Nat.le_trans HEL.out (by omega))).mono ?_;rintro e v6 ⟨A5,c5,rfl,hO5,he6⟩;have O1:=lh (O1.out.ext he6);have O2:=lh (O2.out.ext he6);have O4:=lh (O4.out.ext he6);have O5:=lh hO5;have E6:=lh (E5.out.tr he6);have SS:=lh (Sep.add SS.out he6 (Th.own w.heap.size 56 2 A5 (Sg.showL ef (Sg.mean g x)).length c5 (shs (Sg.showL ef (Sg.mean g x)))) (hO5.mono (by have:=E5.out.size;have:=HB.out.size;(try simp only [World.size_drew] at *);omega)) (fun b e=>(hO5.lt e).1));clear he6 hO5;try go_wp2_with fail
   refine hK.out _ _ (fun _=>E6.out.cellE QG.out) (fun hh=>?_);have hHeld:=hh (by decide);clear hK K hh;try simp only [Act.put,pu]
   refine zr 10 rfl fun K hK=>?_;have y9:Bx v6 bt [.slice none 0 0]:=(Sep.get SS.out 1 rfl:Bx _ _ _∧_).1;have r9:=y9.cell (j:=0) rfl;have f9:=y9.free 0;have l9:=y9.lt;have Y9:=lh y9;clear y9;go_simp;have SS:=lh (Sep.st SS.out 1 rfl ⟨bt,0,none⟩ (.slice A5 (Sg.showL ef (Sg.mean g x)).length c5) rfl (Th.box (w.heap.size) bt [.slice A5 (Sg.showL ef (Sg.mean g x)).length c5]) ⟨Y9.out.set 0 _,LBT⟩ (fun _ e=>e));have E9:=lh ((HB.out.tr E6.out).set (p:=⟨bt,0,none⟩) LBT (.slice A5 (Sg.showL ef (Sg.mean g x)).length c5));refine hK.out _ _ (fun e=>absurd rfl e) (fun hh=>?_);clear hK K hHeld hh;try simp only [Act.put]
   refine zn ?_;go_wp2_with fail
   go_meet
   exact ⟨bt,A5,c5,rfl,lh (Sep.swap SS.out),E9⟩
 case rest =>
  obtain ⟨bo,Ao,co,rfl,hS,hE⟩:=hcut;obtain ⟨w5,rfl⟩:∃ W:World,W=wc:=⟨_,rfl⟩;clear SB QG qg bg HB;have qg:=(((Sep.get hS.out 4 rfl:Bx _ _ _∧_).1).cell (j:=0) rfl:w5.cell? ⟨w.heap.size,0,none⟩=some (.slice A g.length c));have bg:=blt qg;have HO:=lh (show Sg.plainS g x l=(Sg.runS (Sg.plainFl g) (Sg.ses0 g x,(x,Sg.showL (Sg.effs g (List.replicate g.length false)) (Sg.mean g x))) l).2.2 from by unfold Sg.plainS;rw [if_pos HFT.out]);have HSL:=lh (show (Sg.showL (Sg.effs g (List.replicate g.length false)) (Sg.mean g x)).length≤g.length * (0 + 1) from by rw [Sg.showL_len];have:=Sg.effs_len g (List.replicate g.length false);omega);generalize Sg.showL (Sg.effs g (List.replicate g.length false)) (Sg.mean g x)=sh at *;have FL:=lh (flu_plain A c g w bo w.heap.size bb H.out hG (by omega));have hent:=FL.out.ent;go_wp2_with fail
  refine (i_session FL.out A Ac Al c cc cl x l w5 HX.out HL.out (x,sh) (PThings A c g bo w.heap.size bb Ao co Ab x.length (x,sh)) [] hE.out (Sep.perm hS.out (by rw [List.append_nil];exact perm_ob _ _ _ _ _)) ⟨Ao,co,Ab,x.length,rfl,HC.out,HSL.out⟩ HC.out hAc HL30.out (by omega)).mono ?_;rintro e w6 ⟨rfl,hE6,ts',⟨A7,c7,A8,c8,rfl,hv,hlen⟩,hS6⟩;rw [List.append_nil] at hS6;unfold PThings at hS6;have q6:=(((Sep.get hS6 1 rfl:Bx _ _ _∧_).1).cell (j:=0) rfl);have b6:=blt q6;have O6:=(Sep.get hS6 2 rfl:Own _ _ _ _ _ _ _ _);have h61:=O6.2.1;have h62:=O6.2.2.1;have O6':=lh O6;have E6:=lh hE6;clear hS6 hE6 O6 hS hE qg bg hv hlen;generalize (Sg.runS (Sg.plainFl g) (Sg.ses0 g x,(x,sh)) l).2.2=out at *;go_wp2_with fail
  refine (i_ClipS _ _ _ _ h61 h62).mono ?_;rintro e w' ⟨rfl,rfl⟩;go_wp2;go_ret;rw [HO.out];exact ⟨A7,out.length,rfl,O6'.out.clip,E6.out⟩
end Go.Proofs.YtgojnefiephafaaGreat
namespace Sg
theorem inputs_len (g:Graph):(inputsL g).length≤g.length:=whichL_len _ _
end Sg
namespace Go.Proofs.YtgojnefiephafaaGreat
open Go.RowKit
set_option maxHeartbeats 1000000 in
theorem i_whichCell (A:Option Addr) (c:Nat) (g:Sg.Graph) (w:World) (h:RdN w A g) :
  Calls Tryz.prog 83 #[.agg #[.slice A g.length c],.func (.func 58) #[.agg #[.slice A g.length c]] #[]] w fun e w'=>∃ A',e = .returned (.slice A' (Sg.inputsL g).length (Sg.inputsL g).length) ∧
   Own w' w.heap.size 3 1 A' (Sg.inputsL g).length (Sg.inputsL g).length (ints (Sg.inputsL g))∧Ext w w':=by
 have hent:=ent_of Tryz.func58 rfl (by kernel_rfl);have hgl:=h.1;have e0:=(Ext.rfl' w).al (.cells #[.slice A g.length c] 33);have H:=lh (h.ext e0);have HE:=lh e0
 have hq:∀ k,k<g.length→Sg.whichL (fun i=>decide (Sg.kindAt g (i:Int)=0)) (k + 1)=if Sg.isCell g (k:Int)=true then Sg.whichL (fun i=>decide (Sg.kindAt g (i:Int)=0)) k++[(k:Int)] else Sg.whichL (fun i=>decide (Sg.kindAt g (i:Int)=0)) k:=fun k hk=>by
  rw [Sg.whichL_succ]
  have:Sg.isCell g (k:Int)=decide (Sg.kindAt g (k:Int)=0):=by
   unfold Sg.isCell Sg.inR;rw [decide_eq_true (show (0:Int)≤k by omega),decide_eq_true (show (k:Int)≤(g.length:Int) - 1 by omega)];rfl
  rw [this]
 have hL:∀ k,(Sg.whichL (fun i=>decide (Sg.kindAt g (i:Int)=0)) k).length≤k:=fun k=>Sg.whichL_len _ k;have h0:Sg.whichL (fun i=>decide (Sg.kindAt g (i:Int)=0)) 0=[]:=rfl;have hin:Sg.inputsL g=Sg.whichL (fun i=>decide (Sg.kindAt g (i:Int)=0)) g.length:=rfl;rw [hin];generalize Sg.whichL (fun i=>decide (Sg.kindAt g (i:Int)=0))=V at *;have HQ:=lh hq;have HL:=lh hL;have H0:=lh h0;clear hq hL h0 e0 h hin;go_enter Tryz.func83,Tryz.ntmps83;go_wp2;go_loopw [5,10] (fun v i wr=>∃ (k:Nat) (A':Option Addr) (c':Nat),k≤g.length∧i = .int .i64 k∧v = .slice A' (V k).length c'∧Own wr (w.heap.size + 1) 3 1 A' (V k).length c' (ints (V k))∧Ext (w.alloc (.cells #[.slice A g.length c] 33)) wr) (fun _ i _=>g.length - (intOf i).toNat)
 case atStart=>exact ⟨0,none,0,Nat.zero_le _,rfl,by rw [H0.out];rfl,by rw [H0.out];exact Own.nil _ _ _ _,Ext.rfl' _⟩
 case round =>
  obtain ⟨k,A',c',hk,rfl,rfl,hown,he⟩:=hrel;have hl:=HL.out k;have He:=lh he;have Ho:=lh hown;have hcm:=And.intro hown.2.1 hown.2.2.1;clear he hown;by_cases hlt:k<g.length
  ·have hq:=HQ.out k hlt;cases hp:Sg.isCell g (k:Int)
   ·rw [hp] at hq;simp only [Bool.false_eq_true,if_false] at hq;have Hq:=lh hq;have Hp:=lh hp;clear hp hq;go_wp2_with fail
    refine (i_cellB A c g (k:Int) _ (H.out.ext He.out)).mono ?_;rw [Hp.out];rintro e w1 ⟨rfl,he1⟩;go_wp2;go_roundw
    case rel=>exact ⟨k + 1,A',c',by omega,by go_num,by rw [Hq.out],by rw [Hq.out];exact Ho.out.ext he1,He.out.tr he1⟩
    case measure=>simp [intOf];omega
   ·rw [hp] at hq;simp only [if_true] at hq;have Hq:=lh hq;have Hp:=lh hp;clear hp hq;go_wp2_with fail
    refine (i_cellB A c g (k:Int) _ (H.out.ext He.out)).mono ?_;rw [Hp.out];rintro e w1 ⟨rfl,he1⟩;have Ho1:=lh (Ho.out.ext he1);have s1:=(He.out.tr he1).size;simp only [World.size_alloc] at s1;go_wp2_with (at_builtin;refine wpList_app1 rfl rfl eiInt rfl Ho1.out rfl rfl (one_int _ _) (by omega) (by omega) (by omega) ?_;intro A2 c2 w9 hown2 hg2 hat2)
    go_roundw
    case rel=>exact ⟨k + 1,A2,c2,by omega,by go_num,by rw [Hq.out];simp,by rw [Hq.out];simpa using hown2,(He.out.tr he1).gr hg2 fun x hx=>(by have:=(Ho1.out.lt hx).1;simpa using this)⟩
    case measure=>simp [intOf];omega
  ·obtain rfl:k=g.length:=by omega
   go_wp2_with (go_at_call 89;refine (i_Clip _ _ _ _ hcm.1 hcm.2).mono ?_;rintro e w' ⟨rfl,rfl⟩)
   go_ret;exact ⟨A',rfl,Ho.out.clip.mono (by omega),HE.out.tr He.out⟩
end Go.Proofs.YtgojnefiephafaaGreat
