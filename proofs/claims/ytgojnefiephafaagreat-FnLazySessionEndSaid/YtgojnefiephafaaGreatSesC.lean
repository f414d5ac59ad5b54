/- The program's CellsAfter: its contract. Conditions: valid acts and cells. -/
import Derived.Test.YtgojnefiephafaaGreatSesV
namespace Go.Proofs.YtgojnefiephafaaGreat
open Go.RowKit
def CaInv {B:Nat} (g:Sg.Graph) (bo:Nat) (_:Nat) (s:List Int) (ts:List (Th B)):Prop :=
 ∃ A1 c1,ts=[Th.box B bo [.slice A1 s.length c1],Th.own B 3 1 A1 s.length c1 (ints s)]∧Sg.validC g s=true
theorem Sep.pickC {B:Nat} {P S o x:Th B} {rs:List (Th B)} {W:World} (h:Sep (P :: S :: o :: x :: rs) W):Sep (o :: P :: rs) W :=
 (h.sub (((((List.Sublist.refl rs).cons x).cons_cons o).cons S).cons_cons P)).perm (List.Perm.swap o P rs)
set_option maxRecDepth 100000 in
theorem flu_cells (g:Sg.Graph) (a:World) (bo:Nat) :
  Flu Tryz.prog 61 [.pointer (some ⟨bo,0,none⟩)] g a (CaInv g bo) Sg.cellFl where
 ent:=ent_of Tryz.func61 rfl (by kernel_rfl)
 up:=fun k s ts h=>h
 call:=fun k s ts rs w Ap As cp cs n m p st hI hk hp hpn hsm hm hE hS=>by
  obtain ⟨A1,c1,rfl,-⟩:=hI;subst hpn hsm;have HP:=lh hp;have xo:Bx w bo [.slice A1 s.length c1]∧a.heap.size≤bo:=Sep.get hS 2 rfl;have r0:=xo.1.cell (j:=0) rfl;have f0:=xo.1.free 0;have l0:=xo.1.lt;have XO:=lh xo;have HS:=lh hS;have HE:=lh hE;clear hp hS hE xo hm;go_enter Tryz.func61,Tryz.ntmps61;go_wp2;have S8:=lh (Sep.st HS.out 2 rfl ⟨bo,0,none⟩ (.slice Ap p.length cp) rfl (Th.box a.heap.size bo [.slice Ap p.length cp]) ⟨XO.out.1.set 0 _,XO.out.2⟩ (fun _ e=>e));have E8:=lh (HE.out.set (p:=⟨bo,0,none⟩) XO.out.2 (.slice Ap p.length cp));go_end0;exact ⟨rfl,E8.out,_,⟨Ap,cp,rfl,HP.out⟩,Sep.pickC S8.out⟩
set_option maxRecDepth 100000 in
set_option maxHeartbeats 4000000 in
theorem i_CellsAfter (A Ac Al:Option Addr) (c cc cl:Nat) (g:Sg.Graph) (x:List Int) (l:List Sg.Act) (w:World) (h:RdN w A g) (hx:Rd w 1 Ac x.length (ints x)) (hl:Rd w 3 Al l.length (acts l)) (hfit:Sg.fitS g x l=true) :
  Calls Tryz.prog 30 #[.agg #[.slice A g.length c],.slice Ac x.length cc,.slice Al l.length cl] w fun e w'=>∃ A1 c1,e = .returned (.slice A1 (Sg.cellsAfter g x l).length c1)∧Own w' w.heap.size 3 1 A1 (Sg.cellsAfter g x l).length c1 (ints (Sg.cellsAfter g x l))∧Ext w w':=by
 obtain ⟨hG,hC,hA,h30⟩:=Sg.fitS_parts hfit;have hgl:=validG_len hG;have hxl:=Sg.length_validC hC;have hx4:x.length≤1048576:=by omega
 have H:=lh h;have HX:=lh hx;have HL:=lh hl;have q0:World.cell? (World.alloc w (.cells #[.slice A g.length c] 33)) ⟨w.heap.size,0,none⟩=some (.slice A g.length c):=by simp [go_sem]
 have Q0:=lh q0;have EB:=lh ((Ext.rfl' w).al (.cells #[.slice A g.length c] 33));have HF:=lh (i_sessionFits A Ac Al c cc cl g x l);have HFT:=lh hfit;have HC:=lh hC;have HA:=lh hA;have H30:=lh h30;have HGL:=lh hgl;have HR:=lh (show Sg.cellsAfter g x l=(Sg.runS Sg.cellFl (Sg.ses0 g x,x) l).2 by unfold Sg.cellsAfter;rw [if_pos hfit]);clear h hx hl q0 hfit hG hC hA h30 hxl hgl;go_enter Tryz.func30,Tryz.ntmps30;go_wp2_with fail
 refine (HF.out _ (H.out.ext EB.out) (HX.out.ext EB.out) (HL.out.ext EB.out)).mono ?_;rintro e w1 ⟨rfl,he1⟩;rw [HFT.out];have q1:=he1.cellE Q0.out;have E1:=lh (EB.out.tr he1);have b1:=blt q1;clear he1 Q0;go_wp2_with fail
 refine (i_clone Ac x.length cc x _ (HX.out.ext E1.out) (by omega)).mono ?_;rintro e w2 ⟨Ab,rfl,hb,he2⟩;have hsz1:=E1.out.size;have SS:=lh (Sep.add (B:=w.heap.size) (ts:=[]) (W:=w1) (by trivial) he2 (Th.own w.heap.size 3 1 Ab x.length x.length (ints x)) (hb.mono (by omega)) (fun b e=>(hb.lt e).1));have E2:=lh (E1.out.tr he2);have hsz2:=he2.size;have q2:=he2.cellE q1;clear hb he2 q1 b1;go_upto_region 4 with fail
 have SB:=lh (Sep.add SS.out ((Ext.rfl' w2).al (.cells #[.slice Ab x.length x.length] 25)) (Th.box w.heap.size w2.heap.size [.slice Ab x.length x.length]) ⟨Bx.new w2 #[.slice Ab x.length x.length] 25,by omega⟩ (fun b e=>by have e2:b=w2.heap.size:=e;omega));have HB:=lh (E2.out.al (.cells #[.slice Ab x.length x.length] 25));have q3:=((Ext.rfl' w2).al (.cells #[.slice Ab x.length x.length] 25)).cellE q2;clear SS E2 q2 hsz1 hsz2;generalize World.alloc w2 (.cells #[.slice Ab x.length x.length] 25)=w3 at *;generalize hbb:w2.heap.size=bb at *;clear hbb;have b3:=blt q3;have FL:=lh (flu_cells g w bb);have hent:=FL.out.ent;go_wp2_with fail
 refine (i_session FL.out A Ac Al c cc cl x l _ HX.out HL.out x [Th.box w.heap.size bb [.slice Ab x.length x.length],Th.own w.heap.size 3 1 Ab x.length x.length (ints x)] [] HB.out SB.out ⟨Ab,x.length,rfl,HC.out⟩ HC.out HA.out H30.out (by have:=HGL.out;omega)).mono ?_;rintro e w4 ⟨rfl,hE4,ts',⟨A4,c4,rfl,-⟩,hS4⟩;have q4:=(((Sep.get hS4 0 rfl:Bx _ _ _∧_).1).cell (j:=0) rfl);have b4:=blt q4;have O4:=lh (Sep.get hS4 1 rfl:Own _ _ _ _ _ _ _ _);have E4:=lh hE4;clear hS4 hE4 FL hent q3 b3;generalize Sg.runS Sg.cellFl (Sg.ses0 g x,x) l=R at *;obtain ⟨rx,out⟩:=R;dsimp only at *;go_wp2;go_ret;rw [HR.out];exact ⟨A4,c4,rfl,O4.out,E4.out⟩
end Go.Proofs.YtgojnefiephafaaGreat
