/- Parts of one proof, joined. The program's PlainSession: its closure and its contract. Conditions: bounds on lengths. Sessions with the eager machine: plain shape, the cells of a graph, a write of all cells: contracts. Conditions: in the theorems. -/
import Derived.Test.YtgojnefiephafaaGreatSesV
import Derived.Deep.DeepCutAuto
import Derived.Test.YtgojnefiephafaaGreatLwSpc
namespace Sg
end Sg
namespace Go.Proofs.YtgojnefiephafaaGreat
open Go.RowKit
theorem mem_effs_lt {g:Sg.Graph} {s:List Bool} {n:Int} (h:n ∈ Sg.effs g s):0≤n∧n<(g.length:Int):=by
 unfold Sg.effs at h;obtain ⟨i,rfl,hi,_⟩:=Sg.mem_whichL.1 h;omega
theorem mem_common_lt {g:Sg.Graph} {s:List Bool} {b:List Int} {n:Int} (h:n ∈ Sg.common (Sg.effs g s) b):0≤n∧n<(g.length:Int):=by
 unfold Sg.common at h;exact mem_effs_lt (List.mem_filter.1 h).1
theorem Sep.pick {B:Nat} {P S g o w b x:Th B} {rs:List (Th B)} {W:World} (h:Sep (P :: S :: g :: o :: w :: b :: x :: rs) W):Sep (g :: o :: w :: b :: P :: rs) W :=
 (h.sub ((((((((List.Sublist.refl rs).cons x).cons_cons b).cons_cons w).cons_cons o).cons_cons g).cons S).cons_cons P)).perm (List.perm_middle (l₁:=[g,o,w,b]) (l₂:=rs)).symm
theorem held_alSh {ops:Array Oper} {o:Oper} {a:Act} {w:World} {K:Act→World→Prop} {Q:Exit→Act→World→Prop} {E0:Prop} (hgd:o.guard=none) (ho:o.op=Op.alloc 29)
  (h:∀ b w',b=w.heap.size→Bx w' b [.slice none 0 0]→Ext w w'→K (a.put o.dst (.pointer (some ⟨b,0,none⟩))) w'):if Region.wanted o (yielded ops a.tmps)=true then Oper.wp Tryz.prog o a w K Q else E0:=by
 have hw:Region.wanted o (yielded ops a.tmps)=true:=by simp [Region.wanted,hgd]
 rw [if_pos hw];obtain ⟨dst,op,ty,pos,aft,gd⟩:=o;simp only at hgd ho;subst ho;go_simp;exact h _ _ rfl (by simpa using Bx.new w #[.slice none 0 0] 29) ((Ext.rfl' w).al _)
theorem boolsR (n:Nat):(madeCells (Value.bool false).cells (n * 1)).toList=bools (List.replicate n false):=by rw [made_one _ _ rfl];simp [bools]
end Go.Proofs.YtgojnefiephafaaGreat
namespace Sg
def eagFl (g:Graph) (q:List Int × List Show × Int) (p:List Int) (s:List Bool):List Int × List Show × Int :=
 (p,q.2.1++showL (common (effs g s) (mustOr g q.1 p)) (mean g p),q.2.2 + ((mustOr g q.1 p).length:Int))
def eag0 (g:Graph) (cells:List Int):List Int × List Show × Int:=(cells,showL (effs g (List.replicate g.length false)) (mean g cells),(g.length:Int) - ((inputsL g).length:Int))
def eagR (g:Graph) (cells:List Int) (l:List Act):Ses × List Int × List Show × Int:=runS (eagFl g) (ses0 g cells,eag0 g cells) l
theorem eag_eager {g:Graph} {cells:List Int} {l:List Act} (h:fitS g cells l=true) (k:Nat) (hk:k≤l.length) :
  eagerR g cells (l.take k)=((eagR g cells (l.take k)).1,startE g (eagR g cells (l.take k)).2.1,(eagR g cells (l.take k)).2.2.1,(eagR g cells (l.take k)).2.2.2)∧validC g (eagR g cells (l.take k)).2.1=true:=by
 obtain ⟨hG,hC,hA,hl⟩:=fitS_parts h;induction k with
 | zero=>exact ⟨rfl,hC⟩
 | succ k ih =>
  obtain ⟨e,hv⟩:=ih (by omega);have hs:=runS_ok (eagFl g) (q:=(ses0 g cells,eag0 g cells)) (ses0_ok hC) l hA k (by omega);have e2:l.take (k + 1)=l.take k++[l[k]]:=List.take_succ_eq_append_getElem (by omega);have hx:=hs.step (hA _ (List.getElem_mem (show k<l.length by omega)));unfold eagerR at e ⊢;unfold eagR at e hv ⊢;rw [e2,runS_snoc,runS_snoc,e];generalize runS (eagFl g) (ses0 g cells,eag0 g cells) (l.take k)=q at hv hx;unfold stepR;dsimp only;by_cases hd:(stepS q.1 l[k]).2=true
  ·rw [if_pos hd,if_pos hd,eagerFl_eq hG hv hx.c];exact ⟨rfl,hx.c⟩
  ·rw [if_neg hd,if_neg hd];exact ⟨rfl,hv⟩
theorem eag_all {g:Graph} {cells:List Int} {l:List Act} (h:fitS g cells l=true):(eagerR g cells l).2.2.1=(eagR g cells l).2.2.1∧(eagerR g cells l).2.2.2=(eagR g cells l).2.2.2:=by
 have:=(eag_eager h l.length (Nat.le_refl _)).1;rw [List.take_length] at this;rw [this];exact ⟨rfl,rfl⟩
theorem mustOr_len (g:Graph) (a b:List Int):(mustOr g a b).length≤g.length:=by
 unfold mustOr;split
 ·exact whichL_len _ _
 ·exact Nat.zero_le _
theorem inputs_len (g:Graph):(inputsL g).length≤g.length:=whichL_len _ _
theorem eagFl_small {g:Graph} {q:List Int × List Show × Int} {k:Nat} (h:q.2.1.length≤g.length * (k + 1)) (h0:0≤q.2.2) (h1:q.2.2≤((g.length * (k + 1):Nat):Int)) (p:List Int) (s:List Bool) :
  (eagFl g q p s).2.1.length≤g.length * (k + 1 + 1)∧0≤(eagFl g q p s).2.2∧(eagFl g q p s).2.2≤((g.length * (k + 1 + 1):Nat):Int):=by
 have h2:=mustOr_len g q.1 p;have h3:(common (effs g s) (mustOr g q.1 p)).length≤g.length:=Nat.le_trans (List.length_filter_le _ _) (effs_len g s);rw [Nat.mul_add g.length (k + 1) 1];refine ⟨?_,?_,?_⟩
 ·show (q.2.1++showL _ _).length≤_;rw [List.length_append,showL_len];omega
 ·show 0≤q.2.2 + _;omega
 ·show q.2.2 + _≤_;omega
theorem write_all {g:Graph} {a p:List Int} (hG:validG g=true) (ha:validC g a=true) (hp:validC g p=true) :
  (writeS g ⟨mean g a,depsTo g (mean g a) g.length⟩ (inputsL g) (valuesL g p)).vals=mean g p∧(writeS g ⟨mean g a,depsTo g (mean g a) g.length⟩ (inputsL g) (valuesL g p)).reads=depsTo g (mean g p) g.length∧(writeS g ⟨mean g a,depsTo g (mean g a) g.length⟩ (inputsL g) (valuesL g p)).ran=mustOr g a p:=by
 have h:writeE g (startE g a) (inputsL g) (valuesL g p)=(startE g p,mustOr g a p):=by
  rw [write_start (mayWrite_all hG ha hp)];have:cellsOf g (startE g a).vals=a:=start_cells ha;rw [this,written_all ha hp]
 unfold writeE at h;simp only [Prod.mk.injEq] at h;obtain ⟨h1,h2⟩:=h;have h3:=congrArg Eager.vals h1;have h4:=congrArg Eager.reads h1;exact ⟨h3,h4,h2⟩
theorem values_range {g:Graph} {p:List Int} (hp:validC g p=true):inRange (valuesL g p):=by
 intro x hx;obtain ⟨n,hn,rfl⟩:=List.mem_map.1 hx;obtain ⟨i,rfl,hi,_⟩:=mem_inputsL.1 hn;rw [rd_nat];exact validC_rd hp i hi
end Sg
namespace Go.Proofs.YtgojnefiephafaaGreat
open Go.RowKit
theorem i_writeN (a:World) (A Av Ar An Aw:Option Addr) (c cv cr cn cw:Nat) (g:Sg.Graph) (x p:List Int) (hs:List (Option Addr × Nat)) (w:World) (ha:RdN a A g) (hE:Ext a w) (ts:List (Th a.heap.size))
  (hna:∀ W,Ext a W→Sep ts W→Rd W 1 An (Sg.inputsL g).length (ints (Sg.inputsL g))) (hwa:∀ W,Ext a W→Sep ts W→Rd W 1 Aw (Sg.inputsL g).length (ints (Sg.valuesL g p)))
  (hnb:0<(Sg.inputsL g).length→∀ b,blk An=some b→b<a.heap.size∨∃ t ∈ ts,t.fp b) (hwb:0<(Sg.inputsL g).length→∀ b,blk Aw=some b→b<a.heap.size∨∃ t ∈ ts,t.fp b)
  (hS:Sep (Th.own a.heap.size 3 1 Av g.length cv (ints (Sg.mean g x)) :: Th.ownL a.heap.size Ar cr (Sg.depsTo g (Sg.mean g x) g.length) hs :: ts) w) (hG:Sg.validG g=true) (hx:Sg.validC g x=true) (hp:Sg.validC g p=true) :
  Calls Tryz.prog 105 #[.agg #[.slice Av g.length cv,.slice Ar g.length cr],.agg #[.slice A g.length c],.slice An (Sg.inputsL g).length cn,.slice Aw (Sg.inputsL g).length cw] w fun e w'=>∃ Ad hs',e = .returned (.slice Ad (Sg.mustOr g x p).length (Sg.mustOr g x p).length) ∧
   Sep (Th.own a.heap.size 3 1 Ad (Sg.mustOr g x p).length (Sg.mustOr g x p).length (ints (Sg.mustOr g x p)) :: Th.own a.heap.size 3 1 Av g.length cv (ints (Sg.mean g p)) :: Th.ownL a.heap.size Ar cr (Sg.depsTo g (Sg.mean g p) g.length) hs' :: ts) w'∧Ext a w':=by
 have hvl:(Sg.valuesL g p).length=(Sg.inputsL g).length:=by simp [Sg.valuesL]
 have hm1:(Sg.mean g x).length=g.length:=Sg.length_mean g x;have hm2:(Sg.mean g p).length=g.length:=Sg.length_mean g p;have hd1:(Sg.depsTo g (Sg.mean g x) g.length).length=g.length:=Sg.length_depsTo _ _ _;obtain ⟨e1,e2,e3⟩:=Sg.write_all hG hx hp
 have:=i_writeG a.heap.size a A Av Ar An Aw c cv cr cn cw g (Sg.mean g x) (Sg.inputsL g) (Sg.valuesL g p) (Sg.depsTo g (Sg.mean g x) g.length) hs w ha hE (Nat.le_refl _) hE.size ts hna (by rw [hvl];exact hwa) hnb (by rw [hvl];exact hwb)
  (by rw [hm1];exact hS) (Sg.start_validE hG hx) (Sg.inputs_differ g) hvl.symm (Sg.values_range hp)
 rw [e1,e2,e3,hm1,hm2,hd1,hvl] at this;exact this
theorem i_StartN (A Ac:Option Addr) (c cc:Nat) (g:Sg.Graph) (l:List Int) (w:World) (h:RdN w A g) (hc:Rd w 1 Ac l.length (ints l)) (hG:Sg.validG g=true) (hC:Sg.validC g l=true) :
  Calls Tryz.prog 103 #[.agg #[.slice A g.length c],.slice Ac l.length cc] w fun e w'=>∃ A1 A2 hs,e = .returned (.agg #[.slice A1 g.length g.length,.slice A2 g.length g.length]) ∧
   Own w' w.heap.size 3 1 A1 g.length g.length (ints (Sg.mean g l))∧OwnL w' w.heap.size A2 g.length (Sg.depsTo g (Sg.mean g l) g.length) hs∧(∀ b,blk A1=some b→¬ fpD A2 hs b)∧Ext w w':=by
 have e:startOr g l=Sg.startE g l:=by unfold startOr;rw [hG,hC];rfl
 refine (i_StartEager A Ac c cc g l w h hc).mono ?_;rintro e w' ⟨A1,A2,hs,rfl,hO,he⟩;have hv:=hO.v;have hr:=hO.r;have hd:=hO.d;simp only [e] at hv hr ⊢;have hm1:(Sg.startE g l).vals.length=g.length:=Sg.length_mean g l;have hd1:(Sg.startE g l).reads.length=g.length:=Sg.length_depsTo _ _ _;rw [hm1] at hv ⊢;rw [hd1] at hr ⊢;exact ⟨A1,A2,hs,rfl,hv,hr,hd,he⟩
set_option maxHeartbeats 1000000 in
theorem i_whichCell (A:Option Addr) (c:Nat) (g:Sg.Graph) (w:World) (h:RdN w A g) :
  Calls Tryz.prog 83 #[.agg #[.slice A g.length c],.func (.func 58) #[.agg #[.slice A g.length c]] #[]] w fun e w'=>∃ A',e = .returned (.slice A' (Sg.inputsL g).length (Sg.inputsL g).length) ∧
   Own w' w.heap.size 3 1 A' (Sg.inputsL g).length (Sg.inputsL g).length (ints (Sg.inputsL g))∧Ext w w':=by
 have hent:=ent_of Tryz.func58 rfl (by kernel_rfl);have hgl:=h.1;have e0:=(Ext.rfl' w).al (.cells #[.slice A g.length c] 33);have H:=lh (h.ext e0);have HE:=lh e0
 have hq:∀ k,k<g.length→Sg.whichL (fun i=>decide (Sg.kindAt g (i:Int)=0)) (k + 1)=if Sg.isCell g (k:Int)=true then Sg.whichL (fun i=>decide (Sg.kindAt g (i:Int)=0)) k++[(k:Int)] else Sg.whichL (fun i=>decide (Sg.kindAt g (i:Int)=0)) k:=fun k hk=>by
  rw [Sg.whichL_succ]
  have:Sg.isCell g (k:Int)=decide (Sg.kindAt g (k:Int)=0):=by
   unfold Sg.isCell Sg.inR;rw [decide_eq_true (show (0:Int)≤k by omega),decide_eq_true (show (k:Int)≤(g.length:Int) - 1 by omega)];rfl
  rw [this]
 have hL:∀ k,(Sg.whichL (fun i=>decide (Sg.kindAt g (i:Int)=0)) k).length≤k:=fun k=>Sg.whichL_len _ k;have h0:Sg.whichL (fun i=>decide (Sg.kindAt g (i:Int)=0)) 0=[]:=rfl;have hin:Sg.inputsL g=Sg.whichL (fun i=>decide (Sg.kindAt g (i:Int)=0)) g.length:=rfl;rw [hin];generalize Sg.whichL (fun i=>decide (Sg.kindAt g (i:Int)=0))=V at *;have HQ:=lh hq;have HL:=lh hL;have H0:=lh h0;clear hq hL h0 e0 h hin;go_enter Tryz.func83,Tryz.ntmps83;go_wp2;go_loopw [5,10] (fun v i wr=>∃ (k:Nat) (A':Option Addr) (c':Nat),k≤g.length∧i = .int .i64 k∧v = .slice A' (V k).length c'∧Own wr (w.heap.size + 1) 3 1 A' (V k).length c' (ints (V k))∧Ext (w.alloc (.cells #[.slice A g.length c] 33)) wr) (fun _ i _=>g.length - (intOf i).toNat)
 case atStart=>exact ⟨0,none,0,Nat.zero_le _,rfl,by rw [H0.out];rfl,by rw [H0.out];exact Own.nil _ _ _ _,Ext.rfl' _⟩
 case round =>
  obtain ⟨k,A',c',hk,rfl,rfl,hown,he⟩:=hrel;have hl:=HL.out k;have He:=lh he;have Ho:=lh hown;have hcm:=And.intro hown.2.1 hown.2.2.1;clear he hown;by_cases hlt:k<g.length
  ·have hq:=HQ.out k hlt;cases hp:Sg.isCell g (k:Int)
   ·rw [hp] at hq;simp only [Bool.false_eq_true,if_false] at hq;have Hq:=lh hq;have Hp:=lh hp;clear hp hq;go_wp2_with fail
    refine (i_cellB A c g (k:Int) _ (H.out.ext He.out)).mono ?_;rw [Hp.out];rintro e w1 ⟨rfl,he1⟩;go_wp2;go_roundw
    case rel=>exact ⟨k + 1,A',c',by omega,by go_num,by rw [Hq.out],by rw [Hq.out];exact Ho.out.ext he1,He.out.tr he1⟩
    case measure=>simp [intOf];omega
   ·rw [hp] at hq;simp only [if_true] at hq;have Hq:=lh hq;have Hp:=lh hp;clear hp hq;go_wp2_with fail
    refine (i_cellB A c g (k:Int) _ (H.out.ext He.out)).mono ?_;rw [Hp.out];rintro e w1 ⟨rfl,he1⟩;have Ho1:=lh (Ho.out.ext he1);have s1:=(He.out.tr he1).size;simp only [World.size_alloc] at s1;go_wp2_with (at_builtin;refine wpList_app1 rfl rfl eiInt rfl Ho1.out rfl rfl (one_int _ _) (by omega) (by omega) (by omega) ?_;intro A2 c2 w9 hown2 hg2 hat2)
    go_roundw
    case rel=>exact ⟨k + 1,A2,c2,by omega,by go_num,by rw [Hq.out];simp,by rw [Hq.out];simpa using hown2,(He.out.tr he1).gr hg2 fun x hx=>(by have:=(Ho1.out.lt hx).1;simpa using this)⟩
    case measure=>simp [intOf];omega
  ·obtain rfl:k=g.length:=by omega
   go_wp2_with (go_at_call 89;refine (i_Clip _ _ _ _ hcm.1 hcm.2).mono ?_;rintro e w' ⟨rfl,rfl⟩)
   go_ret;exact ⟨A',rfl,Ho.out.clip.mono (by omega),HE.out.tr He.out⟩
end Go.Proofs.YtgojnefiephafaaGreat
