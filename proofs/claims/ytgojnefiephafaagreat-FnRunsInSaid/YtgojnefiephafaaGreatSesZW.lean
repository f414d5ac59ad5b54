/- Parts of one proof, joined. The program's clean and write over own things side by side. Conditions: a valid state. The program's StartLazy on valid cells. Conditions: valid cells. The closures of the program's lazySession: their contracts. Conditions: a valid state, bounds on lengths. The program's lazySession: its flush. Conditions: bounds on lengths. The program's lazySession and LazySession. Conditions: bounds on lengths. -/
import Derived.Test.YtgojnefiephafaaGreatLwSes
import Derived.Test.YtgojnefiephafaaGreatLazSix
import Derived.Deep.DeepCutAuto
namespace Go.Proofs.YtgojnefiephafaaGreat
open Go.RowKit
theorem Sep.rep {B:Nat} {us vs rs:List (Th B)} {W W':World} {F:Nat→Prop} (h:Sep (us++rs) W) (m:Mod F W W') (hF:∀ b,F b→(∃ t ∈ us,t.fp b)∨W.heap.size≤b) (h':Sep vs W') (hfp:∀ t ∈ vs,∀ b,t.fp b→(∃ t ∈ us,t.fp b)∨W.heap.size≤b):Sep (vs++rs) W':=by
 obtain ⟨h1,h2⟩:=Sep.iff.1 h;obtain ⟨k1,k2⟩:=Sep.iff.1 h';rw [List.pairwise_append] at h2;refine Sep.iff.2 ⟨fun t ht=>?_,List.pairwise_append.2 ⟨k2,h2.2.1,fun t ht s hs b hb hb'=>?_⟩⟩
 ·rcases List.mem_append.1 ht with ht | ht
  ·exact k1 t ht
  ·have ho:=h1 t (List.mem_append_right _ ht);refine t.fr _ _ ho fun b hb=>m.block b (t.lt _ _ ho hb).2 fun e=>?_;rcases hF b e with ⟨s,hs,hsb⟩ | e
   ·exact h2.2.2 s hs t ht b hsb hb
   ·have:=(t.lt _ _ ho hb).2;omega
 ·have ho:=h1 s (List.mem_append_right _ hs);rcases hfp t ht b hb with ⟨u,hu,hub⟩ | e
  ·exact h2.2.2 u hu s hs b hub hb'
  ·have:=(s.lt _ _ ho hb').2;omega
theorem i_cleanS (a:World) (A:Option Addr) (c gv gr gq cv cr cq Br n:Nat) (g:Sg.Graph) (s:Sg.LR) (hs:List (Option Addr × Nat)) (A9:Option Addr) (c9:Nat) (rs:List (Th a.heap.size)) (W:World) (hA:RdN a A g) (hG:Sg.validG g=true) (hE:Ext a W)
  (hS:Sep (thZ a.heap.size g.length gv cv gr cr gq cq Br [] hs A9 c9 s++rs) W) (hV:Sg.validL g s.st=true) (hrl:s.st.reads.length=g.length) (hn:n<g.length) (hr:s.ran.length≤999900) :
  Calls Tryz.prog 81 #[.agg #[.slice (some ⟨gv,0,none⟩) g.length cv,.slice (some ⟨gr,0,none⟩) g.length cr,.slice (some ⟨gq,0,none⟩) g.length cq],.agg #[.slice A g.length c],.int .i64 n,.pointer (some ⟨Br,0,none⟩)] W fun e w' =>
   e = .returned (.tuple #[])∧Ext a w'∧∃ hs' A8 c8,Sep (thZ a.heap.size g.length gv cv gr cr gq cq Br [] hs' A8 c8 (Sg.cleanS g 10 n s)++rs) w':=by
 have h10:=Sg.validG_len10 hG;have hL:LS a g.length gv cv gr cr gq cq Br [] s (fun b=>∃ t ∈ thZ a.heap.size g.length gv cv gr cr gq cq Br [] hs A9 c9 s,t.fp b) W:=⟨hE,⟨hs,A9,c9,hS.sub (List.sublist_append_left _ _),fun b=>Iff.rfl⟩,hrl⟩;refine (c_clean a g.length gv cv gr cr gq cq Br c A g hA hG rfl 10 n s _ W (by omega) hn hV (by omega) hL).mono ?_;rintro e w' ⟨rfl,F',⟨old',⟨hs',A8,c8,hS',hF'⟩,rl'⟩,m,hsub⟩;exact ⟨rfl,old',hs',A8,c8,Sep.rep hS m (fun b hb=>.inl hb) hS' fun t ht b hb=>hsub b ((hF' b).2 ⟨t,ht,hb⟩)⟩
def thL (B:Nat) (Av:Option Addr) (cv:Nat) (Ar:Option Addr) (cr:Nat) (Aq:Option Addr) (cq L:Nat) (hs:List (Option Addr × Nat)) (st:Sg.Lazy):List (Th B) :=
 [Th.own B 3 1 Av L cv (ints st.vals),Th.ownL B Ar cr st.reads hs,Th.own B 3 1 Aq L cq (ints st.cols)]
theorem i_writeS (a:World) (gv gq cv cr cq n L:Nat) (x:Int) (Ar:Option Addr) (st:Sg.Lazy) (hs:List (Option Addr × Nat)) (rs:List (Th a.heap.size)) (W:World) (hE:Ext a W)
  (hS:Sep (thL a.heap.size (some ⟨gv,0,none⟩) cv Ar cr (some ⟨gq,0,none⟩) cq L hs st++rs) W) (hA:Sg.Ahead st.reads) (hvl:st.vals.length=L) (hrl:st.reads.length=L) (hql:st.cols.length=L) (hn:n<L) (hL:L≤1000000) (hrr:∀ l ∈ st.reads,l.length≤1048576) :
  Calls Tryz.prog 84 #[.agg #[.slice (some ⟨gv,0,none⟩) L cv,.slice Ar L cr,.slice (some ⟨gq,0,none⟩) L cq],.int .i64 n,.int .i64 x] W fun e w' =>
   e = .returned (.tuple #[])∧Ext a w'∧Sep (thL a.heap.size (some ⟨gv,0,none⟩) cv Ar cr (some ⟨gq,0,none⟩) cq L hs (Sg.writeL st n x)++rs) w':=by
 obtain ⟨v,r,q⟩:=st;dsimp only at *;have h0:Own W a.heap.size 3 1 (some ⟨gv,0,none⟩) L cv (ints v):=Sep.get hS 0 rfl;have h1:OwnL W a.heap.size Ar cr r hs:=Sep.get hS 1 rfl;have h2:Own W a.heap.size 3 1 (some ⟨gq,0,none⟩) L cq (ints q):=Sep.get hS 2 rfl;have hp:=(Sep.iff.1 (hS.sub (List.sublist_append_left _ _))).2;unfold thL at hp;simp only [List.pairwise_cons,List.mem_cons,List.not_mem_nil,or_false,forall_eq_or_imp,forall_eq] at hp;obtain ⟨⟨hvr,hvq⟩,hrq,hpx⟩:=hp;have hne:gv≠gq:=fun e=>hvq gv rfl (show blk (some ⟨gq,0,none⟩)=some gv by rw [e];rfl)
 have hnf:∀ b,fpD Ar hs b→¬ (b=gv∨b=gq):=fun b hb e=>by
  rcases e with rfl | rfl
  ·exact hvr b rfl hb
  ·exact hrq b hb rfl
 subst hvl
 refine (show Calls Tryz.prog 84 #[.agg #[.slice (some ⟨gv,0,none⟩) v.length cv,.slice Ar r.length cr,.slice (some ⟨gq,0,none⟩) q.length cq],.int .i64 n,.int .i64 x] W _ from i_writeZ a.heap.size n gv gq x Ar cv cr cq v q r W hA hql.symm (by omega) (by omega) (by omega) hne
  (fun W' m=>OwnL.rdL (OwnD.mod h1 m hnf) (by omega) hrr) h0 (by rw [← hql] at h2;exact h2)).mono ?_ |> fun z=>by rw [hrl,hql] at z;exact z
 rintro e w' ⟨rfl,k0,k2,m⟩
 have hz:∀ b,(b=gv∨b=gq)→a.heap.size≤b:=fun b hb=>by
  rcases hb with rfl | rfl
  ·exact (h0.lt rfl).1
  ·exact (h2.lt rfl).1
 refine ⟨rfl,Ext.md hE m hz,?_⟩;have hrd:(Sg.writeL ⟨v,r,q⟩ n x).reads=r:=by unfold Sg.writeL;split <;> rfl
 refine Sep.rep (us:=thL a.heap.size (some ⟨gv,0,none⟩) cv Ar cr (some ⟨gq,0,none⟩) cq v.length hs ⟨v,r,q⟩) hS m (fun b hb=>?_) (Sep.iff.2 ⟨fun t ht=>?_,by unfold thL;simp only [List.pairwise_cons,List.mem_cons,List.not_mem_nil,or_false,forall_eq_or_imp,forall_eq];exact ⟨⟨hvr,hvq⟩,hrq,hpx⟩⟩) (fun t ht b hb=>?_)
 ·rcases hb with rfl | rfl
  ·exact .inl ⟨_,List.mem_of_getElem? (i:=0) rfl,rfl⟩
  ·exact .inl ⟨_,List.mem_of_getElem? (i:=2) rfl,rfl⟩
 ·unfold thL at ht;simp only [List.mem_cons,List.not_mem_nil,or_false] at ht;rcases ht with rfl | rfl | rfl
  ·exact k0
  ·rw [hrd];exact OwnD.mod h1 m hnf
  ·rw [hql] at k2;exact k2
 ·unfold thL at ht;simp only [List.mem_cons,List.not_mem_nil,or_false] at ht;rcases ht with rfl | rfl | rfl
  ·exact .inl ⟨_,List.mem_of_getElem? (i:=0) rfl,hb⟩
  ·exact .inl ⟨_,List.mem_of_getElem? (i:=1) rfl,hb⟩
  ·exact .inl ⟨_,List.mem_of_getElem? (i:=2) rfl,hb⟩
end Go.Proofs.YtgojnefiephafaaGreat
namespace Go.Proofs.YtgojnefiephafaaGreat
open Go.RowKit
section
variable {P:Program} {ops:Array Oper} {Q:Exit→Act→World→Prop} {md:Region.Mode} {S:World→Prop} {z:Nat}
theorem zr3 (i j m:Nat) {o o2 o3:Oper} {fuel:Nat} {listed:Array Bool} {a:Act} {w:World} (ho:ops[i]? = some o) (ho2:ops[j]? = some o2) (ho3:ops[m]? = some o3)
    (h:∀ K':Act→World→Prop,Shut (∀ a w,(i≠z→S w)→((i≠z→S w)→wpZ P md ops Q S z fuel (listed.setIfInBounds i true) a w)→K' a w)→if Region.wanted o (yielded ops a.tmps)=true then Oper.wp P o a w K' Q else K' (a.put o.dst undef) w)
    (h2:∀ K':Act→World→Prop,Shut (∀ a w,(j≠z→S w)→((j≠z→S w)→wpZ P md ops Q S z fuel (listed.setIfInBounds j true) a w)→K' a w)→if Region.wanted o2 (yielded ops a.tmps)=true then Oper.wp P o2 a w K' Q else K' (a.put o2.dst undef) w)
    (h3:∀ K':Act→World→Prop,Shut (∀ a w,(m≠z→S w)→((m≠z→S w)→wpZ P md ops Q S z fuel (listed.setIfInBounds m true) a w)→K' a w)→if Region.wanted o3 (yielded ops a.tmps)=true then Oper.wp P o3 a w K' Q else K' (a.put o3.dst undef) w)
    (hr:Region.ready md ops listed=[i,j,m]:=by kernel_rfl):wpZ P md ops Q S z (fuel + 1) listed a w:=by
  refine ⟨fun h0=>(by rw [hr] at h0;cases h0),fun k hk=>?_⟩;rw [hr] at hk;simp only [List.mem_cons,List.not_mem_nil,or_false] at hk;rcases hk with rfl | rfl | rfl
  · exact wpOp_step ho (fun K' hK=>h K' (fun a w hS hW=>hK a w ⟨hS,hW hS⟩))
  · exact wpOp_step ho2 (fun K' hK=>h2 K' (fun a w hS hW=>hK a w ⟨hS,hW hS⟩))
  · exact wpOp_step ho3 (fun K' hK=>h3 K' (fun a w hS hW=>hK a w ⟨hS,hW hS⟩))
end
theorem held_alZ {ops:Array Oper} {o:Oper} {a:Act} {w:World} {K:Act→World→Prop} {Q:Exit→Act→World→Prop} {E0:Prop} (hgd:o.guard=none) (ho:o.op=Op.alloc 104)
    (h:∀ b w',b=w.heap.size→Bx w' b [.slice none 0 0,.slice none 0 0,.slice none 0 0]→Ext w w'→K (a.put o.dst (.pointer (some ⟨b,0,none⟩))) w'):if Region.wanted o (yielded ops a.tmps)=true then Oper.wp Tryz.prog o a w K Q else E0:=by
  have hw:Region.wanted o (yielded ops a.tmps)=true:=by simp [Region.wanted,hgd]
  rw [if_pos hw];obtain ⟨dst,op,ty,pos,aft,gd⟩:=o;simp only at hgd ho;subst ho;go_simp;exact h _ _ rfl (by simpa using Bx.new w #[.slice none 0 0,.slice none 0 0,.slice none 0 0] 104) ((Ext.rfl' w).al _)
theorem ownL_made {w:World} {B b n:Nat} (h:Own w B 25 1 (some ⟨b,0,none⟩) n n (madeCells (Value.slice none 0 0).cells (n * 1)).toList):OwnL w B (some ⟨b,0,none⟩) n (List.replicate n []) (List.replicate n (none,0)):=by
  rw [made_one _ _ rfl] at h
  have e:dcells (listIts (List.replicate n [])) (List.replicate n (none,0))=List.replicate n (Value.slice none 0 0):=by
    clear h;induction n with
    | zero=>rfl
    | succ n ih=>rw [List.replicate_succ,List.replicate_succ,List.replicate_succ];show _ :: dcells (listIts (List.replicate n [])) (List.replicate n (none,0))=_;rw [ih];rfl
  have hl:(listIts (List.replicate n ([]:List Int))).length=n:=by simp [listIts]
  refine ⟨by rw [hl];simp,?_,fun i it x hi hx=>?_,fun i j x y hij hx hy b hb=>?_,fun i x hx b hb=>?_⟩
  · rw [e,hl];exact h
  · have h1:=List.mem_of_getElem? hx;have h2:=List.mem_of_getElem? hi;rw [List.mem_replicate] at h1;unfold listIts at h2;rw [List.mem_map] at h2;obtain ⟨l,hl,rfl⟩:=h2;rw [List.mem_replicate] at hl;obtain rfl:=h1.2;obtain rfl:=hl.2;exact Own.nil _ _ _ _
  · have h1:=List.mem_of_getElem? hx;rw [List.mem_replicate] at h1;obtain rfl:=h1.2;cases hb
  · have h1:=List.mem_of_getElem? hx;rw [List.mem_replicate] at h1;rw [h1.2];intro e9;cases e9
theorem madeL (n:Nat):(madeCells (Value.int .i64 0).cells (n * 1)).toList=ints (List.replicate n 0):=by rw [made_one _ _ rfl];simp [ints]
def colsTo (g:Sg.Graph) (k:Nat):List Int:=(g.take k).map (fun n=>if n.kind=0 then (0:Int) else 2)++List.replicate (g.length - k) 0
theorem colsTo_len (g:Sg.Graph) {k:Nat} (h:k≤g.length):(colsTo g k).length=g.length:=by unfold colsTo;simp;omega
theorem colsTo_all (g:Sg.Graph):colsTo g g.length=g.map (fun n=>if n.kind=0 then (0:Int) else 2):=by unfold colsTo;simp
theorem colsTo_succ (g:Sg.Graph) {k:Nat} {n:Sg.Node} (h:g[k]? = some n):colsTo g (k + 1)=if n.kind=0 then colsTo g k else (colsTo g k).set k 2:=by
  have hk:=(List.getElem?_eq_some_iff.1 h).1;unfold colsTo;rw [take_snoc _ k h,List.map_append,show g.length - k=(g.length - (k + 1)) + 1 by omega,List.replicate_succ];split
  · rename_i h0;simp [h0]
  · rename_i h0
    rw [List.set_append_right _ _ (by simp;omega),show k - ((g.take k).map fun n:Sg.Node=>if n.kind=0 then (0:Int) else 2).length=0 by simp;omega,List.set_cons_zero];simp [h0]
theorem perm_bqlcrg {α:Type _} (b q l c r g:α):[b,q,l,c,r,g].Perm [c,l,q,b,r,g]:=(List.perm_middle (l₁:=[b,q,l]) (l₂:=[r,g]) (a:=c)).trans (((List.perm_middle (l₁:=[b,q]) (l₂:=[r,g]) (a:=l)).trans (((List.perm_middle (l₁:=[b]) (l₂:=[r,g]) (a:=q)).trans (((((List.Perm.refl _).cons _).cons _).cons _).cons _)).cons _)).cons _)
theorem perm_qblcrg {α:Type _} (q b l c r g:α):[q,b,l,c,r,g].Perm [c,l,q,b,r,g]:=(List.perm_middle (l₁:=[q,b,l]) (l₂:=[r,g]) (a:=c)).trans (((List.perm_middle (l₁:=[q,b]) (l₂:=[r,g]) (a:=l)).trans ((((((List.Perm.refl _).cons _).cons _).cons _).cons _).cons _)).cons _)
theorem perm_blqcrg {α:Type _} (b l q c r g:α):[b,l,q,c,r,g].Perm [c,l,q,b,r,g]:=(List.perm_middle (l₁:=[b,l,q]) (l₂:=[r,g]) (a:=c)).trans (((List.perm_middle (l₁:=[b]) (l₂:=[q,r,g]) (a:=l)).trans (((List.perm_middle (l₁:=[b]) (l₂:=[r,g]) (a:=q)).trans (((((List.Perm.refl _).cons _).cons _).cons _).cons _)).cons _)).cons _)
theorem perm_lbqcrg {α:Type _} (l b q c r g:α):[l,b,q,c,r,g].Perm [c,l,q,b,r,g]:=(List.perm_middle (l₁:=[l,b,q]) (l₂:=[r,g]) (a:=c)).trans ((((List.perm_middle (l₁:=[b]) (l₂:=[r,g]) (a:=q)).trans (((((List.Perm.refl _).cons _).cons _).cons _).cons _)).cons _).cons _)
theorem perm_qlbcrg {α:Type _} (q l b c r g:α):[q,l,b,c,r,g].Perm [c,l,q,b,r,g]:=(List.perm_middle (l₁:=[q,l,b]) (l₂:=[r,g]) (a:=c)).trans (((List.perm_middle (l₁:=[q]) (l₂:=[b,r,g]) (a:=l)).trans ((((((List.Perm.refl _).cons _).cons _).cons _).cons _).cons _)).cons _)
theorem perm_lqbcrg {α:Type _} (l q b c r g:α):[l,q,b,c,r,g].Perm [c,l,q,b,r,g]:=(List.perm_middle (l₁:=[l,q,b]) (l₂:=[r,g]) (a:=c)).trans (((((((List.Perm.refl _).cons _).cons _).cons _).cons _).cons _).cons _)
theorem perm_qlcbrg {α:Type _} (q l c b r g:α):[q,l,c,b,r,g].Perm [c,l,q,b,r,g]:=(List.perm_middle (l₁:=[q,l]) (l₂:=[b,r,g]) (a:=c)).trans (((List.perm_middle (l₁:=[q]) (l₂:=[b,r,g]) (a:=l)).trans ((((((List.Perm.refl _).cons _).cons _).cons _).cons _).cons _)).cons _)
theorem perm_lqcbrg {α:Type _} (l q c b r g:α):[l,q,c,b,r,g].Perm [c,l,q,b,r,g]:=(List.perm_middle (l₁:=[l,q]) (l₂:=[b,r,g]) (a:=c)).trans (((((((List.Perm.refl _).cons _).cons _).cons _).cons _).cons _).cons _)
theorem slB {B:Nat} {ts:List (Th B)} {v v':World} {bt:Nat} (h:Sep ts v) (e:Ext v v') (hbx:Bx v' bt [.slice none 0 0,.slice none 0 0,.slice none 0 0]) (hl:B≤bt) (hn:bt=v.heap.size):Sep (Th.box B bt [.slice none 0 0,.slice none 0 0,.slice none 0 0] :: ts) v' :=
  Sep.add h e _ ⟨hbx,hl⟩ (fun b e=>by have e2:b=bt:=e;omega)
theorem slC {B:Nat} {ts:List (Th B)} {v v':World} {A:Option Addr} {x:List Int} (h:Sep ts v) (e:Ext v v') (hO:Own v' v.heap.size 3 1 A x.length x.length (ints x)) (hl:B≤v.heap.size):Sep (Th.own B 3 1 A x.length x.length (ints x) :: ts) v' :=
  Sep.add h e _ (hO.mono hl) (fun _ e=>(hO.lt e).1)
theorem slL {B:Nat} {ts:List (Th B)} {v v':World} {bl n:Nat} (h:Sep ts v) (e:Ext v v') (hO:Own v' B 25 1 (some ⟨bl,0,none⟩) n n (madeCells (Value.slice none 0 0).cells (n * 1)).toList) (hn:bl=v.heap.size):Sep (Th.ownL B (some ⟨bl,0,none⟩) n (List.replicate n []) (List.replicate n (none,0)) :: ts) v' :=
  Sep.add h e _ (ownL_made hO) (fun b e=>Or.elim e (fun e=>by have e2:some bl=some b:=e;injection e2;omega) (fun ⟨y,hy,e⟩=>by rw [List.mem_replicate] at hy;obtain rfl:=hy.2;cases e))
theorem slQ {B:Nat} {ts:List (Th B)} {v v':World} {bq n:Nat} (h:Sep ts v) (e:Ext v v') (hO:Own v' B 3 1 (some ⟨bq,0,none⟩) n n (madeCells (Value.int .i64 0).cells (n * 1)).toList) (hn:bq=v.heap.size):Sep (Th.own B 3 1 (some ⟨bq,0,none⟩) n n (ints (List.replicate n 0)) :: ts) v':=by
  rw [madeL] at hO;exact Sep.add h e _ hO (fun b e=>by have e2:some bq=some b:=e;injection e2;omega)
theorem slS {B:Nat} {ts:List (Th B)} {v:World} {bt:Nat} {o0 o1 o2:Value} (h:Sep ts v) (i:Nat) (ht:ts[i]? = some (Th.box B bt [o0,o1,o2])) (u0 u1 u2:Value) :
    Sep (ts.set i (Th.box B bt [u0,u1,u2])) (((v.setCell ⟨bt,0,none⟩ u0).setCell ⟨bt,1,none⟩ u1).setCell ⟨bt,2,none⟩ u2) :=
  have y:Bx v bt [o0,o1,o2]∧B≤bt:=Sep.get h i ht;Sep.set h i ht (Mod.set3 v bt u0 u1 u2) (Th.box B bt [u0,u1,u2]) (fun _ e=>.inl e) ⟨y.1.set3 _ _ _,y.2⟩ (fun _ e=>.inl e)
theorem slE {a v:World} {bt:Nat} (h:Ext a v) (hl:a.heap.size≤bt) (u0 u1 u2:Value):Ext a (((v.setCell ⟨bt,0,none⟩ u0).setCell ⟨bt,1,none⟩ u1).setCell ⟨bt,2,none⟩ u2) :=
  Ext.md h (Mod.set3 v bt u0 u1 u2) (fun _ e=>by rw [e];exact hl)
theorem slY {B:Nat} {ts:List (Th B)} {v:World} {bt:Nat} {o0 o1 o2:Value} (h:Sep ts v) (i:Nat) (ht:ts[i]? = some (Th.box B bt [o0,o1,o2])) :
    v.cell? ⟨bt,0,none⟩=some o0∧v.cell? ⟨bt,1,none⟩=some o1∧v.cell? ⟨bt,2,none⟩=some o2∧v.frozen? ⟨bt,0,none⟩=false∧v.frozen? ⟨bt,1,none⟩=false∧v.frozen? ⟨bt,2,none⟩=false∧bt<v.heap.size :=
  have y:Bx v bt [o0,o1,o2]∧B≤bt:=Sep.get h i ht;⟨y.1.cell (j:=0) rfl,y.1.cell (j:=1) rfl,y.1.cell (j:=2) rfl,y.1.free 0,y.1.free 1,y.1.free 2,y.1.lt⟩
theorem slW {a v0 v:World} (h:Ext a v0) (e:Ext v0 v):a.heap.size≤v.heap.size:=Nat.le_trans h.size e.size
def SLThings {B:Nat} (bt bl bq b0:Nat) (A:Option Addr) (c:Nat) (A1:Option Addr) (x:List Int) (L:Nat) (q:List Int) (r0 r1 r2:Value):List (Th B) :=
  [Th.own B 3 1 A1 x.length x.length (ints x),Th.ownL B (some ⟨bl,0,none⟩) L (List.replicate L []) (List.replicate L (none,0)),Th.own B 3 1 (some ⟨bq,0,none⟩) L L (ints q),
   Th.box B bt [.slice A1 x.length x.length,.slice (some ⟨bl,0,none⟩) L L,.slice (some ⟨bq,0,none⟩) L L],Th.box B b0 [r0,r1,r2],Th.box B B [.slice A L c]]
set_option maxRecDepth 100000 in
set_option maxHeartbeats 16000000 in
theorem i_StartLazyN (A Ac:Option Addr) (c cc:Nat) (g:Sg.Graph) (x:List Int) (w:World) (h:RdN w A g) (hx:Rd w 1 Ac x.length (ints x)) (hG:Sg.validG g=true) (hC:Sg.validC g x=true) :
    Calls Tryz.prog 79 #[.agg #[.slice A g.length c],.slice Ac x.length cc] w fun e w'=>∃ A1 bl bq,e = .returned (.agg #[.slice A1 g.length g.length,.slice (some ⟨bl,0,none⟩) g.length g.length,.slice (some ⟨bq,0,none⟩) g.length g.length]) ∧
      Sep (thL w.heap.size A1 g.length (some ⟨bl,0,none⟩) g.length (some ⟨bq,0,none⟩) g.length g.length (List.replicate g.length (none,0)) (Sg.startL g x)) w'∧Ext w w':=by
  have H:=lh h;have HX:=lh hx;have hgl:=h.1;have hxl:=Sg.length_validC hC;have hxb:x.length≤4194304:=by omega
  have HXL:=lh hxl;have HGC:=lh (show (Sg.validG g && Sg.validC g x)=true by rw [hG,hC];rfl);have HCL:=lh (fun w1 h1=>i_clone Ac x.length cc x w1 h1 hxb);have HCS:=lh (fun k n h=>colsTo_succ g (k:=k) (n:=n) h);have HCN:=lh (fun k h=>colsTo_len g (k:=k) h);have HCA:=lh (colsTo_all g);have EB:=lh (((Ext.rfl' w).al (.cells #[.slice A g.length c] 33)).al (.cells #[.slice none 0 0,.slice none 0 0,.slice none 0 0] 104));have g0:=(Bx.new w #[.slice A g.length c] 33).al (.cells #[.slice none 0 0,.slice none 0 0,.slice none 0 0] 104);have d0:=Bx.new (World.alloc w (.cells #[.slice A g.length c] 33)) #[.slice none 0 0,.slice none 0 0,.slice none 0 0] 104;simp only [World.size_alloc] at d0;have LB1:w.heap.size≤w.heap.size + 1:=by omega
  have SB:=lh (show Sep [Th.box w.heap.size (w.heap.size + 1) [.slice none 0 0,.slice none 0 0,.slice none 0 0],Th.box w.heap.size w.heap.size [.slice A g.length c]] (World.alloc (World.alloc w (.cells #[.slice A g.length c] 33)) (.cells #[.slice none 0 0,.slice none 0 0,.slice none 0 0] 104)) from ⟨⟨d0,LB1⟩,fun s hs b hb=>(by rw [List.mem_singleton.1 hs];intro e9;have e1:b=w.heap.size + 1:=hb;have e2:b=w.heap.size:=e9;omega),⟨⟨g0,Nat.le_refl _⟩,fun s hs=>(by cases hs),trivial⟩⟩);have qg:=g0.cell (j:=0) rfl;clear h hx hC g0 d0 hxl;go_enter Tryz.func79,Tryz.ntmps79;go_upto_region 1 with fail
  generalize World.alloc (World.alloc w (.cells #[.slice A g.length c] 33)) (.cells #[.slice none 0 0,.slice none 0 0,.slice none 0 0] 104)=w0 at *;have bqg:=blt qg;go_wp2_with fail
  refine (i_ValidCells A Ac c cc g x _ (H.out.ext EB.out) (HX.out.ext EB.out)).mono ?_;rintro e w1 ⟨rfl,he1⟩;rw [HGC.out];have HB:=lh (EB.out.tr he1);have q1:=he1.cellE qg;have bq1:=blt q1;have QG:=lh q1;have S1:=lh (Sep.ext SB.out he1);clear he1 SB EB qg bqg HGC;go_upto_region 3 with fail
  go_cut [5] (fun s5 wx=>∃ (bt:Nat) (A1:Option Addr) (bl bq:Nat),s5 = .pointer (some ⟨bt,0,none⟩)∧Hid (Sep (SLThings (B:=w.heap.size) bt bl bq (w.heap.size + 1) A c A1 x g.length (List.replicate g.length 0) (.slice none 0 0) (.slice none 0 0) (.slice none 0 0)) wx)∧Hid (Ext w wx))
  case first =>
    have E0:=lh ((Ext.rfl' w1).dr);have SS:=lh (Sep.ext S1.out E0.out);clear S1;refine zb 10 (fun W=>W.cell? ⟨w.heap.size,0,none⟩=some (.slice A g.length c)) ?_ (fun hHeld=>?_)
    · exact E0.out.cellE QG.out
    refine zy 0 ?_;refine zy 2 ?_;refine zy 5 ?_;refine zr2 1 9 rfl rfl (fun K hK=>?_) (fun K hK=>?_)
    · go_simp;refine (HCL.out _ (HX.out.ext (HB.out.tr E0.out))).mono ?_;rintro e v1 ⟨A1,rfl,hO1,he1⟩;have SS:=lh (slC SS.out he1 hO1 (slW HB.out E0.out));have E1:=lh (E0.out.tr he1);clear he1 hO1;try go_wp2_with fail
      refine hK.out _ _ (fun _=>E1.out.cellE QG.out) (fun hh=>?_);have hHeld:=hh (by decide);clear hK K hh;try simp only [Act.put,pu]
      refine zr2 3 9 rfl rfl (fun K hK=>?_) (fun K hK=>?_)
      · go_simp;refine (i_size A g.length c _).mono ?_;rintro e v2 ⟨rfl,he2⟩;have SS:=lh (Sep.ext SS.out he2);have E2:=lh (E1.out.tr he2);clear he2;try go_wp2_with fail
        refine hK.out _ _ (fun _=>E2.out.cellE QG.out) (fun hh=>?_);have hHeld:=hh (by decide);clear hK K hh;try simp only [Act.put,pu]
        refine zr3 4 6 9 rfl rfl rfl (fun K hK=>?_) (fun K hK=>?_) (fun K hK=>?_)
        · refine held_mkb rfl rfl eiInts (B:=w.heap.size) rfl rfl (by omega) (by omega) (slW HB.out E2.out) ?_;intro bl v3 hnb hmk he3;have SS:=lh (slL SS.out he3 hmk hnb);have E3:=lh (E2.out.tr he3);clear he3 hmk hnb;try simp only [pg]
          refine hK.out _ _ (fun _=>E3.out.cellE QG.out) (fun hh=>?_);have hHeld:=hh (by decide);clear hK K hh;try simp only [Act.put,pu]
          refine zr2 6 9 rfl rfl (fun K hK=>?_) (fun K hK=>?_)
          · go_simp;refine (i_size A g.length c _).mono ?_;rintro e v4 ⟨rfl,he4⟩;have SS:=lh (Sep.ext SS.out he4);have E4:=lh (E3.out.tr he4);clear he4;try go_wp2_with fail
            refine hK.out _ _ (fun _=>E4.out.cellE QG.out) (fun hh=>?_);have hHeld:=hh (by decide);clear hK K hh;try simp only [Act.put,pu]
            refine zr2 7 9 rfl rfl (fun K hK=>?_) (fun K hK=>?_)
            · refine held_mkb rfl rfl eiInt (B:=w.heap.size) rfl rfl (by omega) (by omega) (slW HB.out E4.out) ?_;intro bq v5 hnb hmk he5;have SS:=lh (slQ SS.out he5 hmk hnb);have E5:=lh (E4.out.tr he5);clear he5 hmk hnb;try simp only [pg]
              refine hK.out _ _ (fun _=>E5.out.cellE QG.out) (fun hh=>?_);have hHeld:=hh (by decide);clear hK K hh;try simp only [Act.put,pu]
              refine zy 8 ?_;refine zr 9 rfl fun K hK=>?_;refine held_alZ rfl rfl ?_;intro bt v6 hbt hbx he6;have LBT:w.heap.size≤bt:=by rw [hbt];exact slW HB.out E5.out
              have SS:=lh (slB SS.out he6 hbx LBT hbt);have E6:=lh (E5.out.tr he6);clear he6 hbt hbx;try simp only [pg]
              refine hK.out _ _ (fun _=>E6.out.cellE QG.out) (fun hh=>?_);have hHeld:=hh (by decide);clear hK K hh;try simp only [Act.put,pu]
              refine zr 10 rfl fun K hK=>?_;obtain ⟨r90,r91,r92,f90,f91,f92,l9⟩:=slY SS.out 0 rfl;go_simp;have SS:=lh (slS SS.out 0 rfl (.slice A1 x.length x.length) (.slice (some ⟨bl,0,none⟩) g.length g.length) (.slice (some ⟨bq,0,none⟩) g.length g.length));have E9:=lh (slE (HB.out.tr E6.out) LBT (.slice A1 x.length x.length) (.slice (some ⟨bl,0,none⟩) g.length g.length) (.slice (some ⟨bq,0,none⟩) g.length g.length));refine hK.out _ _ (fun e=>absurd rfl e) (fun hh=>?_);clear hK K hHeld hh;try simp only [Act.put]
              refine zn ?_;go_wp2_with fail
              go_meet
              exact ⟨bt,A1,bl,bq,rfl,lh (Sep.perm SS.out (perm_bqlcrg _ _ _ _ _ _)),E9⟩
            · refine held_alZ rfl rfl ?_;intro bt v5 hbt hbx he5;have LBT:w.heap.size≤bt:=by rw [hbt];exact slW HB.out E4.out
              have SS:=lh (slB SS.out he5 hbx LBT hbt);have E5:=lh (E4.out.tr he5);clear he5 hbt hbx;try simp only [pg]
              refine hK.out _ _ (fun _=>E5.out.cellE QG.out) (fun hh=>?_);have hHeld:=hh (by decide);clear hK K hh;try simp only [Act.put,pu]
              refine zr 7 rfl fun K hK=>?_;refine held_mkb rfl rfl eiInt (B:=w.heap.size) rfl rfl (by omega) (by omega) (slW HB.out E5.out) ?_;intro bq v6 hnb hmk he6;have SS:=lh (slQ SS.out he6 hmk hnb);have E6:=lh (E5.out.tr he6);clear he6 hmk hnb;try simp only [pg]
              refine hK.out _ _ (fun _=>E6.out.cellE QG.out) (fun hh=>?_);have hHeld:=hh (by decide);clear hK K hh;try simp only [Act.put,pu]
              refine zy 8 ?_;refine zr 10 rfl fun K hK=>?_;obtain ⟨r90,r91,r92,f90,f91,f92,l9⟩:=slY SS.out 1 rfl;go_simp;have SS:=lh (slS SS.out 1 rfl (.slice A1 x.length x.length) (.slice (some ⟨bl,0,none⟩) g.length g.length) (.slice (some ⟨bq,0,none⟩) g.length g.length));have E9:=lh (slE (HB.out.tr E6.out) LBT (.slice A1 x.length x.length) (.slice (some ⟨bl,0,none⟩) g.length g.length) (.slice (some ⟨bq,0,none⟩) g.length g.length));refine hK.out _ _ (fun e=>absurd rfl e) (fun hh=>?_);clear hK K hHeld hh;try simp only [Act.put]
              refine zn ?_;go_wp2_with fail
              go_meet
              exact ⟨bt,A1,bl,bq,rfl,lh (Sep.perm SS.out (perm_qblcrg _ _ _ _ _ _)),E9⟩
          · refine held_alZ rfl rfl ?_;intro bt v4 hbt hbx he4;have LBT:w.heap.size≤bt:=by rw [hbt];exact slW HB.out E3.out
            have SS:=lh (slB SS.out he4 hbx LBT hbt);have E4:=lh (E3.out.tr he4);clear he4 hbt hbx;try simp only [pg]
            refine hK.out _ _ (fun _=>E4.out.cellE QG.out) (fun hh=>?_);have hHeld:=hh (by decide);clear hK K hh;try simp only [Act.put,pu]
            refine zr 6 rfl fun K hK=>?_;go_simp;refine (i_size A g.length c _).mono ?_;rintro e v5 ⟨rfl,he5⟩;have SS:=lh (Sep.ext SS.out he5);have E5:=lh (E4.out.tr he5);clear he5;try go_wp2_with fail
            refine hK.out _ _ (fun _=>E5.out.cellE QG.out) (fun hh=>?_);have hHeld:=hh (by decide);clear hK K hh;try simp only [Act.put,pu]
            refine zr 7 rfl fun K hK=>?_;refine held_mkb rfl rfl eiInt (B:=w.heap.size) rfl rfl (by omega) (by omega) (slW HB.out E5.out) ?_;intro bq v6 hnb hmk he6;have SS:=lh (slQ SS.out he6 hmk hnb);have E6:=lh (E5.out.tr he6);clear he6 hmk hnb;try simp only [pg]
            refine hK.out _ _ (fun _=>E6.out.cellE QG.out) (fun hh=>?_);have hHeld:=hh (by decide);clear hK K hh;try simp only [Act.put,pu]
            refine zy 8 ?_;refine zr 10 rfl fun K hK=>?_;obtain ⟨r90,r91,r92,f90,f91,f92,l9⟩:=slY SS.out 1 rfl;go_simp;have SS:=lh (slS SS.out 1 rfl (.slice A1 x.length x.length) (.slice (some ⟨bl,0,none⟩) g.length g.length) (.slice (some ⟨bq,0,none⟩) g.length g.length));have E9:=lh (slE (HB.out.tr E6.out) LBT (.slice A1 x.length x.length) (.slice (some ⟨bl,0,none⟩) g.length g.length) (.slice (some ⟨bq,0,none⟩) g.length g.length));refine hK.out _ _ (fun e=>absurd rfl e) (fun hh=>?_);clear hK K hHeld hh;try simp only [Act.put]
            refine zn ?_;go_wp2_with fail
            go_meet
            exact ⟨bt,A1,bl,bq,rfl,lh (Sep.perm SS.out (perm_qblcrg _ _ _ _ _ _)),E9⟩
        · go_simp;refine (i_size A g.length c _).mono ?_;rintro e v3 ⟨rfl,he3⟩;have SS:=lh (Sep.ext SS.out he3);have E3:=lh (E2.out.tr he3);clear he3;try go_wp2_with fail
          refine hK.out _ _ (fun _=>E3.out.cellE QG.out) (fun hh=>?_);have hHeld:=hh (by decide);clear hK K hh;try simp only [Act.put,pu]
          refine zr3 4 7 9 rfl rfl rfl (fun K hK=>?_) (fun K hK=>?_) (fun K hK=>?_)
          · refine held_mkb rfl rfl eiInts (B:=w.heap.size) rfl rfl (by omega) (by omega) (slW HB.out E3.out) ?_;intro bl v4 hnb hmk he4;have SS:=lh (slL SS.out he4 hmk hnb);have E4:=lh (E3.out.tr he4);clear he4 hmk hnb;try simp only [pg]
            refine hK.out _ _ (fun _=>E4.out.cellE QG.out) (fun hh=>?_);have hHeld:=hh (by decide);clear hK K hh;try simp only [Act.put,pu]
            refine zr2 7 9 rfl rfl (fun K hK=>?_) (fun K hK=>?_)
            · refine held_mkb rfl rfl eiInt (B:=w.heap.size) rfl rfl (by omega) (by omega) (slW HB.out E4.out) ?_;intro bq v5 hnb hmk he5;have SS:=lh (slQ SS.out he5 hmk hnb);have E5:=lh (E4.out.tr he5);clear he5 hmk hnb;try simp only [pg]
              refine hK.out _ _ (fun _=>E5.out.cellE QG.out) (fun hh=>?_);have hHeld:=hh (by decide);clear hK K hh;try simp only [Act.put,pu]
              refine zy 8 ?_;refine zr 9 rfl fun K hK=>?_;refine held_alZ rfl rfl ?_;intro bt v6 hbt hbx he6;have LBT:w.heap.size≤bt:=by rw [hbt];exact slW HB.out E5.out
              have SS:=lh (slB SS.out he6 hbx LBT hbt);have E6:=lh (E5.out.tr he6);clear he6 hbt hbx;try simp only [pg]
              refine hK.out _ _ (fun _=>E6.out.cellE QG.out) (fun hh=>?_);have hHeld:=hh (by decide);clear hK K hh;try simp only [Act.put,pu]
              refine zr 10 rfl fun K hK=>?_;obtain ⟨r90,r91,r92,f90,f91,f92,l9⟩:=slY SS.out 0 rfl;go_simp;have SS:=lh (slS SS.out 0 rfl (.slice A1 x.length x.length) (.slice (some ⟨bl,0,none⟩) g.length g.length) (.slice (some ⟨bq,0,none⟩) g.length g.length));have E9:=lh (slE (HB.out.tr E6.out) LBT (.slice A1 x.length x.length) (.slice (some ⟨bl,0,none⟩) g.length g.length) (.slice (some ⟨bq,0,none⟩) g.length g.length));refine hK.out _ _ (fun e=>absurd rfl e) (fun hh=>?_);clear hK K hHeld hh;try simp only [Act.put]
              refine zn ?_;go_wp2_with fail
              go_meet
              exact ⟨bt,A1,bl,bq,rfl,lh (Sep.perm SS.out (perm_bqlcrg _ _ _ _ _ _)),E9⟩
            · refine held_alZ rfl rfl ?_;intro bt v5 hbt hbx he5;have LBT:w.heap.size≤bt:=by rw [hbt];exact slW HB.out E4.out
              have SS:=lh (slB SS.out he5 hbx LBT hbt);have E5:=lh (E4.out.tr he5);clear he5 hbt hbx;try simp only [pg]
              refine hK.out _ _ (fun _=>E5.out.cellE QG.out) (fun hh=>?_);have hHeld:=hh (by decide);clear hK K hh;try simp only [Act.put,pu]
              refine zr 7 rfl fun K hK=>?_;refine held_mkb rfl rfl eiInt (B:=w.heap.size) rfl rfl (by omega) (by omega) (slW HB.out E5.out) ?_;intro bq v6 hnb hmk he6;have SS:=lh (slQ SS.out he6 hmk hnb);have E6:=lh (E5.out.tr he6);clear he6 hmk hnb;try simp only [pg]
              refine hK.out _ _ (fun _=>E6.out.cellE QG.out) (fun hh=>?_);have hHeld:=hh (by decide);clear hK K hh;try simp only [Act.put,pu]
              refine zy 8 ?_;refine zr 10 rfl fun K hK=>?_;obtain ⟨r90,r91,r92,f90,f91,f92,l9⟩:=slY SS.out 1 rfl;go_simp;have SS:=lh (slS SS.out 1 rfl (.slice A1 x.length x.length) (.slice (some ⟨bl,0,none⟩) g.length g.length) (.slice (some ⟨bq,0,none⟩) g.length g.length));have E9:=lh (slE (HB.out.tr E6.out) LBT (.slice A1 x.length x.length) (.slice (some ⟨bl,0,none⟩) g.length g.length) (.slice (some ⟨bq,0,none⟩) g.length g.length));refine hK.out _ _ (fun e=>absurd rfl e) (fun hh=>?_);clear hK K hHeld hh;try simp only [Act.put]
              refine zn ?_;go_wp2_with fail
              go_meet
              exact ⟨bt,A1,bl,bq,rfl,lh (Sep.perm SS.out (perm_qblcrg _ _ _ _ _ _)),E9⟩
          · refine held_mkb rfl rfl eiInt (B:=w.heap.size) rfl rfl (by omega) (by omega) (slW HB.out E3.out) ?_;intro bq v4 hnb hmk he4;have SS:=lh (slQ SS.out he4 hmk hnb);have E4:=lh (E3.out.tr he4);clear he4 hmk hnb;try simp only [pg]
            refine hK.out _ _ (fun _=>E4.out.cellE QG.out) (fun hh=>?_);have hHeld:=hh (by decide);clear hK K hh;try simp only [Act.put,pu]
            refine zr2 4 9 rfl rfl (fun K hK=>?_) (fun K hK=>?_)
            · refine held_mkb rfl rfl eiInts (B:=w.heap.size) rfl rfl (by omega) (by omega) (slW HB.out E4.out) ?_;intro bl v5 hnb hmk he5;have SS:=lh (slL SS.out he5 hmk hnb);have E5:=lh (E4.out.tr he5);clear he5 hmk hnb;try simp only [pg]
              refine hK.out _ _ (fun _=>E5.out.cellE QG.out) (fun hh=>?_);have hHeld:=hh (by decide);clear hK K hh;try simp only [Act.put,pu]
              refine zy 8 ?_;refine zr 9 rfl fun K hK=>?_;refine held_alZ rfl rfl ?_;intro bt v6 hbt hbx he6;have LBT:w.heap.size≤bt:=by rw [hbt];exact slW HB.out E5.out
              have SS:=lh (slB SS.out he6 hbx LBT hbt);have E6:=lh (E5.out.tr he6);clear he6 hbt hbx;try simp only [pg]
              refine hK.out _ _ (fun _=>E6.out.cellE QG.out) (fun hh=>?_);have hHeld:=hh (by decide);clear hK K hh;try simp only [Act.put,pu]
              refine zr 10 rfl fun K hK=>?_;obtain ⟨r90,r91,r92,f90,f91,f92,l9⟩:=slY SS.out 0 rfl;go_simp;have SS:=lh (slS SS.out 0 rfl (.slice A1 x.length x.length) (.slice (some ⟨bl,0,none⟩) g.length g.length) (.slice (some ⟨bq,0,none⟩) g.length g.length));have E9:=lh (slE (HB.out.tr E6.out) LBT (.slice A1 x.length x.length) (.slice (some ⟨bl,0,none⟩) g.length g.length) (.slice (some ⟨bq,0,none⟩) g.length g.length));refine hK.out _ _ (fun e=>absurd rfl e) (fun hh=>?_);clear hK K hHeld hh;try simp only [Act.put]
              refine zn ?_;go_wp2_with fail
              go_meet
              exact ⟨bt,A1,bl,bq,rfl,lh (Sep.perm SS.out (perm_blqcrg _ _ _ _ _ _)),E9⟩
            · refine held_alZ rfl rfl ?_;intro bt v5 hbt hbx he5;have LBT:w.heap.size≤bt:=by rw [hbt];exact slW HB.out E4.out
              have SS:=lh (slB SS.out he5 hbx LBT hbt);have E5:=lh (E4.out.tr he5);clear he5 hbt hbx;try simp only [pg]
              refine hK.out _ _ (fun _=>E5.out.cellE QG.out) (fun hh=>?_);have hHeld:=hh (by decide);clear hK K hh;try simp only [Act.put,pu]
              refine zr 4 rfl fun K hK=>?_;refine held_mkb rfl rfl eiInts (B:=w.heap.size) rfl rfl (by omega) (by omega) (slW HB.out E5.out) ?_;intro bl v6 hnb hmk he6;have SS:=lh (slL SS.out he6 hmk hnb);have E6:=lh (E5.out.tr he6);clear he6 hmk hnb;try simp only [pg]
              refine hK.out _ _ (fun _=>E6.out.cellE QG.out) (fun hh=>?_);have hHeld:=hh (by decide);clear hK K hh;try simp only [Act.put,pu]
              refine zy 8 ?_;refine zr 10 rfl fun K hK=>?_;obtain ⟨r90,r91,r92,f90,f91,f92,l9⟩:=slY SS.out 1 rfl;go_simp;have SS:=lh (slS SS.out 1 rfl (.slice A1 x.length x.length) (.slice (some ⟨bl,0,none⟩) g.length g.length) (.slice (some ⟨bq,0,none⟩) g.length g.length));have E9:=lh (slE (HB.out.tr E6.out) LBT (.slice A1 x.length x.length) (.slice (some ⟨bl,0,none⟩) g.length g.length) (.slice (some ⟨bq,0,none⟩) g.length g.length));refine hK.out _ _ (fun e=>absurd rfl e) (fun hh=>?_);clear hK K hHeld hh;try simp only [Act.put]
              refine zn ?_;go_wp2_with fail
              go_meet
              exact ⟨bt,A1,bl,bq,rfl,lh (Sep.perm SS.out (perm_lbqcrg _ _ _ _ _ _)),E9⟩
          · refine held_alZ rfl rfl ?_;intro bt v4 hbt hbx he4;have LBT:w.heap.size≤bt:=by rw [hbt];exact slW HB.out E3.out
            have SS:=lh (slB SS.out he4 hbx LBT hbt);have E4:=lh (E3.out.tr he4);clear he4 hbt hbx;try simp only [pg]
            refine hK.out _ _ (fun _=>E4.out.cellE QG.out) (fun hh=>?_);have hHeld:=hh (by decide);clear hK K hh;try simp only [Act.put,pu]
            refine zr2 4 7 rfl rfl (fun K hK=>?_) (fun K hK=>?_)
            · refine held_mkb rfl rfl eiInts (B:=w.heap.size) rfl rfl (by omega) (by omega) (slW HB.out E4.out) ?_;intro bl v5 hnb hmk he5;have SS:=lh (slL SS.out he5 hmk hnb);have E5:=lh (E4.out.tr he5);clear he5 hmk hnb;try simp only [pg]
              refine hK.out _ _ (fun _=>E5.out.cellE QG.out) (fun hh=>?_);have hHeld:=hh (by decide);clear hK K hh;try simp only [Act.put,pu]
              refine zr 7 rfl fun K hK=>?_;refine held_mkb rfl rfl eiInt (B:=w.heap.size) rfl rfl (by omega) (by omega) (slW HB.out E5.out) ?_;intro bq v6 hnb hmk he6;have SS:=lh (slQ SS.out he6 hmk hnb);have E6:=lh (E5.out.tr he6);clear he6 hmk hnb;try simp only [pg]
              refine hK.out _ _ (fun _=>E6.out.cellE QG.out) (fun hh=>?_);have hHeld:=hh (by decide);clear hK K hh;try simp only [Act.put,pu]
              refine zy 8 ?_;refine zr 10 rfl fun K hK=>?_;obtain ⟨r90,r91,r92,f90,f91,f92,l9⟩:=slY SS.out 2 rfl;go_simp;have SS:=lh (slS SS.out 2 rfl (.slice A1 x.length x.length) (.slice (some ⟨bl,0,none⟩) g.length g.length) (.slice (some ⟨bq,0,none⟩) g.length g.length));have E9:=lh (slE (HB.out.tr E6.out) LBT (.slice A1 x.length x.length) (.slice (some ⟨bl,0,none⟩) g.length g.length) (.slice (some ⟨bq,0,none⟩) g.length g.length));refine hK.out _ _ (fun e=>absurd rfl e) (fun hh=>?_);clear hK K hHeld hh;try simp only [Act.put]
              refine zn ?_;go_wp2_with fail
              go_meet
              exact ⟨bt,A1,bl,bq,rfl,lh (Sep.perm SS.out (perm_qlbcrg _ _ _ _ _ _)),E9⟩
            · refine held_mkb rfl rfl eiInt (B:=w.heap.size) rfl rfl (by omega) (by omega) (slW HB.out E4.out) ?_;intro bq v5 hnb hmk he5;have SS:=lh (slQ SS.out he5 hmk hnb);have E5:=lh (E4.out.tr he5);clear he5 hmk hnb;try simp only [pg]
              refine hK.out _ _ (fun _=>E5.out.cellE QG.out) (fun hh=>?_);have hHeld:=hh (by decide);clear hK K hh;try simp only [Act.put,pu]
              refine zr 4 rfl fun K hK=>?_;refine held_mkb rfl rfl eiInts (B:=w.heap.size) rfl rfl (by omega) (by omega) (slW HB.out E5.out) ?_;intro bl v6 hnb hmk he6;have SS:=lh (slL SS.out he6 hmk hnb);have E6:=lh (E5.out.tr he6);clear he6 hmk hnb;try simp only [pg]
              refine hK.out _ _ (fun _=>E6.out.cellE QG.out) (fun hh=>?_);have hHeld:=hh (by decide);clear hK K hh;try simp only [Act.put,pu]
              refine zy 8 ?_;refine zr 10 rfl fun K hK=>?_;obtain ⟨r90,r91,r92,f90,f91,f92,l9⟩:=slY SS.out 2 rfl;go_simp;have SS:=lh (slS SS.out 2 rfl (.slice A1 x.length x.length) (.slice (some ⟨bl,0,none⟩) g.length g.length) (.slice (some ⟨bq,0,none⟩) g.length g.length));have E9:=lh (slE (HB.out.tr E6.out) LBT (.slice A1 x.length x.length) (.slice (some ⟨bl,0,none⟩) g.length g.length) (.slice (some ⟨bq,0,none⟩) g.length g.length));refine hK.out _ _ (fun e=>absurd rfl e) (fun hh=>?_);clear hK K hHeld hh;try simp only [Act.put]
              refine zn ?_;go_wp2_with fail
              go_meet
              exact ⟨bt,A1,bl,bq,rfl,lh (Sep.perm SS.out (perm_lqbcrg _ _ _ _ _ _)),E9⟩
        · refine held_alZ rfl rfl ?_;intro bt v3 hbt hbx he3;have LBT:w.heap.size≤bt:=by rw [hbt];exact slW HB.out E2.out
          have SS:=lh (slB SS.out he3 hbx LBT hbt);have E3:=lh (E2.out.tr he3);clear he3 hbt hbx;try simp only [pg]
          refine hK.out _ _ (fun _=>E3.out.cellE QG.out) (fun hh=>?_);have hHeld:=hh (by decide);clear hK K hh;try simp only [Act.put,pu]
          refine zr2 4 6 rfl rfl (fun K hK=>?_) (fun K hK=>?_)
          · refine held_mkb rfl rfl eiInts (B:=w.heap.size) rfl rfl (by omega) (by omega) (slW HB.out E3.out) ?_;intro bl v4 hnb hmk he4;have SS:=lh (slL SS.out he4 hmk hnb);have E4:=lh (E3.out.tr he4);clear he4 hmk hnb;try simp only [pg]
            refine hK.out _ _ (fun _=>E4.out.cellE QG.out) (fun hh=>?_);have hHeld:=hh (by decide);clear hK K hh;try simp only [Act.put,pu]
            refine zr 6 rfl fun K hK=>?_;go_simp;refine (i_size A g.length c _).mono ?_;rintro e v5 ⟨rfl,he5⟩;have SS:=lh (Sep.ext SS.out he5);have E5:=lh (E4.out.tr he5);clear he5;try go_wp2_with fail
            refine hK.out _ _ (fun _=>E5.out.cellE QG.out) (fun hh=>?_);have hHeld:=hh (by decide);clear hK K hh;try simp only [Act.put,pu]
            refine zr 7 rfl fun K hK=>?_;refine held_mkb rfl rfl eiInt (B:=w.heap.size) rfl rfl (by omega) (by omega) (slW HB.out E5.out) ?_;intro bq v6 hnb hmk he6;have SS:=lh (slQ SS.out he6 hmk hnb);have E6:=lh (E5.out.tr he6);clear he6 hmk hnb;try simp only [pg]
            refine hK.out _ _ (fun _=>E6.out.cellE QG.out) (fun hh=>?_);have hHeld:=hh (by decide);clear hK K hh;try simp only [Act.put,pu]
            refine zy 8 ?_;refine zr 10 rfl fun K hK=>?_;obtain ⟨r90,r91,r92,f90,f91,f92,l9⟩:=slY SS.out 2 rfl;go_simp;have SS:=lh (slS SS.out 2 rfl (.slice A1 x.length x.length) (.slice (some ⟨bl,0,none⟩) g.length g.length) (.slice (some ⟨bq,0,none⟩) g.length g.length));have E9:=lh (slE (HB.out.tr E6.out) LBT (.slice A1 x.length x.length) (.slice (some ⟨bl,0,none⟩) g.length g.length) (.slice (some ⟨bq,0,none⟩) g.length g.length));refine hK.out _ _ (fun e=>absurd rfl e) (fun hh=>?_);clear hK K hHeld hh;try simp only [Act.put]
            refine zn ?_;go_wp2_with fail
            go_meet
            exact ⟨bt,A1,bl,bq,rfl,lh (Sep.perm SS.out (perm_qlbcrg _ _ _ _ _ _)),E9⟩
          · go_simp;refine (i_size A g.length c _).mono ?_;rintro e v4 ⟨rfl,he4⟩;have SS:=lh (Sep.ext SS.out he4);have E4:=lh (E3.out.tr he4);clear he4;try go_wp2_with fail
            refine hK.out _ _ (fun _=>E4.out.cellE QG.out) (fun hh=>?_);have hHeld:=hh (by decide);clear hK K hh;try simp only [Act.put,pu]
            refine zr2 4 7 rfl rfl (fun K hK=>?_) (fun K hK=>?_)
            · refine held_mkb rfl rfl eiInts (B:=w.heap.size) rfl rfl (by omega) (by omega) (slW HB.out E4.out) ?_;intro bl v5 hnb hmk he5;have SS:=lh (slL SS.out he5 hmk hnb);have E5:=lh (E4.out.tr he5);clear he5 hmk hnb;try simp only [pg]
              refine hK.out _ _ (fun _=>E5.out.cellE QG.out) (fun hh=>?_);have hHeld:=hh (by decide);clear hK K hh;try simp only [Act.put,pu]
              refine zr 7 rfl fun K hK=>?_;refine held_mkb rfl rfl eiInt (B:=w.heap.size) rfl rfl (by omega) (by omega) (slW HB.out E5.out) ?_;intro bq v6 hnb hmk he6;have SS:=lh (slQ SS.out he6 hmk hnb);have E6:=lh (E5.out.tr he6);clear he6 hmk hnb;try simp only [pg]
              refine hK.out _ _ (fun _=>E6.out.cellE QG.out) (fun hh=>?_);have hHeld:=hh (by decide);clear hK K hh;try simp only [Act.put,pu]
              refine zy 8 ?_;refine zr 10 rfl fun K hK=>?_;obtain ⟨r90,r91,r92,f90,f91,f92,l9⟩:=slY SS.out 2 rfl;go_simp;have SS:=lh (slS SS.out 2 rfl (.slice A1 x.length x.length) (.slice (some ⟨bl,0,none⟩) g.length g.length) (.slice (some ⟨bq,0,none⟩) g.length g.length));have E9:=lh (slE (HB.out.tr E6.out) LBT (.slice A1 x.length x.length) (.slice (some ⟨bl,0,none⟩) g.length g.length) (.slice (some ⟨bq,0,none⟩) g.length g.length));refine hK.out _ _ (fun e=>absurd rfl e) (fun hh=>?_);clear hK K hHeld hh;try simp only [Act.put]
              refine zn ?_;go_wp2_with fail
              go_meet
              exact ⟨bt,A1,bl,bq,rfl,lh (Sep.perm SS.out (perm_qlbcrg _ _ _ _ _ _)),E9⟩
            · refine held_mkb rfl rfl eiInt (B:=w.heap.size) rfl rfl (by omega) (by omega) (slW HB.out E4.out) ?_;intro bq v5 hnb hmk he5;have SS:=lh (slQ SS.out he5 hmk hnb);have E5:=lh (E4.out.tr he5);clear he5 hmk hnb;try simp only [pg]
              refine hK.out _ _ (fun _=>E5.out.cellE QG.out) (fun hh=>?_);have hHeld:=hh (by decide);clear hK K hh;try simp only [Act.put,pu]
              refine zr 4 rfl fun K hK=>?_;refine held_mkb rfl rfl eiInts (B:=w.heap.size) rfl rfl (by omega) (by omega) (slW HB.out E5.out) ?_;intro bl v6 hnb hmk he6;have SS:=lh (slL SS.out he6 hmk hnb);have E6:=lh (E5.out.tr he6);clear he6 hmk hnb;try simp only [pg]
              refine hK.out _ _ (fun _=>E6.out.cellE QG.out) (fun hh=>?_);have hHeld:=hh (by decide);clear hK K hh;try simp only [Act.put,pu]
              refine zy 8 ?_;refine zr 10 rfl fun K hK=>?_;obtain ⟨r90,r91,r92,f90,f91,f92,l9⟩:=slY SS.out 2 rfl;go_simp;have SS:=lh (slS SS.out 2 rfl (.slice A1 x.length x.length) (.slice (some ⟨bl,0,none⟩) g.length g.length) (.slice (some ⟨bq,0,none⟩) g.length g.length));have E9:=lh (slE (HB.out.tr E6.out) LBT (.slice A1 x.length x.length) (.slice (some ⟨bl,0,none⟩) g.length g.length) (.slice (some ⟨bq,0,none⟩) g.length g.length));refine hK.out _ _ (fun e=>absurd rfl e) (fun hh=>?_);clear hK K hHeld hh;try simp only [Act.put]
              refine zn ?_;go_wp2_with fail
              go_meet
              exact ⟨bt,A1,bl,bq,rfl,lh (Sep.perm SS.out (perm_lqbcrg _ _ _ _ _ _)),E9⟩
      · refine held_alZ rfl rfl ?_;intro bt v2 hbt hbx he2;have LBT:w.heap.size≤bt:=by rw [hbt];exact slW HB.out E1.out
        have SS:=lh (slB SS.out he2 hbx LBT hbt);have E2:=lh (E1.out.tr he2);clear he2 hbt hbx;try simp only [pg]
        refine hK.out _ _ (fun _=>E2.out.cellE QG.out) (fun hh=>?_);have hHeld:=hh (by decide);clear hK K hh;try simp only [Act.put,pu]
        refine zr 3 rfl fun K hK=>?_;go_simp;refine (i_size A g.length c _).mono ?_;rintro e v3 ⟨rfl,he3⟩;have SS:=lh (Sep.ext SS.out he3);have E3:=lh (E2.out.tr he3);clear he3;try go_wp2_with fail
        refine hK.out _ _ (fun _=>E3.out.cellE QG.out) (fun hh=>?_);have hHeld:=hh (by decide);clear hK K hh;try simp only [Act.put,pu]
        refine zr2 4 6 rfl rfl (fun K hK=>?_) (fun K hK=>?_)
        · refine held_mkb rfl rfl eiInts (B:=w.heap.size) rfl rfl (by omega) (by omega) (slW HB.out E3.out) ?_;intro bl v4 hnb hmk he4;have SS:=lh (slL SS.out he4 hmk hnb);have E4:=lh (E3.out.tr he4);clear he4 hmk hnb;try simp only [pg]
          refine hK.out _ _ (fun _=>E4.out.cellE QG.out) (fun hh=>?_);have hHeld:=hh (by decide);clear hK K hh;try simp only [Act.put,pu]
          refine zr 6 rfl fun K hK=>?_;go_simp;refine (i_size A g.length c _).mono ?_;rintro e v5 ⟨rfl,he5⟩;have SS:=lh (Sep.ext SS.out he5);have E5:=lh (E4.out.tr he5);clear he5;try go_wp2_with fail
          refine hK.out _ _ (fun _=>E5.out.cellE QG.out) (fun hh=>?_);have hHeld:=hh (by decide);clear hK K hh;try simp only [Act.put,pu]
          refine zr 7 rfl fun K hK=>?_;refine held_mkb rfl rfl eiInt (B:=w.heap.size) rfl rfl (by omega) (by omega) (slW HB.out E5.out) ?_;intro bq v6 hnb hmk he6;have SS:=lh (slQ SS.out he6 hmk hnb);have E6:=lh (E5.out.tr he6);clear he6 hmk hnb;try simp only [pg]
          refine hK.out _ _ (fun _=>E6.out.cellE QG.out) (fun hh=>?_);have hHeld:=hh (by decide);clear hK K hh;try simp only [Act.put,pu]
          refine zy 8 ?_;refine zr 10 rfl fun K hK=>?_;obtain ⟨r90,r91,r92,f90,f91,f92,l9⟩:=slY SS.out 2 rfl;go_simp;have SS:=lh (slS SS.out 2 rfl (.slice A1 x.length x.length) (.slice (some ⟨bl,0,none⟩) g.length g.length) (.slice (some ⟨bq,0,none⟩) g.length g.length));have E9:=lh (slE (HB.out.tr E6.out) LBT (.slice A1 x.length x.length) (.slice (some ⟨bl,0,none⟩) g.length g.length) (.slice (some ⟨bq,0,none⟩) g.length g.length));refine hK.out _ _ (fun e=>absurd rfl e) (fun hh=>?_);clear hK K hHeld hh;try simp only [Act.put]
          refine zn ?_;go_wp2_with fail
          go_meet
          exact ⟨bt,A1,bl,bq,rfl,lh (Sep.perm SS.out (perm_qlbcrg _ _ _ _ _ _)),E9⟩
        · go_simp;refine (i_size A g.length c _).mono ?_;rintro e v4 ⟨rfl,he4⟩;have SS:=lh (Sep.ext SS.out he4);have E4:=lh (E3.out.tr he4);clear he4;try go_wp2_with fail
          refine hK.out _ _ (fun _=>E4.out.cellE QG.out) (fun hh=>?_);have hHeld:=hh (by decide);clear hK K hh;try simp only [Act.put,pu]
          refine zr2 4 7 rfl rfl (fun K hK=>?_) (fun K hK=>?_)
          · refine held_mkb rfl rfl eiInts (B:=w.heap.size) rfl rfl (by omega) (by omega) (slW HB.out E4.out) ?_;intro bl v5 hnb hmk he5;have SS:=lh (slL SS.out he5 hmk hnb);have E5:=lh (E4.out.tr he5);clear he5 hmk hnb;try simp only [pg]
            refine hK.out _ _ (fun _=>E5.out.cellE QG.out) (fun hh=>?_);have hHeld:=hh (by decide);clear hK K hh;try simp only [Act.put,pu]
            refine zr 7 rfl fun K hK=>?_;refine held_mkb rfl rfl eiInt (B:=w.heap.size) rfl rfl (by omega) (by omega) (slW HB.out E5.out) ?_;intro bq v6 hnb hmk he6;have SS:=lh (slQ SS.out he6 hmk hnb);have E6:=lh (E5.out.tr he6);clear he6 hmk hnb;try simp only [pg]
            refine hK.out _ _ (fun _=>E6.out.cellE QG.out) (fun hh=>?_);have hHeld:=hh (by decide);clear hK K hh;try simp only [Act.put,pu]
            refine zy 8 ?_;refine zr 10 rfl fun K hK=>?_;obtain ⟨r90,r91,r92,f90,f91,f92,l9⟩:=slY SS.out 2 rfl;go_simp;have SS:=lh (slS SS.out 2 rfl (.slice A1 x.length x.length) (.slice (some ⟨bl,0,none⟩) g.length g.length) (.slice (some ⟨bq,0,none⟩) g.length g.length));have E9:=lh (slE (HB.out.tr E6.out) LBT (.slice A1 x.length x.length) (.slice (some ⟨bl,0,none⟩) g.length g.length) (.slice (some ⟨bq,0,none⟩) g.length g.length));refine hK.out _ _ (fun e=>absurd rfl e) (fun hh=>?_);clear hK K hHeld hh;try simp only [Act.put]
            refine zn ?_;go_wp2_with fail
            go_meet
            exact ⟨bt,A1,bl,bq,rfl,lh (Sep.perm SS.out (perm_qlbcrg _ _ _ _ _ _)),E9⟩
          · refine held_mkb rfl rfl eiInt (B:=w.heap.size) rfl rfl (by omega) (by omega) (slW HB.out E4.out) ?_;intro bq v5 hnb hmk he5;have SS:=lh (slQ SS.out he5 hmk hnb);have E5:=lh (E4.out.tr he5);clear he5 hmk hnb;try simp only [pg]
            refine hK.out _ _ (fun _=>E5.out.cellE QG.out) (fun hh=>?_);have hHeld:=hh (by decide);clear hK K hh;try simp only [Act.put,pu]
            refine zr 4 rfl fun K hK=>?_;refine held_mkb rfl rfl eiInts (B:=w.heap.size) rfl rfl (by omega) (by omega) (slW HB.out E5.out) ?_;intro bl v6 hnb hmk he6;have SS:=lh (slL SS.out he6 hmk hnb);have E6:=lh (E5.out.tr he6);clear he6 hmk hnb;try simp only [pg]
            refine hK.out _ _ (fun _=>E6.out.cellE QG.out) (fun hh=>?_);have hHeld:=hh (by decide);clear hK K hh;try simp only [Act.put,pu]
            refine zy 8 ?_;refine zr 10 rfl fun K hK=>?_;obtain ⟨r90,r91,r92,f90,f91,f92,l9⟩:=slY SS.out 2 rfl;go_simp;have SS:=lh (slS SS.out 2 rfl (.slice A1 x.length x.length) (.slice (some ⟨bl,0,none⟩) g.length g.length) (.slice (some ⟨bq,0,none⟩) g.length g.length));have E9:=lh (slE (HB.out.tr E6.out) LBT (.slice A1 x.length x.length) (.slice (some ⟨bl,0,none⟩) g.length g.length) (.slice (some ⟨bq,0,none⟩) g.length g.length));refine hK.out _ _ (fun e=>absurd rfl e) (fun hh=>?_);clear hK K hHeld hh;try simp only [Act.put]
            refine zn ?_;go_wp2_with fail
            go_meet
            exact ⟨bt,A1,bl,bq,rfl,lh (Sep.perm SS.out (perm_lqbcrg _ _ _ _ _ _)),E9⟩
    · refine held_alZ rfl rfl ?_;intro bt v1 hbt hbx he1;have LBT:w.heap.size≤bt:=by rw [hbt];exact slW HB.out E0.out
      have SS:=lh (slB SS.out he1 hbx LBT hbt);have E1:=lh (E0.out.tr he1);clear he1 hbt hbx;try simp only [pg]
      refine hK.out _ _ (fun _=>E1.out.cellE QG.out) (fun hh=>?_);have hHeld:=hh (by decide);clear hK K hh;try simp only [Act.put,pu]
      refine zr 1 rfl fun K hK=>?_;go_simp;refine (HCL.out _ (HX.out.ext (HB.out.tr E1.out))).mono ?_;rintro e v2 ⟨A1,rfl,hO1,he2⟩;have SS:=lh (slC SS.out he2 hO1 (slW HB.out E1.out));have E2:=lh (E1.out.tr he2);clear he2 hO1;try go_wp2_with fail
      refine hK.out _ _ (fun _=>E2.out.cellE QG.out) (fun hh=>?_);have hHeld:=hh (by decide);clear hK K hh;try simp only [Act.put,pu]
      refine zr 3 rfl fun K hK=>?_;go_simp;refine (i_size A g.length c _).mono ?_;rintro e v3 ⟨rfl,he3⟩;have SS:=lh (Sep.ext SS.out he3);have E3:=lh (E2.out.tr he3);clear he3;try go_wp2_with fail
      refine hK.out _ _ (fun _=>E3.out.cellE QG.out) (fun hh=>?_);have hHeld:=hh (by decide);clear hK K hh;try simp only [Act.put,pu]
      refine zr2 4 6 rfl rfl (fun K hK=>?_) (fun K hK=>?_)
      · refine held_mkb rfl rfl eiInts (B:=w.heap.size) rfl rfl (by omega) (by omega) (slW HB.out E3.out) ?_;intro bl v4 hnb hmk he4;have SS:=lh (slL SS.out he4 hmk hnb);have E4:=lh (E3.out.tr he4);clear he4 hmk hnb;try simp only [pg]
        refine hK.out _ _ (fun _=>E4.out.cellE QG.out) (fun hh=>?_);have hHeld:=hh (by decide);clear hK K hh;try simp only [Act.put,pu]
        refine zr 6 rfl fun K hK=>?_;go_simp;refine (i_size A g.length c _).mono ?_;rintro e v5 ⟨rfl,he5⟩;have SS:=lh (Sep.ext SS.out he5);have E5:=lh (E4.out.tr he5);clear he5;try go_wp2_with fail
        refine hK.out _ _ (fun _=>E5.out.cellE QG.out) (fun hh=>?_);have hHeld:=hh (by decide);clear hK K hh;try simp only [Act.put,pu]
        refine zr 7 rfl fun K hK=>?_;refine held_mkb rfl rfl eiInt (B:=w.heap.size) rfl rfl (by omega) (by omega) (slW HB.out E5.out) ?_;intro bq v6 hnb hmk he6;have SS:=lh (slQ SS.out he6 hmk hnb);have E6:=lh (E5.out.tr he6);clear he6 hmk hnb;try simp only [pg]
        refine hK.out _ _ (fun _=>E6.out.cellE QG.out) (fun hh=>?_);have hHeld:=hh (by decide);clear hK K hh;try simp only [Act.put,pu]
        refine zy 8 ?_;refine zr 10 rfl fun K hK=>?_;obtain ⟨r90,r91,r92,f90,f91,f92,l9⟩:=slY SS.out 3 rfl;go_simp;have SS:=lh (slS SS.out 3 rfl (.slice A1 x.length x.length) (.slice (some ⟨bl,0,none⟩) g.length g.length) (.slice (some ⟨bq,0,none⟩) g.length g.length));have E9:=lh (slE (HB.out.tr E6.out) LBT (.slice A1 x.length x.length) (.slice (some ⟨bl,0,none⟩) g.length g.length) (.slice (some ⟨bq,0,none⟩) g.length g.length));refine hK.out _ _ (fun e=>absurd rfl e) (fun hh=>?_);clear hK K hHeld hh;try simp only [Act.put]
        refine zn ?_;go_wp2_with fail
        go_meet
        exact ⟨bt,A1,bl,bq,rfl,lh (Sep.perm SS.out (perm_qlcbrg _ _ _ _ _ _)),E9⟩
      · go_simp;refine (i_size A g.length c _).mono ?_;rintro e v4 ⟨rfl,he4⟩;have SS:=lh (Sep.ext SS.out he4);have E4:=lh (E3.out.tr he4);clear he4;try go_wp2_with fail
        refine hK.out _ _ (fun _=>E4.out.cellE QG.out) (fun hh=>?_);have hHeld:=hh (by decide);clear hK K hh;try simp only [Act.put,pu]
        refine zr2 4 7 rfl rfl (fun K hK=>?_) (fun K hK=>?_)
        · refine held_mkb rfl rfl eiInts (B:=w.heap.size) rfl rfl (by omega) (by omega) (slW HB.out E4.out) ?_;intro bl v5 hnb hmk he5;have SS:=lh (slL SS.out he5 hmk hnb);have E5:=lh (E4.out.tr he5);clear he5 hmk hnb;try simp only [pg]
          refine hK.out _ _ (fun _=>E5.out.cellE QG.out) (fun hh=>?_);have hHeld:=hh (by decide);clear hK K hh;try simp only [Act.put,pu]
          refine zr 7 rfl fun K hK=>?_;refine held_mkb rfl rfl eiInt (B:=w.heap.size) rfl rfl (by omega) (by omega) (slW HB.out E5.out) ?_;intro bq v6 hnb hmk he6;have SS:=lh (slQ SS.out he6 hmk hnb);have E6:=lh (E5.out.tr he6);clear he6 hmk hnb;try simp only [pg]
          refine hK.out _ _ (fun _=>E6.out.cellE QG.out) (fun hh=>?_);have hHeld:=hh (by decide);clear hK K hh;try simp only [Act.put,pu]
          refine zy 8 ?_;refine zr 10 rfl fun K hK=>?_;obtain ⟨r90,r91,r92,f90,f91,f92,l9⟩:=slY SS.out 3 rfl;go_simp;have SS:=lh (slS SS.out 3 rfl (.slice A1 x.length x.length) (.slice (some ⟨bl,0,none⟩) g.length g.length) (.slice (some ⟨bq,0,none⟩) g.length g.length));have E9:=lh (slE (HB.out.tr E6.out) LBT (.slice A1 x.length x.length) (.slice (some ⟨bl,0,none⟩) g.length g.length) (.slice (some ⟨bq,0,none⟩) g.length g.length));refine hK.out _ _ (fun e=>absurd rfl e) (fun hh=>?_);clear hK K hHeld hh;try simp only [Act.put]
          refine zn ?_;go_wp2_with fail
          go_meet
          exact ⟨bt,A1,bl,bq,rfl,lh (Sep.perm SS.out (perm_qlcbrg _ _ _ _ _ _)),E9⟩
        · refine held_mkb rfl rfl eiInt (B:=w.heap.size) rfl rfl (by omega) (by omega) (slW HB.out E4.out) ?_;intro bq v5 hnb hmk he5;have SS:=lh (slQ SS.out he5 hmk hnb);have E5:=lh (E4.out.tr he5);clear he5 hmk hnb;try simp only [pg]
          refine hK.out _ _ (fun _=>E5.out.cellE QG.out) (fun hh=>?_);have hHeld:=hh (by decide);clear hK K hh;try simp only [Act.put,pu]
          refine zr 4 rfl fun K hK=>?_;refine held_mkb rfl rfl eiInts (B:=w.heap.size) rfl rfl (by omega) (by omega) (slW HB.out E5.out) ?_;intro bl v6 hnb hmk he6;have SS:=lh (slL SS.out he6 hmk hnb);have E6:=lh (E5.out.tr he6);clear he6 hmk hnb;try simp only [pg]
          refine hK.out _ _ (fun _=>E6.out.cellE QG.out) (fun hh=>?_);have hHeld:=hh (by decide);clear hK K hh;try simp only [Act.put,pu]
          refine zy 8 ?_;refine zr 10 rfl fun K hK=>?_;obtain ⟨r90,r91,r92,f90,f91,f92,l9⟩:=slY SS.out 3 rfl;go_simp;have SS:=lh (slS SS.out 3 rfl (.slice A1 x.length x.length) (.slice (some ⟨bl,0,none⟩) g.length g.length) (.slice (some ⟨bq,0,none⟩) g.length g.length));have E9:=lh (slE (HB.out.tr E6.out) LBT (.slice A1 x.length x.length) (.slice (some ⟨bl,0,none⟩) g.length g.length) (.slice (some ⟨bq,0,none⟩) g.length g.length));refine hK.out _ _ (fun e=>absurd rfl e) (fun hh=>?_);clear hK K hHeld hh;try simp only [Act.put]
          refine zn ?_;go_wp2_with fail
          go_meet
          exact ⟨bt,A1,bl,bq,rfl,lh (Sep.perm SS.out (perm_lqcbrg _ _ _ _ _ _)),E9⟩
  case rest =>
    obtain ⟨bt,A1,bl,bq,rfl,hS,hE⟩:=hcut;obtain ⟨w5,rfl⟩:∃ W:World,W=wc:=⟨_,rfl⟩;clear S1 q1 bq1 QG HCL;have HC0:=lh (show List.replicate g.length 0=colsTo g 0 by unfold colsTo;simp);rw [HC0.out] at hS;go_upto_region 4 with fail
    have qg:w5.cell? ⟨w.heap.size,0,none⟩=some (.slice A g.length c):=((Sep.get hS.out 5 rfl:Bx _ _ _∧_).1).cell (j:=0) rfl;have bqg:=blt qg;go_wp2_with fail
    go_loopw [24] (fun i wr=>∃ k:Nat,k≤g.length∧i = .int .i64 k∧Hid (Ext w wr)∧Hid (Sep (SLThings (B:=w.heap.size) bt bl bq (w.heap.size + 1) A c A1 x g.length (colsTo g k) (.slice none 0 0) (.slice none 0 0) (.slice none 0 0)) wr)) (fun i _=>g.length - (intOf i).toNat)
    case atStart=>exact ⟨0,Nat.zero_le _,rfl,hE,hS⟩
    case round =>
      clear hS hE qg bqg;obtain ⟨k,hk,rfl,hX,hSS⟩:=hrel;have qg:wr.cell? ⟨w.heap.size,0,none⟩=some (.slice A g.length c):=((Sep.get hSS.out 5 rfl:Bx _ _ _∧_).1).cell (j:=0) rfl;have bqg:=blt qg;by_cases hlt:k<g.length
      · obtain ⟨n,hn⟩:∃ n,g[k]? = some n:=⟨_,List.getElem?_eq_getElem hlt⟩;have HN:=lh (HCS.out k n hn);have HIC:=lh (fun w1 h1=>i_cell A c g k n w1 h1 hn);have hkx:(k:Int)<(g.length:Int):=by omega
        clear hn;go_wp2_with fail
        refine (HIC.out _ (H.out.ext hX.out)).mono ?_;rintro e w6 ⟨rfl,he6⟩;have S6:=lh (Sep.ext hSS.out he6);have X6:=lh (hX.out.tr he6);have hN:Own w6 w.heap.size 3 1 (some ⟨bq,0,none⟩) g.length g.length (ints (colsTo g k)):=Sep.get S6.out 2 rfl;obtain ⟨u,hu⟩:∃ u,(ints (colsTo g k))[k]? = some u:=⟨_,List.getElem?_eq_getElem (by rw [hN.1];omega)⟩;have r0:=hN.cell hu;have f0:=hN.free k;have ltn:=hN.lt (g:=bq) rfl;have bt2:w6.cell? ⟨bt,2,none⟩=some (.slice (some ⟨bq,0,none⟩) g.length g.length):=((Sep.get S6.out 3 rfl:Bx _ _ _∧_).1).cell (j:=2) rfl;have bbt:=blt bt2;by_cases h0:n.kind=0
        · have z0:decide (n.kind=0)=true:=by simp [h0]
          have HN2:=lh (show colsTo g (k + 1)=colsTo g k by rw [HN.out,if_pos h0]);rw [z0];clear z0 h0 hN hu he6;go_wp2;go_roundw
          case rel=>exact ⟨k + 1,by omega,by go_num,X6,by rw [HN2.out];exact S6⟩
          case measure=>simp [intOf];omega
        · have z0:decide (n.kind=0)=false:=by simp [h0]
          have HN2:=lh (show colsTo g (k + 1)=(colsTo g k).set k 2 by rw [HN.out,if_neg h0]);have S7:=lh (Sep.st S6.out 2 rfl ⟨bq,k,none⟩ (.int .i64 2) rfl (Th.own w.heap.size 3 1 (some ⟨bq,0,none⟩) g.length g.length (ints (colsTo g (k + 1)))) (by have h9:=hN.st k (.int .i64 2);rw [ints_set,← HN2.out] at h9;exact h9) (fun _ e=>e));have X7:=lh (X6.out.set (p:=⟨bq,k,none⟩) ltn.1 (.int .i64 2));rw [z0];clear z0 h0 hN hu he6;go_wp2;go_roundw
          case rel=>exact ⟨k + 1,by omega,by go_num,X7,S7⟩
          case measure=>simp [intOf];omega
      · obtain rfl:k=g.length:=by omega
        obtain ⟨w8,rfl⟩:∃ W:World,W=wr:=⟨_,rfl⟩;have hsx:=hSS.out;rw [HCA.out] at hsx;have y3:Bx w8 bt [.slice A1 x.length x.length,.slice (some ⟨bl,0,none⟩) g.length g.length,.slice (some ⟨bq,0,none⟩) g.length g.length]:=(Sep.get hsx 3 rfl:Bx _ _ _∧_).1;have y4:Bx w8 (w.heap.size + 1) [.slice none 0 0,.slice none 0 0,.slice none 0 0]:=(Sep.get hsx 4 rfl:Bx _ _ _∧_).1;have Y4:=lh y4;have x0:=y3.cell (j:=0) rfl;have x1:=y3.cell (j:=1) rfl;have x2:=y3.cell (j:=2) rfl;have bx:=y3.lt;have d0:=y4.cell (j:=0) rfl;have d1:=y4.cell (j:=1) rfl;have d2:=y4.cell (j:=2) rfl;have f0:=y4.free 0;have f1:=y4.free 1;have f2:=y4.free 2;have bl4:=y4.lt;have r0:=(y4.set3 (.slice A1 x.length x.length) (.slice (some ⟨bl,0,none⟩) g.length g.length) (.slice (some ⟨bq,0,none⟩) g.length g.length)).cell (j:=0) rfl;have r1:=(y4.set3 (.slice A1 x.length x.length) (.slice (some ⟨bl,0,none⟩) g.length g.length) (.slice (some ⟨bq,0,none⟩) g.length g.length)).cell (j:=1) rfl;have r2:=(y4.set3 (.slice A1 x.length x.length) (.slice (some ⟨bl,0,none⟩) g.length g.length) (.slice (some ⟨bq,0,none⟩) g.length g.length)).cell (j:=2) rfl;have S9:=lh (Sep.set hsx 4 rfl (Mod.set3 w8 (w.heap.size + 1) (.slice A1 x.length x.length) (.slice (some ⟨bl,0,none⟩) g.length g.length) (.slice (some ⟨bq,0,none⟩) g.length g.length)) (Th.box w.heap.size (w.heap.size + 1) [.slice A1 x.length x.length,.slice (some ⟨bl,0,none⟩) g.length g.length,.slice (some ⟨bq,0,none⟩) g.length g.length]) (fun b e=>.inl e) ⟨Y4.out.set3 _ _ _,LB1⟩ (fun b e=>.inl e));have X9:=lh (Ext.md hX.out (Mod.set3 w8 (w.heap.size + 1) (.slice A1 x.length x.length) (.slice (some ⟨bl,0,none⟩) g.length g.length) (.slice (some ⟨bq,0,none⟩) g.length g.length)) (fun b e=>by rw [e];exact LB1));clear hsx hSS hX y3 y4;go_wp2;(try simp only [Exit.inBlock,Exit.then])
        refine bodyPost_ret (v := .agg #[.slice A1 x.length x.length,.slice (some ⟨bl,0,none⟩) g.length g.length,.slice (some ⟨bq,0,none⟩) g.length g.length]) (by simp [results,Tryz.results79,go_sem,r0,r1,r2];try rfl) rfl ?_;refine ⟨A1,bl,bq,by rw [HXL.out],?_,X9.out⟩;have h9:=S9.out;unfold SLThings at h9;simp only [List.set_cons_succ,List.set_cons_zero] at h9;rw [HXL.out] at h9 ⊢;exact h9.sub (List.sublist_append_left (thL w.heap.size A1 g.length (some ⟨bl,0,none⟩) g.length (some ⟨bq,0,none⟩) g.length g.length (List.replicate g.length (none,0)) (Sg.startL g x)) [_,_,_])
end Go.Proofs.YtgojnefiephafaaGreat
namespace Sg
noncomputable def readFl (g:Graph) (nodes:List Int) (s:Lazy × List Show × Int):Lazy × List Show × Int :=
  ((readsL g nodes ⟨s.1,[]⟩).st,s.2.1++showL (common nodes (readsL g nodes ⟨s.1,[]⟩).ran) (readsL g nodes ⟨s.1,[]⟩).st.vals,s.2.2 + ((readsL g nodes ⟨s.1,[]⟩).ran.length:Int))
end Sg
namespace Go.Proofs.YtgojnefiephafaaGreat
open Go.RowKit
def LT {B:Nat} (A:Option Addr) (c:Nat) (g:Sg.Graph) (bt bg br bo:Nat) (Av Ar Aq:Option Addr) (hs:List (Option Addr × Nat)) (Ao:Option Addr) (co:Nat) (s:Sg.Lazy × List Sg.Show × Int):List (Th B) :=
  [Th.own B 3 1 Av g.length g.length (ints s.1.vals),Th.ownL B Ar g.length s.1.reads hs,Th.own B 3 1 Aq g.length g.length (ints s.1.cols),
   Th.box B bt [.slice Av g.length g.length,.slice Ar g.length g.length,.slice Aq g.length g.length],Th.box B bg [.slice A g.length c],Th.box B br [.int .i64 s.2.2],Th.box B bo [.slice Ao s.2.1.length co],Th.own B 56 2 Ao s.2.1.length co (shs s.2.1)]
def LM {B:Nat} (A:Option Addr) (c:Nat) (g:Sg.Graph) (Br bt bg br bo:Nat) (Av Ar Aq:Option Addr) (hs:List (Option Addr × Nat)) (A9:Option Addr) (c9:Nat) (Ao:Option Addr) (co:Nat) (t:Sg.LR) (q:List Sg.Show) (runs:Int):List (Th B) :=
  [Th.own B 3 1 Av g.length g.length (ints t.st.vals),Th.ownL B Ar g.length t.st.reads hs,Th.own B 3 1 Aq g.length g.length (ints t.st.cols),Th.box B Br [.slice A9 t.ran.length c9],Th.own B 3 1 A9 t.ran.length c9 (ints t.ran),
   Th.box B bt [.slice Av g.length g.length,.slice Ar g.length g.length,.slice Aq g.length g.length],Th.box B bg [.slice A g.length c],Th.box B br [.int .i64 runs],Th.box B bo [.slice Ao q.length co],Th.own B 56 2 Ao q.length co (shs q)]
theorem perm_rm {α:Type _} (b r x y z:α) (l:List α):(r :: b :: x :: y :: z :: l).Perm (x :: y :: z :: b :: r :: l):=by
  have h1:(r :: b :: x :: y :: z :: l).Perm (x :: r :: b :: y :: z :: l):=List.perm_middle (l₁:=[r,b]) (l₂:=y :: z :: l) (a:=x);have h2:(r :: b :: y :: z :: l).Perm (y :: r :: b :: z :: l):=List.perm_middle (l₁:=[r,b]) (l₂:=z :: l) (a:=y);have h3:(r :: b :: z :: l).Perm (z :: r :: b :: l):=List.perm_middle (l₁:=[r,b]) (l₂:=l) (a:=z);exact h1.trans ((h2.trans ((h3.trans ((List.Perm.swap b r l).cons z)).cons y)).cons x)
theorem Sep.pickR {B:Nat} {x y z b r:Th B} {l:List (Th B)} {W:World} (h:Sep (x :: y :: z :: b :: r :: l) W):Sep (x :: y :: z :: l) W :=
  h.sub ((((((List.Sublist.refl l).cons r).cons b).cons_cons z).cons_cons y).cons_cons x)
set_option maxRecDepth 100000 in
set_option maxHeartbeats 16000000 in
theorem i_readL (a:World) (A:Option Addr) (c:Nat) (g:Sg.Graph) (bt bg br bo:Nat) (Av Ar Aq:Option Addr) (hs:List (Option Addr × Nat)) (Ao:Option Addr) (co:Nat) (s:Sg.Lazy × List Sg.Show × Int) (An:Option Addr) (cn nn:Nat) (nodes:List Int) (rs:List (Th a.heap.size)) (W:World)
    (hA:RdN a A g) (hG:Sg.validG g=true) (hE:Ext a W) (hS:Sep (LT A c g bt bg br bo Av Ar Aq hs Ao co s++(Th.own a.heap.size 3 1 An nn cn (ints nodes) :: rs)) W) (hnn:nodes.length=nn)
    (hV:Sg.validL g s.1=true) (hn:∀ z ∈ nodes,∃ k:Nat,z=k∧k<g.length) (hnl:nn≤10) (hq:s.2.1.length≤40000) (h0:0≤s.2.2) (h1:s.2.2≤40000) :
    Calls Tryz.prog 80 #[.slice An nn cn,.pointer (some ⟨bt,0,none⟩),.pointer (some ⟨bg,0,none⟩),.pointer (some ⟨br,0,none⟩),.pointer (some ⟨bo,0,none⟩)] W fun e w' =>
      e = .returned (.tuple #[])∧Ext a w'∧∃ hs' Ao' co',Sep (LT A c g bt bg br bo Av Ar Aq hs' Ao' co' (Sg.readFl g nodes s)++rs) w':=by
  subst hnn;obtain ⟨st,q,runs⟩:=s;dsimp only at *;have HV:=lh hV;have HG:=lh hG;have hg10:=validG_len hG
  have hin:∀ z ∈ nodes,Sg.inR z 0 ((g.length:Int) - 1)=true:=fun z hz=>by
    obtain ⟨k,rfl,hk⟩:=hn z hz;unfold Sg.inR;simp only [Bool.and_eq_true,decide_eq_true_eq];omega
  have HC:=lh (fun k=>Sg.readsL_cleaned (s:=⟨st,[]⟩) hV (nodes.take k) fun z hz=>hin z (List.mem_of_mem_take hz));have HL:=lh (fun k=>show (Sg.readsL g (nodes.take k) ⟨st,[]⟩).ran.length≤g.length from by have:=(HC.out k).ran_len;simpa using this);have HSN:=lh (fun k z (h:nodes[k]? = some z)=>show Sg.readsL g (nodes.take (k + 1)) ⟨st,[]⟩=Sg.cleanS g 10 z (Sg.readsL g (nodes.take k) ⟨st,[]⟩) from by rw [take_snoc _ k h,Sg.readsL_snoc]);have HTA:=lh (show nodes.take nodes.length=nodes from List.take_length);have HN:=lh hn;have HRF:=lh (show Sg.readFl g nodes (st,q,runs)=((Sg.readsL g (nodes.take nodes.length) ⟨st,[]⟩).st,q++Sg.showL (Sg.common nodes (Sg.readsL g (nodes.take nodes.length) ⟨st,[]⟩).ran) (Sg.readsL g (nodes.take nodes.length) ⟨st,[]⟩).st.vals,runs + ((Sg.readsL g (nodes.take nodes.length) ⟨st,[]⟩).ran.length:Int)) from by rw [HTA.out];rfl);have HR0:=lh (show Sg.readsL g (nodes.take 0) ⟨st,[]⟩=⟨st,[]⟩ from rfl);have HSH:=lh (fun k=>show Sg.validL g (Sg.readsL g (nodes.take k) ⟨st,[]⟩).st=true from (HC.out k).ok);have HNL:=lh hnl;have HQL:=lh hq;have E0:=(Ext.rfl' W).al (.cells #[.slice none 0 0] 25);have hsz:=hE.size;have S1:=lh (Sep.add (Sep.add hS E0 (Th.box a.heap.size W.heap.size [.slice none 0 0]) ⟨Bx.new W #[.slice none 0 0] 25,hsz⟩ (fun b e=>by have e2:b=W.heap.size:=e;omega)) (Ext.rfl' _) (Th.own a.heap.size 3 1 none 0 0 []) (Own.nil _ _ _ _) (fun b e=>by cases e) |>.perm (perm_rm _ _ _ _ _ _));have E1:=lh (hE.tr E0);clear hS hE E0 hn hin hV;obtain ⟨R,hR⟩:∃ R:Nat→Sg.LR,∀ k,R k=Sg.readsL g (nodes.take k) ⟨st,[]⟩:=⟨_,fun _=>rfl⟩;simp only [← hR] at HC HL HSN HRF HR0 HSH;clear hR;go_enter Tryz.func80,Tryz.ntmps80;go_upto_region 1 with fail
  generalize World.alloc W (.cells #[.slice none 0 0] 25)=w0 at *;generalize W.heap.size=Br at *;go_wp2_with fail
  go_loopw [11] (fun i wr=>∃ (k:Nat) (hs':List (Option Addr × Nat)) (A9:Option Addr) (c9:Nat),k≤nodes.length∧i = .int .i64 k∧Hid (Ext a wr)∧Hid (Sep (LM A c g Br bt bg br bo Av Ar Aq hs' A9 c9 Ao co (R k) q runs++(Th.own a.heap.size 3 1 An nodes.length cn (ints nodes) :: rs)) wr)) (fun i _=>nodes.length - (intOf i).toNat)
  case atStart=>exact ⟨0,hs,none,0,Nat.zero_le _,rfl,E1,lh (by rw [HR0.out];exact S1.out)⟩
  case round =>
    clear S1 E1;obtain ⟨k,hs',A9,c9,hk,rfl,hX,hSS⟩:=hrel;have y0:wr.cell? ⟨bt,0,none⟩=some (.slice Av g.length g.length):=((Sep.get hSS.out 5 rfl:Bx _ _ _∧_).1).cell (j:=0) rfl;have y1:wr.cell? ⟨bt,1,none⟩=some (.slice Ar g.length g.length):=((Sep.get hSS.out 5 rfl:Bx _ _ _∧_).1).cell (j:=1) rfl;have y2:wr.cell? ⟨bt,2,none⟩=some (.slice Aq g.length g.length):=((Sep.get hSS.out 5 rfl:Bx _ _ _∧_).1).cell (j:=2) rfl;have y3:wr.cell? ⟨bg,0,none⟩=some (.slice A g.length c):=((Sep.get hSS.out 6 rfl:Bx _ _ _∧_).1).cell (j:=0) rfl;have b0:=blt y0;have b3:=blt y3;by_cases hlt:k<nodes.length
    · have hNo:Own wr a.heap.size 3 1 An nodes.length cn (ints nodes):=Sep.get hSS.out 10 rfl;obtain ⟨bn,on,z,rfl,hz,hcz⟩:=hNo.rd.at1 hlt;have hs1:=HSN.out k z hz;obtain ⟨j,rfl,hj⟩:=HN.out z (List.mem_of_getElem? hz);have HS1:=lh hs1;have bz:=blt hcz;have hkx:(k:Int)<(nodes.length:Int):=by omega
      have hO0:Own wr a.heap.size 3 1 Av g.length g.length (ints (R k).st.vals):=Sep.get hSS.out 0 rfl;have hO1:OwnL wr a.heap.size Ar g.length (R k).st.reads hs':=Sep.get hSS.out 1 rfl;have hO2:Own wr a.heap.size 3 1 Aq g.length g.length (ints (R k).st.cols):=Sep.get hSS.out 2 rfl;obtain ⟨gv,rfl,-⟩:=hO0.bn (by omega);obtain ⟨gq,rfl,-⟩:=hO2.bn (by omega);have hrl:=(Sg.validL_shape (HSH.out k)).2.2.1
      obtain ⟨gr,rfl⟩:∃ gr,Ar=some ⟨gr,0,none⟩:=by
        obtain ⟨gr,e,-⟩:=hO1.out.at_ (by simp [listIts];omega);exact ⟨gr,e⟩
      have HCL:=lh (i_cleanS a A c gv gr gq g.length g.length g.length Br j g (R k) hs' A9 c9 ([Th.box a.heap.size bt [.slice (some ⟨gv,0,none⟩) g.length g.length,.slice (some ⟨gr,0,none⟩) g.length g.length,.slice (some ⟨gq,0,none⟩) g.length g.length],Th.box a.heap.size bg [.slice A g.length c],Th.box a.heap.size br [.int .i64 runs],Th.box a.heap.size bo [.slice Ao q.length co],Th.own a.heap.size 56 2 Ao q.length co (shs q)]++(Th.own a.heap.size 3 1 (some ⟨bn,on,none⟩) nodes.length cn (ints nodes) :: rs)) wr hA HG.out hX.out hSS.out (HSH.out k) hrl hj (by have:=HL.out k;omega));clear hNo hs1 hz hO0 hO1 hO2 hrl hSS hX;go_wp2_with fail
      refine HCL.out.mono ?_;rintro e w2 ⟨rfl,he2,hs2,A8,c8,hS2⟩;have X2:=lh he2;have S2:=lh hS2;clear he2 hS2 HCL y0 y1 y2 y3 b0 b3 hcz bz;go_wp2;go_roundw
      case rel=>exact ⟨k + 1,hs2,A8,c8,by omega,by go_num,X2,lh (by rw [HS1.out];exact S2.out)⟩
      case measure=>simp [intOf];omega
    · obtain rfl:k=nodes.length:=by omega
      obtain ⟨w5,rfl⟩:∃ W:World,W=wr:=⟨_,rfl⟩;have hrl:=HL.out nodes.length;have hov:(R nodes.length).st.vals.length=g.length:=(Sg.validL_shape (HSH.out nodes.length)).2.1;generalize R nodes.length=T at *;obtain ⟨tt,ran⟩:=T;dsimp only at *;have yb:Bx w5 br [.int .i64 runs]:=(Sep.get hSS.out 7 rfl:Bx _ _ _∧_).1;have hbr:a.heap.size≤br:=(Sep.get hSS.out 7 rfl:Bx _ _ _∧_).2;have yr:w5.cell? ⟨Br,0,none⟩=some (.slice A9 ran.length c9):=((Sep.get hSS.out 3 rfl:Bx _ _ _∧_).1).cell (j:=0) rfl;have byr:=blt yr;have x5:=yb.cell (j:=0) rfl;have f5:=yb.free 0;have b5:=yb.lt;have YB:=lh yb;have iw:IntKind.i64.wrap (runs + (ran.length:Int))=runs + (ran.length:Int):=IntWalk.i64_in _ (by omega);clear yb y0 y1 y2 y3 b0 b3;go_upto_region 7 with fail
      have S4:=lh (Sep.st hSS.out 7 rfl ⟨br,0,none⟩ (.int .i64 (runs + (ran.length:Int))) rfl (Th.box a.heap.size br [.int .i64 (runs + (ran.length:Int))]) ⟨YB.out.set 0 _,hbr⟩ (fun _ e=>e));have E4:=lh (hX.out.set (p:=⟨br,0,none⟩) hbr (.int .i64 (runs + (ran.length:Int))));clear x5 f5 b5 YB hSS hX yr byr;generalize World.setCell w5 ⟨br,0,none⟩ (.int .i64 (runs + (ran.length:Int)))=w4 at *;have xo:w4.cell? ⟨bo,0,none⟩=some (.slice Ao q.length co):=((Sep.get S4.out 8 rfl:Bx _ _ _∧_).1).cell (j:=0) rfl;have xr:w4.cell? ⟨Br,0,none⟩=some (.slice A9 ran.length c9):=((Sep.get S4.out 3 rfl:Bx _ _ _∧_).1).cell (j:=0) rfl;have xs:w4.cell? ⟨bt,0,none⟩=some (.slice Av g.length g.length):=((Sep.get S4.out 5 rfl:Bx _ _ _∧_).1).cell (j:=0) rfl;have XO:=lh xo;have XR:=lh xr;have XS:=lh xs;have bo0:=blt xo;have br0:=blt xr;have bs0:=blt xs;have RV:=lh ((Sep.get S4.out 0 rfl:Own _ _ _ _ _ _ _ _).rd);have RN:=lh ((Sep.get S4.out 10 rfl:Own _ _ _ _ _ _ _ _).rd);have RR:=lh ((Sep.get S4.out 4 rfl:Own _ _ _ _ _ _ _ _).rd);have HOV:=lh hov;have HRL:=lh hrl;have E0:=lh ((Ext.rfl' w4).dr);have E4w:=lh E4.out.size;clear hov hrl;go_wp2_with fail
      refine zb 8 (fun W=>W.cell? ⟨bo,0,none⟩=some (.slice Ao q.length co)∧W.cell? ⟨Br,0,none⟩=some (.slice A9 ran.length c9)∧W.cell? ⟨bt,0,none⟩=some (.slice Av g.length g.length)) ?_ (fun hHeld=>?_)
      · exact ⟨E0.out.cellE XO.out,E0.out.cellE XR.out,E0.out.cellE XS.out⟩
      refine zy 0 ?_;refine zy 1 ?_;refine zy 2 ?_;refine zy 4 ?_;refine zy 5 ?_;refine zr 3 rfl fun K hK=>?_;go_simp;refine (i_common An A9 cn c9 nodes ran _ (RN.out.ext E0.out) (RR.out.ext E0.out) (by have:=HNL.out;omega)).mono ?_;rintro e v1 ⟨A3,c3,rfl,hO3,he1⟩;have E1:=lh (E0.out.tr he1);have O3:=lh hO3;clear he1 hO3;try go_wp2_with fail
      refine hK.out _ _ (fun _=>⟨E1.out.cellE XO.out,E1.out.cellE XR.out,E1.out.cellE XS.out⟩) (fun hh=>?_);have hHeld:=hh (by decide);clear hK K hh;try simp only [Act.put,pu]
      refine zr 6 rfl fun K hK=>?_;go_simp;refine (i_showsN A3 Av c3 g.length _ g.length (Sg.common nodes ran) tt.vals _ rfl HOV.out O3.out.rd (RV.out.ext E1.out) (fun z hz=>by obtain ⟨k,rfl,hk⟩:=HN.out z (by unfold Sg.common at hz;exact (List.mem_filter.1 hz).1);omega) (Nat.le_trans (common_len _ _) (by have:=HNL.out;omega))).mono ?_;rintro e v2 ⟨A5,c5,rfl,hO5,he2⟩;have E2:=lh (E1.out.tr he2);have O5:=lh hO5;clear he2 hO5;have S5:=lh (Sep.ext S4.out E2.out);have L5:=lh (show (Sg.showL (Sg.common nodes ran) tt.vals).length≤1000 from by rw [Sg.showL_len];exact Nat.le_trans (common_len _ _) (by have:=HNL.out;omega));generalize Sg.showL (Sg.common nodes ran) tt.vals=sh at *;try go_wp2_with fail
      refine hK.out _ _ (fun _=>⟨E2.out.cellE XO.out,E2.out.cellE XR.out,E2.out.cellE XS.out⟩) (fun hh=>?_);have hHeld:=hh (by decide);clear hK K hh;try simp only [Act.put,pu]
      refine zr 7 rfl fun K hK=>?_;have HOW:Own v2 a.heap.size 56 2 Ao q.length co (shs q):=Sep.get S5.out 9 rfl;refine held_appR rfl rfl eiShow rfl HOW rfl O5.out.rd (one_shs sh) (by have:=HQL.out;have:=L5.out;unfold maxLen;omega) (by have:=HQL.out;have:=L5.out;omega) (by have:=E2.out.size;have:=E4w.out;omega) ?_;intro A6 c6 v6 ho6 hg6 hat6;have S6:=lh (Sep.app S5.out 9 rfl (n':=q.length + sh.length) (xs':=shs q++shs sh) ho6 hg6 (hat6.imp id fun e=>⟨_,e,Nat.le_refl _⟩));have E6:=lh ((E4.out.tr E2.out).gr hg6 (fun z hz=>(HOW.lt hz).1));have y6:Bx v6 bo [.slice Ao q.length co]:=((Sep.get S6.out 8 rfl:Bx _ _ _∧_).1);have YR:=lh (((Sep.get S6.out 3 rfl:Bx _ _ _∧_).1).cell (j:=0) rfl:v6.cell? ⟨Br,0,none⟩=some (.slice A9 ran.length c9));have YS:=lh (((Sep.get S6.out 5 rfl:Bx _ _ _∧_).1).cell (j:=0) rfl:v6.cell? ⟨bt,0,none⟩=some (.slice Av g.length g.length));have r6:=y6.cell (j:=0) rfl;have f6:=y6.free 0;have R6:=lh r6;have Y6:=lh y6;clear ho6 hg6 hat6 HOW y6;try simp only [pg]
      refine hK.out _ _ (fun _=>⟨R6.out,YR.out,YS.out⟩) (fun hh=>?_);have hHeld:=hh (by decide);clear hK K hh;try simp only [Act.put,pu]
      refine zr 8 rfl fun K hK=>?_;have l6:=Y6.out.lt;go_simp;have S7:=lh (Sep.st S6.out 8 rfl ⟨bo,0,none⟩ (.slice A6 (q.length + sh.length) c6) rfl (Th.box a.heap.size bo [.slice A6 (q.length + sh.length) c6]) ⟨Y6.out.set 0 _,(Sep.get S6.out 8 rfl:Bx _ _ _∧_).2⟩ (fun _ e=>e));have E7:=lh (E6.out.set (p:=⟨bo,0,none⟩) (Sep.get S6.out 8 rfl:Bx _ _ _∧_).2 (.slice A6 (q.length + sh.length) c6));refine hK.out _ _ (fun e=>absurd rfl e) (fun hh=>?_);clear hK K hHeld hh;try simp only [Act.put]
      refine zn ?_;go_wp2;go_end0;refine ⟨rfl,E7.out,hs',A6,c6,?_⟩;rw [HRF.out];unfold LT;dsimp only;rw [List.length_append,← shs_app];have h9:=S7.out;have h8:=Sep.pickR h9;exact h8.sub (List.Sublist.append (List.Sublist.refl [_,_,_,_,_,_,_,_]) ((List.Sublist.refl rs).cons _))
end Go.Proofs.YtgojnefiephafaaGreat
namespace Sg
theorem lazyFl_read (g:Graph) (q:Lazy × List Show × Int) (p:List Int) (s:List Bool):lazyFl g q p s=readFl g (effs g s) (writesL (inputsL g) p q.1,q.2):=rfl
theorem writesL_succ (l:List Int) (p:List Int) (st:Lazy) {k:Nat} {n:Int} (h:l[k]? = some n):writesL (l.take (k + 1)) p st=writeL (writesL (l.take k) p st) n.toNat (rd p n):=by
 have e:l.take (k + 1)=l.take k++[n]:=by
  rw [List.take_add_one,h];rfl
 rw [e,writesL_snoc]
theorem readFl_small {g:Graph} {nodes:List Int} {s:Lazy × List Show × Int} (hV:validL g s.1=true) (hn:∀ z ∈ nodes,∃ k:Nat,z=k∧k<g.length) (hnl:nodes.length≤g.length) {k:Nat} (h1:s.2.1.length≤g.length * (k + 1)) (h2:0≤s.2.2) (h3:s.2.2≤((g.length * (k + 1):Nat):Int)) :
  validL g (readFl g nodes s).1=true∧(readFl g nodes s).2.1.length≤g.length * (k + 1 + 1)∧0≤(readFl g nodes s).2.2∧(readFl g nodes s).2.2≤((g.length * (k + 1 + 1):Nat):Int):=by
 have hin:∀ z ∈ nodes,inR z 0 ((g.length:Int) - 1)=true:=fun z hz=>by
  obtain ⟨k,rfl,hk⟩:=hn z hz;unfold inR;simp only [Bool.and_eq_true,decide_eq_true_eq];omega
 have hc:=readsL_cleaned (s:=⟨s.1,[]⟩) hV nodes hin;have hr:(readsL g nodes ⟨s.1,[]⟩).ran.length≤g.length:=by have:=hc.ran_len;simpa using this
 unfold readFl;rw [Nat.mul_add g.length (k + 1) 1];have h4:(common nodes (readsL g nodes ⟨s.1,[]⟩).ran).length≤nodes.length:=List.length_filter_le _ _;refine ⟨hc.ok,?_,?_,?_⟩
 ·show (s.2.1++showL _ _).length≤_;rw [List.length_append,showL_len];omega
 ·show 0≤s.2.2 + _;omega
 ·show s.2.2 + _≤_;omega
end Sg
namespace Go.Proofs.YtgojnefiephafaaGreat
open Go.RowKit
def LInv {B:Nat} (A:Option Addr) (c:Nat) (g:Sg.Graph) (bt bg br bo bf:Nat) (Av Ar Aq:Option Addr) (k:Nat) (s:Sg.Lazy × List Sg.Show × Int) (ts:List (Th B)):Prop :=
 ∃ hs Ao co,ts=LT A c g bt bg br bo Av Ar Aq hs Ao co s++[Th.box B bf [.func (.func 80) #[] #[.pointer (some ⟨bt,0,none⟩),.pointer (some ⟨bg,0,none⟩),.pointer (some ⟨br,0,none⟩),.pointer (some ⟨bo,0,none⟩)]]]∧Sg.validL g s.1=true∧s.2.1.length≤g.length * (k + 1)∧0≤s.2.2∧s.2.2≤((g.length * (k + 1):Nat):Int)
theorem perm_lz {α:Type _} (i p t f:α) (l r:List α):(i :: p :: t :: (l++[f]++r)).Perm (l++(f :: i :: p :: t :: r)):=by
 have h1:(l++(f :: i :: p :: t :: r)).Perm (i :: p :: t :: (l++(f :: r))):=by
  have e:l++(f :: i :: p :: t :: r)=(l++[f])++i :: p :: t :: r:=by simp
  rw [e];refine List.perm_middle.trans (List.Perm.cons _ (List.perm_middle.trans (List.Perm.cons _ (List.perm_middle.trans (List.Perm.cons _ ?_)))));simp
 have e:l++[f]++r=l++(f :: r):=by simp
 rw [e];exact h1.symm
set_option maxRecDepth 100000 in
set_option maxHeartbeats 16000000 in
theorem flu_lazy (A:Option Addr) (c:Nat) (g:Sg.Graph) (a:World) (bt bg br bo bf:Nat) (Av Ar Aq:Option Addr) (hA:RdN a A g) (hG:Sg.validG g=true) :
  Flu Tryz.prog 82 [.pointer (some ⟨bg,0,none⟩),.pointer (some ⟨bt,0,none⟩),.pointer (some ⟨bf,0,none⟩)] g a (LInv A c g bt bg br bo bf Av Ar Aq) (Sg.lazyFl g) where
 ent:=ent_of Tryz.func82 rfl (by kernel_rfl)
 up:=fun k s ts h=>by
  obtain ⟨hs,Ao,co,e,hv,hl,h0,h1⟩:=h;exact ⟨hs,Ao,co,e,hv,by rw [Nat.mul_add g.length (k + 1) 1];omega,h0,by rw [Nat.mul_add g.length (k + 1) 1];omega⟩
 call:=fun k s ts rs w Ap As cp cs n m p sp hI hk hp hpn hsm hm hE hS=>by
  obtain ⟨hs,Ao,co,rfl,hv,hl,h0,h1⟩:=hI;obtain ⟨st,q,runs⟩:=s;subst hpn hsm;dsimp only at *;have hg10:=validG_len hG;have HG:=lh hG;have HG10:=lh (Sg.validG_len10 hG);have HPL:=lh (Sg.length_validC hp);have HSM:=lh hm;have hb31:g.length * (k + 1)≤31000:=Nat.le_trans (Nat.mul_le_mul hg10 (show k + 1≤31 by omega)) (by omega);have HFA:=lh (show ∀ st2:Sg.Lazy,Sg.validL g st2=true→_ from fun st2 h2=>Sg.readFl_small (s:=(st2,q,runs)) h2 (Sg.effs_in (g:=g) (s:=sp)) (Sg.effs_len g sp) hl h0 h1);have HB:=lh (show q.length≤40000∧0≤runs∧runs≤40000 by omega);have HFR:=lh (Sg.lazyFl_read g (st,q,runs) p sp);have HIN:=lh (fun z (hz:z ∈ Sg.inputsL g)=>Sg.mem_inputsL.1 hz);have HWS:=lh (fun k n h=>Sg.writesL_succ (Sg.inputsL g) p st (k:=k) (n:=n) h);have HW0:=lh (show Sg.writesL ((Sg.inputsL g).take 0) p st=st from rfl);have HWV:=lh (fun k hk=>(Sg.wl_all hv hp k hk).ok);have hil:=Sg.inputs_len g;rw [show Sg.writesL (Sg.inputsL g) p st=Sg.writesL ((Sg.inputsL g).take (Sg.inputsL g).length) p st by rw [List.take_length]] at HFR;have HWC:=lh (fun w1 h1=>i_whichCell A c g w1 h1);have HE:=lh hE;have hsz:=hE.size;have HS:=lh (hS.perm (show _ from (List.Perm.refl _)));have x0:w.cell? ⟨bg,0,none⟩=some (.slice A g.length c):=((Sep.get hS 6 rfl:Bx _ _ _∧_).1).cell (j:=0) rfl;have b0:=blt x0;have HEF:=lh (fun w1 h1 h2=>i_effects A As c cs g sp w1 h1 h2 HSM.out);have hent0:=ent_of Tryz.func58 rfl (by kernel_rfl);have hent1:=ent_of Tryz.func80 rfl (by kernel_rfl);obtain ⟨il,hil2⟩:∃ il,il=Sg.inputsL g:=⟨_,rfl⟩;rw [← hil2] at HIN HWS HW0 HWV hil HFR;simp only [← hil2] at HWC;obtain ⟨R,hR⟩:∃ R:Nat→Sg.Lazy,∀ k,R k=Sg.writesL (il.take k) p st:=⟨_,fun _=>rfl⟩;simp only [← hR] at HWS HW0 HWV HFR;clear hR hil2 hS hE hv hp hm hl h0 h1 hb31 hG;go_enter Tryz.func82,Tryz.ntmps82;go_wp2_with fail
  refine (HWC.out _ (hA.ext HE.out)).mono ?_;rintro e w1 ⟨Ai,rfl,hO,he1⟩;have S1:=lh ((Sep.add HS.out he1 (Th.own a.heap.size 3 1 Ai il.length il.length (ints il)) (hO.mono hsz) (fun b hb=>(hO.lt hb).1)).perm (perm_lz _ _ _ _ _ _));have E1:=lh (HE.out.tr he1);clear hO he1 HS HE x0 b0;go_wp2_with fail
  go_loopw [14] (fun i wr=>∃ (k:Nat),k≤il.length∧i = .int .i64 k∧Hid (Ext a wr)∧Hid (Sep (LT A c g bt bg br bo Av Ar Aq hs Ao co (R k,q,runs) ++
   (Th.box a.heap.size bf [.func (.func 80) #[] #[.pointer (some ⟨bt,0,none⟩),.pointer (some ⟨bg,0,none⟩),.pointer (some ⟨br,0,none⟩),.pointer (some ⟨bo,0,none⟩)]] :: Th.own a.heap.size 3 1 Ai il.length il.length (ints il) :: Th.own a.heap.size 3 1 Ap p.length cp (ints p) :: Th.own a.heap.size 4 1 As sp.length cs (bools sp) :: rs)) wr)) (fun i _=>il.length - (intOf i).toNat)
  case atStart=>exact ⟨0,Nat.zero_le _,rfl,E1,lh (by rw [HW0.out];exact S1.out)⟩
  case round =>
   clear S1 E1;obtain ⟨k,hk,rfl,hX,hSS⟩:=hrel;by_cases hlt:k<il.length
   ·have hAi:Own wr a.heap.size 3 1 Ai il.length il.length (ints il):=Sep.get hSS.out 9 rfl;obtain ⟨ba,oa,z,rfl,hz,hcz⟩:=hAi.rd.at1 hlt;obtain ⟨j,rfl,hj,-⟩:=HIN.out z (List.mem_of_getElem? hz);have hjp:j<p.length:=by have:=HPL.out;omega
    have hjx:(j:Int)<(p.length:Int):=by omega
    have hkx:(k:Int)<(il.length:Int):=by omega
    have hAp:Own wr a.heap.size 3 1 Ap p.length cp (ints p):=Sep.get hSS.out 10 rfl;obtain ⟨bb,ob,y,rfl,hy,hcy⟩:=hAp.rd.at1 hjp;have HY:=lh (show Sg.rd p (j:Int)=y by unfold Sg.rd;simp [hy]);have HYY:=lh hy;have HWN:=lh (show R (k + 1)=Sg.writeL (R k) j y by have:=HWS.out k j hz;rw [HY.out] at this;simpa using this);have hV:=HWV.out k hk;have hO0:Own wr a.heap.size 3 1 Av g.length g.length (ints (R k).vals):=Sep.get hSS.out 0 rfl;have hO2:Own wr a.heap.size 3 1 Aq g.length g.length (ints (R k).cols):=Sep.get hSS.out 2 rfl;obtain ⟨gv,rfl,-⟩:=hO0.bn (by omega);obtain ⟨gq,rfl,-⟩:=hO2.bn (by omega);have hsh:=Sg.validL_shape hV;have bz:=blt hcz;have bY:=blt hcy;have HCZ:=lh hcz;have y0:wr.cell? ⟨bt,0,none⟩=some (.slice (some ⟨gv,0,none⟩) g.length g.length):=((Sep.get hSS.out 3 rfl:Bx _ _ _∧_).1).cell (j:=0) rfl;have y1:wr.cell? ⟨bt,1,none⟩=some (.slice Ar g.length g.length):=((Sep.get hSS.out 3 rfl:Bx _ _ _∧_).1).cell (j:=1) rfl;have y2:wr.cell? ⟨bt,2,none⟩=some (.slice (some ⟨gq,0,none⟩) g.length g.length):=((Sep.get hSS.out 3 rfl:Bx _ _ _∧_).1).cell (j:=2) rfl;have Y0:=lh y0;have Y1:=lh y1;have Y2:=lh y2;have HCY:=lh hcy;have bt0:=blt y0;have E0:=lh ((Ext.rfl' wr).dr)
    have HWR:=lh (fun W (hE:Ext a W) (hS:Sep _ W)=>i_writeS a gv gq g.length g.length g.length j g.length y Ar (R k) hs ([Th.box a.heap.size bt [.slice (some ⟨gv,0,none⟩) g.length g.length,.slice Ar g.length g.length,.slice (some ⟨gq,0,none⟩) g.length g.length],Th.box a.heap.size bg [.slice A g.length c],Th.box a.heap.size br [.int .i64 runs],Th.box a.heap.size bo [.slice Ao q.length co],Th.own a.heap.size 56 2 Ao q.length co (shs q)] ++
     (Th.box a.heap.size bf [.func (.func 80) #[] #[.pointer (some ⟨bt,0,none⟩),.pointer (some ⟨bg,0,none⟩),.pointer (some ⟨br,0,none⟩),.pointer (some ⟨bo,0,none⟩)]] :: Th.own a.heap.size 3 1 (some ⟨ba,oa,none⟩) il.length il.length (ints il) :: Th.own a.heap.size 3 1 (some ⟨bb,ob,none⟩) p.length cp (ints p) :: Th.own a.heap.size 4 1 As sp.length cs (bools sp) :: rs)) W hE hS
     (Sg.ahead_of hV) hsh.2.1 hsh.2.2.1 hsh.2.2.2.1 hj (by omega) (fun l hl=>Nat.le_trans (reads_small hV l hl) (by omega)))
    clear hAi hAp hz hy hO0 hO2 hsh hV;go_upto_region 3 with fail
    refine wp_region_held_drew (S:=(fun W=>W.cell? ⟨bt,0,none⟩=some (.slice (some ⟨gv,0,none⟩) g.length g.length)∧W.cell? ⟨bt,1,none⟩=some (.slice Ar g.length g.length)∧W.cell? ⟨bt,2,none⟩=some (.slice (some ⟨gq,0,none⟩) g.length g.length)∧W.cell? ⟨bb,ob + j,none⟩=some (.int .i64 y))) (by kernel_rfl) ?_ (fun hHeld=>?_)
    ·exact ⟨E0.out.cellE Y0.out,E0.out.cellE Y1.out,E0.out.cellE Y2.out,E0.out.cellE HCY.out⟩
    refine ty 0 ?_;refine ty 1 ?_;refine ty 2 ?_;refine ty 3 ?_;refine ty 4 ?_;refine ty 5 ?_;refine rd1 6 rfl fun K hK=>?_;go_simp;refine (HWR.out _ (hX.out.tr E0.out) (Sep.ext hSS.out E0.out)).mono ?_;rintro e w3 ⟨rfl,he3,hS3⟩;have S3:=lh hS3;have E3:=lh he3;have z0:w3.cell? ⟨bt,0,none⟩=some (.slice (some ⟨gv,0,none⟩) g.length g.length):=((Sep.get hS3 3 rfl:Bx _ _ _∧_).1).cell (j:=0) rfl;have z1:w3.cell? ⟨bt,1,none⟩=some (.slice Ar g.length g.length):=((Sep.get hS3 3 rfl:Bx _ _ _∧_).1).cell (j:=1) rfl;have z2:w3.cell? ⟨bt,2,none⟩=some (.slice (some ⟨gq,0,none⟩) g.length g.length):=((Sep.get hS3 3 rfl:Bx _ _ _∧_).1).cell (j:=2) rfl;have z3:w3.cell? ⟨bb,ob + j,none⟩=some (.int .i64 y):=by obtain ⟨b2,o2,y2,e1,e2,e3⟩:=(Sep.get hS3 10 rfl:Own _ _ _ _ _ _ _ _).rd.at1 hjp;obtain ⟨rfl,rfl⟩:bb=b2∧ob=o2:=(by simpa using e1);rw [HYY.out] at e2;injection e2 with e2;rw [e2];exact e3
    have Z3:=lh (And.intro z0 (And.intro z1 (And.intro z2 z3)));clear he3 hS3 z0 z1 z2 z3 y0 y1 y2 hcy hcz bz bY bt0;try go_wp2_with fail
    refine hK.out _ _ Z3.out (fun hh=>?_);clear hK K hh;try simp only [Act.put,pu]
    refine dn ?_;go_wp2;go_roundw
    case rel=>exact ⟨k + 1,by omega,by go_num,E3,lh (by rw [HWN.out];exact S3.out)⟩
    case measure=>simp [intOf];omega
   ·obtain rfl:k=il.length:=by omega
    obtain ⟨w5,rfl⟩:∃ W:World,W=wr:=⟨_,rfl⟩;have HV:=lh (HWV.out il.length hk);generalize R il.length=st5 at *;have x1:w5.cell? ⟨bg,0,none⟩=some (.slice A g.length c):=((Sep.get hSS.out 4 rfl:Bx _ _ _∧_).1).cell (j:=0) rfl;have x2:w5.cell? ⟨bf,0,none⟩=some (.func (.func 80) #[] #[.pointer (some ⟨bt,0,none⟩),.pointer (some ⟨bg,0,none⟩),.pointer (some ⟨br,0,none⟩),.pointer (some ⟨bo,0,none⟩)]):=((Sep.get hSS.out 8 rfl:Bx _ _ _∧_).1).cell (j:=0) rfl;have X1:=lh x1;have X2:=lh x2;have b1:=blt x1;have b2:=blt x2;have E0:=lh ((Ext.rfl' w5).dr);have RS:=lh ((Sep.get hSS.out 11 rfl:Own _ _ _ _ _ _ _ _).rd);have hEL:=Sg.effs_len g sp;have HELL:=lh hEL;clear hEL;go_upto_region 5 with fail
    refine wp_region_held_drew (S:=(fun W=>W.cell? ⟨bg,0,none⟩=some (.slice A g.length c)∧W.cell? ⟨bf,0,none⟩=some (.func (.func 80) #[] #[.pointer (some ⟨bt,0,none⟩),.pointer (some ⟨bg,0,none⟩),.pointer (some ⟨br,0,none⟩),.pointer (some ⟨bo,0,none⟩)]))) (by kernel_rfl) ?_ (fun hHeld=>?_)
    ·exact ⟨E0.out.cellE X1.out,E0.out.cellE X2.out⟩
    refine ty 0 ?_;refine ty 1 ?_;refine ty 2 ?_;refine rd1 3 rfl fun K hK=>?_;go_simp;refine (HEF.out _ (hA.ext (hX.out.tr E0.out)) (RS.out.ext E0.out)).mono ?_;rintro e w6 ⟨A1,rfl,hO1,he1⟩;have E1:=lh (E0.out.tr he1);have S6:=lh (Sep.add hSS.out E1.out (Th.own a.heap.size 3 1 A1 (Sg.effs g sp).length (Sg.effs g sp).length (ints (Sg.effs g sp))) (hO1.mono (by have:=hX.out.size;have:=E0.out.size;omega)) (fun b hb=>by have:=(hO1.lt hb).1;have:=E0.out.size;omega));have EX6:=lh (hX.out.tr E1.out);clear hO1 he1 x1 x2 b1 b2;try go_wp2_with fail
    refine hK.out _ _ ⟨E1.out.cellE X1.out,E1.out.cellE X2.out⟩ (fun hh=>?_);have hHeld:=hh;clear hK K hh;try simp only [Act.put,pu]
    refine rd1 4 rfl fun K hK=>?_;go_simp;refine (i_readL a A c g bt bg br bo Av Ar Aq hs Ao co (st5,q,runs) A1 (Sg.effs g sp).length (Sg.effs g sp).length (Sg.effs g sp) (Th.box a.heap.size bf [.func (.func 80) #[] #[.pointer (some ⟨bt,0,none⟩),.pointer (some ⟨bg,0,none⟩),.pointer (some ⟨br,0,none⟩),.pointer (some ⟨bo,0,none⟩)]] :: Th.own a.heap.size 3 1 Ai il.length il.length (ints il) :: Th.own a.heap.size 3 1 Ap p.length cp (ints p) :: Th.own a.heap.size 4 1 As sp.length cs (bools sp) :: rs) _ hA HG.out EX6.out (S6.out.perm (List.perm_middle (l₁:=LT A c g bt bg br bo Av Ar Aq hs Ao co (st5,q,runs))).symm) rfl HV.out Sg.effs_in (by have:=HELL.out;have:=HG10.out;omega) HB.out.1 HB.out.2.1 HB.out.2.2).mono ?_;rintro e w7 ⟨rfl,he7,hs7,Ao7,co7,hS7⟩;have S7:=lh hS7;have E7:=lh he7;have x1:w7.cell? ⟨bg,0,none⟩=some (.slice A g.length c):=((Sep.get hS7 4 rfl:Bx _ _ _∧_).1).cell (j:=0) rfl;have x2:w7.cell? ⟨bf,0,none⟩=some (.func (.func 80) #[] #[.pointer (some ⟨bt,0,none⟩),.pointer (some ⟨bg,0,none⟩),.pointer (some ⟨br,0,none⟩),.pointer (some ⟨bo,0,none⟩)]):=((Sep.get hS7 8 rfl:Bx _ _ _∧_).1).cell (j:=0) rfl;have X7:=lh (And.intro x1 x2);clear hS7 he7 x1 x2;try go_wp2_with fail
    refine hK.out _ _ X7.out (fun hh=>?_);clear hK K hh;try simp only [Act.put,pu]
    refine dn ?_;go_wp2;go_end0;have hfa:=HFA.out st5 HV.out;refine ⟨rfl,E7.out,_,⟨hs7,Ao7,co7,rfl,?_⟩,?_⟩
    ·rw [HFR.out];exact hfa
    ·rw [HFR.out,List.append_assoc];refine S7.out.sub (List.Sublist.append (List.Sublist.refl _) (List.Sublist.cons_cons _ ?_));exact (((List.Sublist.refl rs).cons _).cons _).cons _
end Go.Proofs.YtgojnefiephafaaGreat
namespace Sg
theorem lazy0_read {g:Graph} {cells:List Int} (hG:validG g=true) (hC:validC g cells=true):readFl g (effs g (List.replicate g.length false)) (startL g cells,[],0)=lazy0 g cells:=by
 have h:=(lazy0_ok hG hC).2.2.1;have e:readFl g (effs g (List.replicate g.length false)) (startL g cells,[],0)=((lazyT0 g cells).st,[]++showL (common (effs g (List.replicate g.length false)) (lazyT0 g cells).ran) (lazyT0 g cells).st.vals,0 + ((lazyT0 g cells).ran.length:Int)):=rfl;rw [e,h,List.nil_append,Int.zero_add];rfl
theorem lazy0_small {g:Graph} {cells:List Int} (hG:validG g=true) (hC:validC g cells=true):validL g (lazy0 g cells).1=true∧(lazy0 g cells).2.1.length≤g.length * (0 + 1)∧0≤(lazy0 g cells).2.2∧(lazy0 g cells).2.2≤((g.length * (0 + 1):Nat):Int):=by
 have hin:∀ z ∈ effs g (List.replicate g.length false),inR z 0 ((g.length:Int) - 1)=true:=fun z hz=>by
  obtain ⟨k,rfl,hk⟩:=effs_in z hz;unfold inR;simp only [Bool.and_eq_true,decide_eq_true_eq];omega
 have hc:=readsL_cleaned (s:=⟨startL g cells,[]⟩) (startL_valid hG hC) _ hin;have hr:(lazyT0 g cells).ran.length≤g.length:=by have:=hc.ran_len;simp at this;exact this
 have h4:=effs_len g (List.replicate g.length false);refine ⟨hc.ok,?_,?_,?_⟩
 ·show (showL _ _).length≤_;rw [showL_len];omega
 ·show (0:Int)≤((lazyT0 g cells).ran.length:Int);omega
 ·show ((lazyT0 g cells).ran.length:Int)≤_;omega
end Sg
namespace Go.Proofs.YtgojnefiephafaaGreat
open Go.RowKit
theorem thL_ok {B B':Nat} {Av Ar Aq:Option Addr} {cv cr cq L:Nat} {hs:List (Option Addr × Nat)} {st:Sg.Lazy} {W:World} (h:Sep (thL B Av cv Ar cr Aq cq L hs st) W) (hB:B'≤B) :
  Sep (thL B' Av cv Ar cr Aq cq L hs st) W∧∀ t ∈ thL B' Av cv Ar cr Aq cq L hs st,∀ b,t.fp b→B≤b:=by
 have h0:Own W B 3 1 Av L cv (ints st.vals):=Sep.get h 0 rfl;have h1:OwnL W B Ar cr st.reads hs:=Sep.get h 1 rfl;have h2:Own W B 3 1 Aq L cq (ints st.cols):=Sep.get h 2 rfl;have hp:=(Sep.iff.1 h).2;unfold thL at hp ⊢;simp only [List.pairwise_cons,List.mem_cons,List.not_mem_nil,or_false,forall_eq_or_imp,forall_eq] at hp;obtain ⟨⟨hvr,hvq⟩,hrq,-⟩:=hp;refine ⟨Sep.iff.2 ⟨fun t ht=>?_,by simp only [List.pairwise_cons,List.mem_cons,List.not_mem_nil,or_false,forall_eq_or_imp,forall_eq];exact ⟨⟨hvr,hvq⟩,hrq,fun _ h9=>h9.elim,List.Pairwise.nil⟩⟩,fun t ht b hb=>?_⟩
 ·simp only [List.mem_cons,List.not_mem_nil,or_false] at ht;rcases ht with rfl | rfl | rfl
  ·exact h0.mono hB
  ·exact OwnD.mono h1 hB
  ·exact h2.mono hB
 ·simp only [List.mem_cons,List.not_mem_nil,or_false] at ht;rcases ht with rfl | rfl | rfl
  ·exact (h0.lt hb).1
  ·exact (OwnD.lt h1 hb).1
  ·exact (h2.lt hb).1
theorem Sep.addL {B:Nat} {rs:List (Th B)} {Av Ar Aq:Option Addr} {cv cr cq L:Nat} {hs:List (Option Addr × Nat)} {st:Sg.Lazy} {W W':World} (h:Sep rs W) (e:Ext W W') (hB:B≤W.heap.size) (k:Sep (thL W.heap.size Av cv Ar cr Aq cq L hs st) W'):Sep (thL B Av cv Ar cr Aq cq L hs st++rs) W':=by
 obtain ⟨k1,k2⟩:=thL_ok k hB;exact Sep.rep (us:=[]) (F:=fun _=>False) h (Mod.of e) (fun _ hb=>hb.elim) k1 (fun t ht b hb=>.inr (k2 t ht b hb))
theorem perm_ls {α:Type _} (v r q bf bo br bt bg oo:α):[oo,bf,bo,br,bt,v,r,q,bg].Perm ([v,r,q,bt,bg,br,bo,oo]++[bf]):=by
 have h1:([oo,bf,bo,br,bt]++v :: [r,q,bg]).Perm (v :: ([oo,bf,bo,br,bt]++[r,q,bg])):=List.perm_middle;have h2:([oo,bf,bo,br,bt]++r :: [q,bg]).Perm (r :: ([oo,bf,bo,br,bt]++[q,bg])):=List.perm_middle;have h3:([oo,bf,bo,br,bt]++q :: [bg]).Perm (q :: ([oo,bf,bo,br,bt]++[bg])):=List.perm_middle;have h4:([oo,bf,bo,br]++bt :: [bg]).Perm (bt :: ([oo,bf,bo,br]++[bg])):=List.perm_middle;have h5:([oo,bf,bo,br]++bg :: []).Perm (bg :: ([oo,bf,bo,br]++[])):=List.perm_middle;have h6:([oo,bf,bo]++br :: []).Perm (br :: ([oo,bf,bo]++[])):=List.perm_middle;have h7:([oo,bf]++bo :: []).Perm (bo :: ([oo,bf]++[])):=List.perm_middle;exact h1.trans ((h2.trans ((h3.trans ((h4.trans ((h5.trans ((h6.trans (h7.cons br)).cons bg)).cons bt)).cons q)).cons r)).cons v)
theorem boolsW (n:Nat):(madeCells (Value.bool false).cells (n * 1)).toList=bools (List.replicate n false):=by rw [made_one _ _ rfl];simp [bools]
set_option maxRecDepth 100000 in
set_option maxHeartbeats 16000000 in
theorem i_lazySession (A Ac Al:Option Addr) (c cc cl:Nat) (g:Sg.Graph) (x:List Int) (l:List Sg.Act) (w:World) (h:RdN w A g) (hx:Rd w 1 Ac x.length (ints x)) (hl:Rd w 3 Al l.length (acts l)) (hfit:Sg.fitS g x l=true) :
  Calls Tryz.prog 40 #[.agg #[.slice A g.length c],.slice Ac x.length cc,.slice Al l.length cl] w fun e w'=>∃ A1 c1,e = .returned (.tuple #[.slice A1 (Sg.lazyR g x l).2.2.1.length c1,.int .i64 (Sg.lazyR g x l).2.2.2])∧Own w' w.heap.size 56 2 A1 (Sg.lazyR g x l).2.2.1.length c1 (shs (Sg.lazyR g x l).2.2.1)∧Ext w w':=by
 have H:=lh h;have HX:=lh hx;have HL:=lh hl;have hgl:=h.1;have EB:=lh ((Ext.rfl' w).al (.cells #[.slice A g.length c] 33));have b0:=Bx.new w #[.slice A g.length c] 33;have SB:=lh (Sep.iff.2 ⟨fun t ht=>by rw [List.mem_singleton.1 ht];exact ⟨b0,Nat.le_refl _⟩,by simp⟩:Sep [Th.box w.heap.size w.heap.size [.slice A g.length c]] (World.alloc w (.cells #[.slice A g.length c] 33)));have qg:=b0.cell (j:=0) rfl;obtain ⟨hG,hC,hAc,hl30⟩:=Sg.fitS_parts hfit;have hg10:=Sg.validG_len10 hG;have hxb:=hx.big;have HG:=lh hG;have HC:=lh hC;have HL30:=lh hl30;have HAC:=lh hAc;have HST:=lh (fun w1 h1 h2=>i_StartLazyN A Ac c cc g x w1 h1 h2 hG HC.out);have HV0:=lh (Sg.startL_valid hG hC);have HSM:=lh (Sg.lazy0_small hG hC);have HRD:=lh (Sg.lazy0_read hG hC);have HE0:=lh (show Sg.lazyR g x l=Sg.runS (Sg.lazyFl g) (Sg.ses0 g x,Sg.lazy0 g x) l from rfl);have HLR:=lh (List.length_replicate (n:=g.length) (a:=false));have HEF:=lh (fun w1 h1 (A1:Option Addr) (c1:Nat) h2=>(by have:=i_effects A A1 c c1 g (List.replicate g.length false) w1 h1 h2 HLR.out;rw [HLR.out] at this;exact this:Calls Tryz.prog 49 #[.agg #[.slice A g.length c],.slice A1 g.length c1] w1 fun e w'=>∃ A1,e = .returned (.slice A1 (Sg.effs g (List.replicate g.length false)).length (Sg.effs g (List.replicate g.length false)).length)∧Own w' w1.heap.size 3 1 A1 (Sg.effs g (List.replicate g.length false)).length (Sg.effs g (List.replicate g.length false)).length (ints (Sg.effs g (List.replicate g.length false)))∧Ext w1 w'));have HEL:=lh (Sg.effs_len g (List.replicate g.length false));have HEI:=lh (Sg.effs_in (g:=g) (s:=List.replicate g.length false));generalize Sg.effs g (List.replicate g.length false)=ef at *;have hent1:=ent_of Tryz.func80 rfl (by kernel_rfl);clear h hx hl hC hl30 hAc b0 hfit hG;go_enter Tryz.func40,Tryz.ntmps40;go_upto_region 1 with fail
 generalize World.alloc w (.cells #[.slice A g.length c] 33)=w0 at *;have bqg:=blt qg;go_wp2_with fail
 refine (HST.out _ (H.out.ext EB.out) (HX.out.ext EB.out)).mono ?_;rintro e w1 ⟨Av,gr,gq,rfl,hS1,he1⟩;have S1:=lh (Sep.addL SB.out he1 EB.out.size hS1);have E1:=lh (EB.out.tr he1);clear hS1 he1 SB EB qg bqg HST;go_upto_region 2 with fail
 have S2:=lh (Sep.add S1.out ((Ext.rfl' w1).al (.cells #[.slice Av g.length g.length,.slice (some ⟨gr,0,none⟩) g.length g.length,.slice (some ⟨gq,0,none⟩) g.length g.length] 104)) (Th.box w.heap.size w1.heap.size [.slice Av g.length g.length,.slice (some ⟨gr,0,none⟩) g.length g.length,.slice (some ⟨gq,0,none⟩) g.length g.length]) ⟨Bx.new w1 #[.slice Av g.length g.length,.slice (some ⟨gr,0,none⟩) g.length g.length,.slice (some ⟨gq,0,none⟩) g.length g.length] 104,E1.out.size⟩ (fun b e=>by have e2:b=w1.heap.size:=e;omega));have E2:=lh (E1.out.al (.cells #[.slice Av g.length g.length,.slice (some ⟨gr,0,none⟩) g.length g.length,.slice (some ⟨gq,0,none⟩) g.length g.length] 104));clear S1 E1;generalize World.alloc w1 (.cells #[.slice Av g.length g.length,.slice (some ⟨gr,0,none⟩) g.length g.length,.slice (some ⟨gq,0,none⟩) g.length g.length] 104)=w2 at *;generalize w1.heap.size=bt at *;go_upto_region 3 with fail
 have S3:=lh (Sep.add S2.out ((Ext.rfl' w2).al (.cells #[.int .i64 0] 3)) (Th.box w.heap.size w2.heap.size [.int .i64 0]) ⟨Bx.new w2 #[.int .i64 0] 3,E2.out.size⟩ (fun b e=>by have e2:b=w2.heap.size:=e;omega));have E3:=lh (E2.out.al (.cells #[.int .i64 0] 3));clear S2 E2;generalize World.alloc w2 (.cells #[.int .i64 0] 3)=w3 at *;generalize w2.heap.size=br at *;go_upto_region 4 with fail
 have S4:=lh (Sep.add S3.out ((Ext.rfl' w3).al (.cells #[.slice none 0 0] 29)) (Th.box w.heap.size w3.heap.size [.slice none 0 0]) ⟨Bx.new w3 #[.slice none 0 0] 29,E3.out.size⟩ (fun b e=>by have e2:b=w3.heap.size:=e;omega));have E4:=lh (E3.out.al (.cells #[.slice none 0 0] 29));clear S3 E3;generalize World.alloc w3 (.cells #[.slice none 0 0] 29)=w4 at *;generalize w3.heap.size=bo at *;go_upto_region 5 with fail
 have S5:=lh (Sep.add S4.out ((Ext.rfl' w4).al (.cells #[.func (.func 80) #[] #[.pointer (some ⟨bt,0,none⟩),.pointer (some ⟨w.heap.size,0,none⟩),.pointer (some ⟨br,0,none⟩),.pointer (some ⟨bo,0,none⟩)]] 119)) (Th.box w.heap.size w4.heap.size [.func (.func 80) #[] #[.pointer (some ⟨bt,0,none⟩),.pointer (some ⟨w.heap.size,0,none⟩),.pointer (some ⟨br,0,none⟩),.pointer (some ⟨bo,0,none⟩)]]) ⟨Bx.new w4 #[.func (.func 80) #[] #[.pointer (some ⟨bt,0,none⟩),.pointer (some ⟨w.heap.size,0,none⟩),.pointer (some ⟨br,0,none⟩),.pointer (some ⟨bo,0,none⟩)]] 119,E4.out.size⟩ (fun b e=>by have e2:b=w4.heap.size:=e;omega));have E5:=lh (E4.out.al (.cells #[.func (.func 80) #[] #[.pointer (some ⟨bt,0,none⟩),.pointer (some ⟨w.heap.size,0,none⟩),.pointer (some ⟨br,0,none⟩),.pointer (some ⟨bo,0,none⟩)]] 119));clear S4 E4;generalize World.alloc w4 (.cells #[.func (.func 80) #[] #[.pointer (some ⟨bt,0,none⟩),.pointer (some ⟨w.heap.size,0,none⟩),.pointer (some ⟨br,0,none⟩),.pointer (some ⟨bo,0,none⟩)]] 119)=w5 at *;generalize w4.heap.size=bf at *;have S6:=lh ((Sep.add S5.out (Ext.rfl' w5) (Th.own w.heap.size 56 2 none 0 0 []) (Own.nil _ _ _ _) (fun b e=>by cases e)).perm (perm_ls _ _ _ _ _ _ _ _ _));have x1:w5.cell? ⟨w.heap.size,0,none⟩=some (.slice A g.length c):=((Sep.get S6.out 4 rfl:Bx _ _ _∧_).1).cell (j:=0) rfl;have x2:w5.cell? ⟨bf,0,none⟩=some (.func (.func 80) #[] #[.pointer (some ⟨bt,0,none⟩),.pointer (some ⟨w.heap.size,0,none⟩),.pointer (some ⟨br,0,none⟩),.pointer (some ⟨bo,0,none⟩)]):=((Sep.get S6.out 8 rfl:Bx _ _ _∧_).1).cell (j:=0) rfl;have X1:=lh x1;have X2:=lh x2;have b1:=blt x1;have b2:=blt x2;have E0:=lh ((Ext.rfl' w5).dr);clear S5;refine wp_region_held_drew (S:=(fun W=>W.cell? ⟨w.heap.size,0,none⟩=some (.slice A g.length c)∧W.cell? ⟨bf,0,none⟩=some (.func (.func 80) #[] #[.pointer (some ⟨bt,0,none⟩),.pointer (some ⟨w.heap.size,0,none⟩),.pointer (some ⟨br,0,none⟩),.pointer (some ⟨bo,0,none⟩)]))) (by kernel_rfl) ?_ (fun hHeld=>?_)
 ·exact ⟨E0.out.cellE X1.out,E0.out.cellE X2.out⟩
 refine ty 0 ?_;refine ty 1 ?_;refine ty 2 ?_;refine rd1 3 rfl fun K hK=>?_;go_simp;refine (i_size A g.length c _).mono ?_;rintro e v1 ⟨rfl,he1⟩;have F1:=lh (E0.out.tr he1);clear he1 x1 x2 b1 b2;try go_wp2_with fail
 refine hK.out _ _ ⟨F1.out.cellE X1.out,F1.out.cellE X2.out⟩ (fun hh=>?_);have hHeld:=hh;clear hK K hh;try simp only [Act.put,pu]
 refine rd1 4 rfl fun K hK=>?_;refine held_mk rfl rfl eiBool rfl rfl (by omega) (by omega) (Nat.le_refl _) ?_;intro v2 hO1 he2;rw [boolsW] at hO1;have O1:=lh hO1;have F2:=lh (F1.out.tr he2);clear hO1 he2;try simp only [pg]
 refine hK.out _ _ ⟨F2.out.cellE X1.out,F2.out.cellE X2.out⟩ (fun hh=>?_);have hHeld:=hh;clear hK K hh;try simp only [Act.put,pu]
 refine rd1 5 rfl fun K hK=>?_;go_simp;refine (HEF.out _ (H.out.ext (E5.out.tr F2.out)) _ _ (by have:=O1.out.rd;simpa using this)).mono ?_;rintro e v3 ⟨A3,rfl,hO3,he3⟩;have F3:=lh (F2.out.tr he3);have S7:=lh (Sep.add S6.out F3.out (Th.own w.heap.size 3 1 A3 ef.length ef.length (ints ef)) (hO3.mono (by have:=E5.out.size;have:=F2.out.size;omega)) (fun b hb=>by have:=(hO3.lt hb).1;have:=F2.out.size;omega));have E7:=lh (E5.out.tr F3.out);clear hO3 he3;try go_wp2_with fail
 refine hK.out _ _ ⟨F3.out.cellE X1.out,F3.out.cellE X2.out⟩ (fun hh=>?_);have hHeld:=hh;clear hK K hh;try simp only [Act.put,pu]
 refine rd1 6 rfl fun K hK=>?_;go_simp;refine (i_readL w A c g bt w.heap.size br bo Av (some ⟨gr,0,none⟩) (some ⟨gq,0,none⟩) (List.replicate g.length (none,0)) none 0 (Sg.startL g x,[],0) A3 ef.length ef.length ef [Th.box w.heap.size bf [.func (.func 80) #[] #[.pointer (some ⟨bt,0,none⟩),.pointer (some ⟨w.heap.size,0,none⟩),.pointer (some ⟨br,0,none⟩),.pointer (some ⟨bo,0,none⟩)]]] _ H.out HG.out E7.out (S7.out.perm (List.perm_middle (l₁:=[_,_,_,_,_,_,_,_]) (l₂:=[_])).symm) rfl HV0.out HEI.out (by have:=HEL.out;omega) (by show (0:Nat)≤_;omega) (by show (0:Int)≤0;omega) (by show (0:Int)≤40000;omega)).mono ?_;rw [HRD.out];rintro e v7 ⟨rfl,he7,hs7,Ao7,co7,hS7⟩;have S8:=lh hS7;have E8:=lh he7;have x1:v7.cell? ⟨w.heap.size,0,none⟩=some (.slice A g.length c):=((Sep.get hS7 4 rfl:Bx _ _ _∧_).1).cell (j:=0) rfl;have x2:v7.cell? ⟨bf,0,none⟩=some (.func (.func 80) #[] #[.pointer (some ⟨bt,0,none⟩),.pointer (some ⟨w.heap.size,0,none⟩),.pointer (some ⟨br,0,none⟩),.pointer (some ⟨bo,0,none⟩)]):=((Sep.get hS7 8 rfl:Bx _ _ _∧_).1).cell (j:=0) rfl;have X7:=lh (And.intro x1 x2);clear hS7 he7 x1 x2;try go_wp2_with fail
 refine hK.out _ _ X7.out (fun hh=>?_);clear hK K hh;try simp only [Act.put,pu]
 refine dn ?_;have qg:=X7.out.1;have bqg:=blt qg;have FL:=lh (flu_lazy A c g w bt w.heap.size br bo bf Av (some ⟨gr,0,none⟩) (some ⟨gq,0,none⟩) H.out HG.out);have hent:=FL.out.ent;generalize Sg.lazy0 g x=z0 at *;clear X7 S7 E7 S6 E5 O1 F1 F2 F3 X1 X2 E0 hHeld;go_wp2_with fail
 refine (i_session FL.out A Ac Al c cc cl x l _ HX.out HL.out z0 (LT A c g bt w.heap.size br bo Av (some ⟨gr,0,none⟩) (some ⟨gq,0,none⟩) hs7 Ao7 co7 z0++[Th.box w.heap.size bf [.func (.func 80) #[] #[.pointer (some ⟨bt,0,none⟩),.pointer (some ⟨w.heap.size,0,none⟩),.pointer (some ⟨br,0,none⟩),.pointer (some ⟨bo,0,none⟩)]]]) [] E8.out (by rw [List.append_nil];exact S8.out) ⟨hs7,Ao7,co7,rfl,HSM.out⟩ HC.out HAC.out HL30.out (by omega)).mono ?_;rintro e w7 ⟨rfl,hE7,ts',⟨hs9,A7,c7,rfl,-,hlen7,-,-⟩,hS7⟩;rw [List.append_nil] at hS7;unfold LT at hS7;have q7:=(((Sep.get hS7 6 rfl:Bx _ _ _∧_).1).cell (j:=0) rfl);have b7:=blt q7;have q8:=(((Sep.get hS7 5 rfl:Bx _ _ _∧_).1).cell (j:=0) rfl);have b8:=blt q8;have O7:=(Sep.get hS7 7 rfl:Own _ _ _ _ _ _ _ _);have h71:=O7.2.1;have h72:=O7.2.2.1;have O7':=lh O7;have E7:=lh hE7;clear hS7 hE7 O7 S8 E8 qg bqg hlen7 HSM HRD;generalize Sg.runS (Sg.lazyFl g) (Sg.ses0 g x,z0) l=R at *;obtain ⟨rx,ry,out,runs⟩:=R;dsimp only at *;have E0:=lh ((Ext.rfl' w7).dr);go_wp2_with fail
 refine zb 4 (fun W=>W.cell? ⟨bo,0,none⟩=some (.slice A7 out.length c7)∧W.cell? ⟨br,0,none⟩=some (.int .i64 runs)) ?_ (fun hHeld=>?_)
 ·exact ⟨E0.out.cellE q7,E0.out.cellE q8⟩
 refine zy 0 ?_;refine zy 2 ?_;refine zr 1 rfl fun K hK=>?_;go_simp;refine (i_ClipS _ _ _ _ h71 h72).mono ?_;rintro e w' ⟨rfl,rfl⟩;try go_wp2_with fail
 refine hK.out _ _ (fun _=>⟨E0.out.cellE q7,E0.out.cellE q8⟩) (fun hh=>?_);have hHeld:=hh (by decide);clear hK K hh;try simp only [Act.put,pu]
 refine zy 3 ?_;refine zr 4 rfl fun K hK=>?_;go_simp;refine hK.out _ _ (fun e=>absurd rfl e) (fun hh=>?_);clear hK K hHeld hh;try simp only [Act.put,pu]
 refine zn ?_;skip
 go_wp2;go_ret2;rw [HE0.out];exact ⟨A7,out.length,rfl,O7'.out.clip.dr,E7.out.dr⟩
end Go.Proofs.YtgojnefiephafaaGreat
