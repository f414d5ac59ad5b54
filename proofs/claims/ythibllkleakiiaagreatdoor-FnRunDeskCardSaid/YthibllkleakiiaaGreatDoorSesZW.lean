/- Parts of one proof, joined. The program's clean and write over own things side by side, and more. Conditions: in the theorems. -/
import Derived.Deep.DeepCutAuto
import Derived.Test.YthibllkleakiiaaGreatDoorLazSix
import Derived.Test.YthibllkleakiiaaGreatDoorSesST
namespace Go.Proofs.YthibllkleakiiaaGreatDoor
open Go.RowKit
theorem Ai.rep {B:Nat}{us vs rs:List (Th B)}{W W':World}{F:Nat->Prop}(h:Ai (us++rs) W)(m:AF F W W')(hF:∀ b,F b->(∃ t ∈ us,t.fp b)\/W.heap.size<=b)(h':Ai vs W')(hfp:∀ t ∈ vs,∀ b,t.fp b->(∃ t ∈ us,t.fp b)\/W.heap.size<=b):Ai (vs++rs) W':=by
 obtain⟨h1,h2⟩:=Ai.iff.1 h;obtain⟨k1,k2⟩:=Ai.iff.1 h';rw[List.pairwise_append] at h2;refine Ai.iff.2 ⟨fun t ht=>?_,List.pairwise_append.2 ⟨k2,h2.2.1,fun t ht s hs b hb hb'=>?_⟩⟩
 ·rcases List.mem_append.1 ht with ht | ht
  ·exact k1 t ht
  ·have ho:=h1 t (List.mem_append_right _ ht);refine t.fr _ _ ho fun b hb=>m.block b (t.lt _ _ ho hb).2 fun e=>?_;rcases hF b e with ⟨s,hs,hsb⟩ | e
   ·exact h2.2.2 s hs t ht b hsb hb
   ·have:=(t.lt _ _ ho hb).2;omega
 ·have ho:=h1 s (List.mem_append_right _ hs);rcases hfp t ht b hb with ⟨u,hu,hub⟩ | e
  ·exact h2.2.2 u hu s hs b hub hb'
  ·have:=(s.lt _ _ ho hb').2;omega
def In (B:Nat)(Av:Option Addr)(cv:Nat)(Ar:Option Addr)(cr:Nat)(Aq:Option Addr)(cq L:Nat)(hs:List (Option Addr × Nat))(st:Sg.BC):List (Th B) :=
 [Th.own B 3 1 Av L cv (Ah st.vals),Th.ownL B Ar cr st.reads hs,Th.own B 3 1 Aq L cq (Ah st.cols)]
theorem U8 (a:World)(gv gq cv cr cq n L:Nat)(x:Int)(Ar:Option Addr)(st:Sg.BC)(hs:List (Option Addr × Nat))(rs:List (Th a.heap.size))(W:World)(hE:Aa a W)(hS:Ai (In a.heap.size (some ⟨gv,0,none⟩) cv Ar cr (some ⟨gq,0,none⟩) cq L hs st++rs) W)(hA:Sg.EH st.reads)(hvl:st.vals.length=L)(hrl:st.reads.length=L)(hql:st.cols.length=L)(hn:n<L)(hL:L<=1000000)(hrr:∀ l ∈ st.reads,l.length<=1048576) :
  Calls Tryz.prog 59 #[.agg #[.slice (some ⟨gv,0,none⟩) L cv,.slice Ar L cr,.slice (some ⟨gq,0,none⟩) L cq],.int .i64 n,.int .i64 x] W fun e w' =>
   e= .returned (.tuple #[])/\Aa a w'/\Ai (In a.heap.size (some ⟨gv,0,none⟩) cv Ar cr (some ⟨gq,0,none⟩) cq L hs (Sg.Ca st n x)++rs) w':=by
 obtain⟨v,r,q⟩:=st;dsimp only at *;have h0:Au W a.heap.size 3 1 (some ⟨gv,0,none⟩) L cv (Ah v):=Ai.get hS 0 rfl;have h1:CG W a.heap.size Ar cr r hs:=Ai.get hS 1 rfl;have h2:Au W a.heap.size 3 1 (some ⟨gq,0,none⟩) L cq (Ah q):=Ai.get hS 2 rfl;have hp:=(Ai.iff.1 (hS.sub (List.sublist_append_left _ _))).2;unfold In at hp;simp only[List.pairwise_cons,List.mem_cons,List.not_mem_nil,or_false,forall_eq_or_imp,forall_eq] at hp;obtain⟨⟨hvr,hvq⟩,hrq,hpx⟩:=hp;have hne:gv≠gq:=fun e=>hvq gv rfl (show AE (some ⟨gq,0,none⟩)=some gv by rw[e];rfl)
 have hnf:∀ b,Gi Ar hs b->¬ (b=gv\/b=gq):=fun b hb e=>by
  rcases e with rfl | rfl
  ·exact hvr b rfl hb
  ·exact hrq b hb rfl
 subst hvl
 refine(show Calls Tryz.prog 59 #[.agg #[.slice (some ⟨gv,0,none⟩) v.length cv,.slice Ar r.length cr,.slice (some ⟨gq,0,none⟩) q.length cq],.int .i64 n,.int .i64 x] W _ from Va a.heap.size n gv gq x Ar cv cr cq v q r W hA hql.symm (by omega) (by omega) (by omega) hne
  (fun W' m=>CG.rdL (Bj.mod h1 m hnf) (by omega) hrr) h0 (by rw[<- hql] at h2;exact h2)).mono ?_ |> fun z=>by rw[hrl,hql] at z;exact z
 rintro e w' ⟨rfl,k0,k2,m⟩
 have hz:∀ b,(b=gv\/b=gq)->a.heap.size<=b:=fun b hb=>by
  rcases hb with rfl | rfl
  ·exact(h0.lt rfl).1
  ·exact(h2.lt rfl).1
 refine⟨rfl,Aa.md hE m hz,?_⟩;have hrd:(Sg.Ca ⟨v,r,q⟩ n x).reads=r:=by unfold Sg.Ca;split <;> rfl
 refine Ai.rep (us:=In a.heap.size (some ⟨gv,0,none⟩) cv Ar cr (some ⟨gq,0,none⟩) cq v.length hs ⟨v,r,q⟩) hS m (fun b hb=>?_) (Ai.iff.2 ⟨fun t ht=>?_,by unfold In;simp only[List.pairwise_cons,List.mem_cons,List.not_mem_nil,or_false,forall_eq_or_imp,forall_eq];exact⟨⟨hvr,hvq⟩,hrq,hpx⟩⟩) (fun t ht b hb=>?_)
 ·rcases hb with rfl | rfl
  ·exact .inl ⟨_,List.mem_of_getElem? (i:=0) rfl,rfl⟩
  ·exact .inl ⟨_,List.mem_of_getElem? (i:=2) rfl,rfl⟩
 ·unfold In at ht;simp only[List.mem_cons,List.not_mem_nil,or_false] at ht;rcases ht with rfl | rfl | rfl
  ·exact k0
  ·rw[hrd];exact Bj.mod h1 m hnf
  ·rw[hql] at k2;exact k2
 ·unfold In at ht;simp only[List.mem_cons,List.not_mem_nil,or_false] at ht;rcases ht with rfl | rfl | rfl
  ·exact .inl ⟨_,List.mem_of_getElem? (i:=0) rfl,hb⟩
  ·exact .inl ⟨_,List.mem_of_getElem? (i:=1) rfl,hb⟩
  ·exact .inl ⟨_,List.mem_of_getElem? (i:=2) rfl,hb⟩
section
variable {P:Program} {ops:Array Oper} {Q:Exit->Act->World->Prop} {md:Region.Mode} {S:World->Prop} {z:Nat}
theorem Zw (i j m:Nat){o o2 o3:Oper}{fuel:Nat}{listed:Array Bool}{a:Act}{w:World}(ho:ops[i]? = some o)(ho2:ops[j]? = some o2)(ho3:ops[m]? = some o3)(h:∀ K':Act->World->Prop,Shut (∀ a w,(i≠z->S w)->((i≠z->S w)->Qi P md ops Q S z fuel (listed.setIfInBounds i true) a w)->K' a w)->if Region.wanted o (yielded ops a.tmps)=true then Oper.wp P o a w K' Q else K' (a.put o.dst undef) w)(h2:∀ K':Act->World->Prop,Shut (∀ a w,(j≠z->S w)->((j≠z->S w)->Qi P md ops Q S z fuel (listed.setIfInBounds j true) a w)->K' a w)->if Region.wanted o2 (yielded ops a.tmps)=true then Oper.wp P o2 a w K' Q else K' (a.put o2.dst undef) w)(h3:∀ K':Act->World->Prop,Shut (∀ a w,(m≠z->S w)->((m≠z->S w)->Qi P md ops Q S z fuel (listed.setIfInBounds m true) a w)->K' a w)->if Region.wanted o3 (yielded ops a.tmps)=true then Oper.wp P o3 a w K' Q else K' (a.put o3.dst undef) w)(hr:Region.ready md ops listed=[i,j,m]:=by kernel_rfl):Qi P md ops Q S z (fuel+1) listed a w:=by
  refine⟨fun h0=>(by rw[hr] at h0;cases h0),fun k hk=>?_⟩;rw[hr] at hk;simp only[List.mem_cons,List.not_mem_nil,or_false] at hk;rcases hk with rfl | rfl | rfl
  · exact wpOp_step ho (fun K' hK=>h K' (fun a w hS hW=>hK a w ⟨hS,hW hS⟩))
  · exact wpOp_step ho2 (fun K' hK=>h2 K' (fun a w hS hW=>hK a w ⟨hS,hW hS⟩))
  · exact wpOp_step ho3 (fun K' hK=>h3 K' (fun a w hS hW=>hK a w ⟨hS,hW hS⟩))
end
theorem DA {ops:Array Oper}{o:Oper}{a:Act}{w:World}{K:Act->World->Prop}{Q:Exit->Act->World->Prop}{E0:Prop}(hgd:o.guard=none)(ho:o.op=Op.alloc 44)(h:∀ b w',b=w.heap.size->Bx w' b [.slice none 0 0,.slice none 0 0,.slice none 0 0]->Aa w w'->K (a.put o.dst (.pointer (some ⟨b,0,none⟩))) w'):if Region.wanted o (yielded ops a.tmps)=true then Oper.wp Tryz.prog o a w K Q else E0:=by
  have hw:Region.wanted o (yielded ops a.tmps)=true:=by simp[Region.wanted,hgd]
  rw[if_pos hw];obtain⟨dst,op,ty,pos,aft,gd⟩:=o;simp only at hgd ho;subst ho;go_simp;exact h _ _ rfl (by simpa using Bx.new w #[.slice none 0 0,.slice none 0 0,.slice none 0 0] 44) ((Aa.rfl' w).al _)
theorem Ua {w:World}{B b n:Nat}(h:Au w B 36 1 (some ⟨b,0,none⟩) n n (madeCells (Value.slice none 0 0).cells (n * 1)).toList):CG w B (some ⟨b,0,none⟩) n (List.replicate n []) (List.replicate n (none,0)):=by
  rw[Fj _ _ rfl] at h
  have e:A_ (AK (List.replicate n [])) (List.replicate n (none,0))=List.replicate n (Value.slice none 0 0):=by
    clear h;induction n with
    | zero=>rfl
    | succ n ih=>rw[List.replicate_succ,List.replicate_succ,List.replicate_succ];show _ :: A_ (AK (List.replicate n [])) (List.replicate n (none,0))=_;rw[ih];rfl
  have hl:(AK (List.replicate n ([]:List Int))).length=n:=by simp[AK]
  refine⟨by rw[hl];simp,?_,fun i it x hi hx=>?_,fun i j x y hij hx hy b hb=>?_,fun i x hx b hb=>?_⟩
  · rw[e,hl];exact h
  · have h1:=List.mem_of_getElem? hx;have h2:=List.mem_of_getElem? hi;rw[List.mem_replicate] at h1;unfold AK at h2;rw[List.mem_map] at h2;obtain⟨l,hl,rfl⟩:=h2;rw[List.mem_replicate] at hl;obtain rfl:=h1.2;obtain rfl:=hl.2;exact Au.nil _ _ _ _
  · have h1:=List.mem_of_getElem? hx;rw[List.mem_replicate] at h1;obtain rfl:=h1.2;cases hb
  · have h1:=List.mem_of_getElem? hx;rw[List.mem_replicate] at h1;rw[h1.2];intro e9;cases e9
theorem YH (n:Nat):(madeCells (Value.int .i64 0).cells (n * 1)).toList=Ah (List.replicate n 0):=by rw[Fj _ _ rfl];simp[Ah]
def DR (g:Sg.Ae)(k:Nat):List Int:=(g.take k).map (fun n=>if n.kind=0 then (0:Int) else 2)++List.replicate (g.length - k) 0
theorem Sh (g:Sg.Ae){k:Nat}(h:k<=g.length):(DR g k).length=g.length:=by unfold DR;simp;omega
theorem Si (g:Sg.Ae):DR g g.length=g.map (fun n=>if n.kind=0 then (0:Int) else 2):=by unfold DR;simp
theorem Qj (g:Sg.Ae){k:Nat}{n:Sg.BV}(h:g[k]? = some n):DR g (k+1)=if n.kind=0 then DR g k else (DR g k).set k 2:=by
  have hk:=(ge_.1 h).1;unfold DR;rw[C6 _ k h,List.map_append,show g.length - k=(g.length - (k+1))+1 by omega,List.replicate_succ];split
  · rename_i h0;simp[h0]
  · rename_i h0
    rw[List.set_append_right _ _ (by simp;omega),show k - ((g.take k).map fun n:Sg.BV=>if n.kind=0 then (0:Int) else 2).length=0 by simp;omega,List.set_cons_zero];simp[h0]
theorem Lt {α:Type _}(b q l c r g:α):[b,q,l,c,r,g].Perm [c,l,q,b,r,g]:=(List.perm_middle (l₁:=[b,q,l]) (l₂:=[r,g]) (a:=c)).trans (((List.perm_middle (l₁:=[b,q]) (l₂:=[r,g]) (a:=l)).trans (((List.perm_middle (l₁:=[b]) (l₂:=[r,g]) (a:=q)).trans (((((List.Perm.refl _).cons _).cons _).cons _).cons _)).cons _)).cons _)
theorem Jr {α:Type _}(q b l c r g:α):[q,b,l,c,r,g].Perm [c,l,q,b,r,g]:=(List.perm_middle (l₁:=[q,b,l]) (l₂:=[r,g]) (a:=c)).trans (((List.perm_middle (l₁:=[q,b]) (l₂:=[r,g]) (a:=l)).trans ((((((List.Perm.refl _).cons _).cons _).cons _).cons _).cons _)).cons _)
theorem Qk {α:Type _}(b l q c r g:α):[b,l,q,c,r,g].Perm [c,l,q,b,r,g]:=(List.perm_middle (l₁:=[b,l,q]) (l₂:=[r,g]) (a:=c)).trans (((List.perm_middle (l₁:=[b]) (l₂:=[q,r,g]) (a:=l)).trans (((List.perm_middle (l₁:=[b]) (l₂:=[r,g]) (a:=q)).trans (((((List.Perm.refl _).cons _).cons _).cons _).cons _)).cons _)).cons _)
theorem Ql {α:Type _}(l b q c r g:α):[l,b,q,c,r,g].Perm [c,l,q,b,r,g]:=(List.perm_middle (l₁:=[l,b,q]) (l₂:=[r,g]) (a:=c)).trans ((((List.perm_middle (l₁:=[b]) (l₂:=[r,g]) (a:=q)).trans (((((List.Perm.refl _).cons _).cons _).cons _).cons _)).cons _).cons _)
theorem Gb {α:Type _}(q l b c r g:α):[q,l,b,c,r,g].Perm [c,l,q,b,r,g]:=(List.perm_middle (l₁:=[q,l,b]) (l₂:=[r,g]) (a:=c)).trans (((List.perm_middle (l₁:=[q]) (l₂:=[b,r,g]) (a:=l)).trans ((((((List.Perm.refl _).cons _).cons _).cons _).cons _).cons _)).cons _)
theorem Js {α:Type _}(l q b c r g:α):[l,q,b,c,r,g].Perm [c,l,q,b,r,g]:=(List.perm_middle (l₁:=[l,q,b]) (l₂:=[r,g]) (a:=c)).trans (((((((List.Perm.refl _).cons _).cons _).cons _).cons _).cons _).cons _)
theorem Lu {α:Type _}(q l c b r g:α):[q,l,c,b,r,g].Perm [c,l,q,b,r,g]:=(List.perm_middle (l₁:=[q,l]) (l₂:=[b,r,g]) (a:=c)).trans (((List.perm_middle (l₁:=[q]) (l₂:=[b,r,g]) (a:=l)).trans ((((((List.Perm.refl _).cons _).cons _).cons _).cons _).cons _)).cons _)
theorem Qm {α:Type _}(l q c b r g:α):[l,q,c,b,r,g].Perm [c,l,q,b,r,g]:=(List.perm_middle (l₁:=[l,q]) (l₂:=[b,r,g]) (a:=c)).trans (((((((List.Perm.refl _).cons _).cons _).cons _).cons _).cons _).cons _)
theorem Vb {B:Nat}{ts:List (Th B)}{v v':World}{bt:Nat}(h:Ai ts v)(e:Aa v v')(hbx:Bx v' bt [.slice none 0 0,.slice none 0 0,.slice none 0 0])(hl:B<=bt)(hn:bt=v.heap.size):Ai (Th.box B bt [.slice none 0 0,.slice none 0 0,.slice none 0 0] :: ts) v' :=
  Ai.add h e _ ⟨hbx,hl⟩ (fun b e=>by have e2:b=bt:=e;omega)
theorem Zx {B:Nat}{ts:List (Th B)}{v v':World}{A:Option Addr}{x:List Int}(h:Ai ts v)(e:Aa v v')(hO:Au v' v.heap.size 3 1 A x.length x.length (Ah x))(hl:B<=v.heap.size):Ai (Th.own B 3 1 A x.length x.length (Ah x) :: ts) v' :=
  Ai.add h e _ (hO.mono hl) (fun _ e=>(hO.lt e).1)
theorem Sj {B:Nat}{ts:List (Th B)}{v v':World}{bl n:Nat}(h:Ai ts v)(e:Aa v v')(hO:Au v' B 36 1 (some ⟨bl,0,none⟩) n n (madeCells (Value.slice none 0 0).cells (n * 1)).toList)(hn:bl=v.heap.size):Ai (Th.ownL B (some ⟨bl,0,none⟩) n (List.replicate n []) (List.replicate n (none,0)) :: ts) v' :=
  Ai.add h e _ (Ua hO) (fun b e=>Or.elim e (fun e=>by have e2:some bl=some b:=e;injection e2;omega) (fun ⟨y,hy,e⟩=>by rw[List.mem_replicate] at hy;obtain rfl:=hy.2;cases e))
theorem Qn {B:Nat}{ts:List (Th B)}{v v':World}{bq n:Nat}(h:Ai ts v)(e:Aa v v')(hO:Au v' B 3 1 (some ⟨bq,0,none⟩) n n (madeCells (Value.int .i64 0).cells (n * 1)).toList)(hn:bq=v.heap.size):Ai (Th.own B 3 1 (some ⟨bq,0,none⟩) n n (Ah (List.replicate n 0)) :: ts) v':=by
  rw[YH] at hO;exact Ai.add h e _ hO (fun b e=>by have e2:some bq=some b:=e;injection e2;omega)
theorem JQ {B:Nat}{ts:List (Th B)}{v:World}{bt:Nat}{o0 o1 o2:Value}(h:Ai ts v)(i:Nat)(ht:ts[i]? = some (Th.box B bt [o0,o1,o2]))(u0 u1 u2:Value) :
    Ai (ts.set i (Th.box B bt [u0,u1,u2])) (((v.setCell ⟨bt,0,none⟩ u0).setCell ⟨bt,1,none⟩ u1).setCell ⟨bt,2,none⟩ u2) :=
  have y:Bx v bt [o0,o1,o2]/\B<=bt:=Ai.get h i ht;Ai.set h i ht (AF.set3 v bt u0 u1 u2) (Th.box B bt [u0,u1,u2]) (fun _ e=>.inl e) ⟨y.1.set3 _ _ _,y.2⟩ (fun _ e=>.inl e)
theorem JR {a v:World}{bt:Nat}(h:Aa a v)(hl:a.heap.size<=bt)(u0 u1 u2:Value):Aa a (((v.setCell ⟨bt,0,none⟩ u0).setCell ⟨bt,1,none⟩ u1).setCell ⟨bt,2,none⟩ u2) :=
  Aa.md h (AF.set3 v bt u0 u1 u2) (fun _ e=>by rw[e];exact hl)
theorem BI {B:Nat}{ts:List (Th B)}{v:World}{bt:Nat}{o0 o1 o2:Value}(h:Ai ts v)(i:Nat)(ht:ts[i]? = some (Th.box B bt [o0,o1,o2])) :
    v.cell? ⟨bt,0,none⟩=some o0/\v.cell? ⟨bt,1,none⟩=some o1/\v.cell? ⟨bt,2,none⟩=some o2/\v.frozen? ⟨bt,0,none⟩=false/\v.frozen? ⟨bt,1,none⟩=false/\v.frozen? ⟨bt,2,none⟩=false/\bt<v.heap.size :=
  have y:Bx v bt [o0,o1,o2]/\B<=bt:=Ai.get h i ht;⟨y.1.cell (j:=0) rfl,y.1.cell (j:=1) rfl,y.1.cell (j:=2) rfl,y.1.free 0,y.1.free 1,y.1.free 2,y.1.lt⟩
theorem Hw {a v0 v:World}(h:Aa a v0)(e:Aa v0 v):a.heap.size<=v.heap.size:=Nat.le_trans h.size e.size
def MO {B:Nat}(bt bl bq b0:Nat)(A:Option Addr)(c:Nat)(A1:Option Addr)(x:List Int)(L:Nat)(q:List Int)(r0 r1 r2:Value):List (Th B) :=
  [Th.own B 3 1 A1 x.length x.length (Ah x),Th.ownL B (some ⟨bl,0,none⟩) L (List.replicate L []) (List.replicate L (none,0)),Th.own B 3 1 (some ⟨bq,0,none⟩) L L (Ah q),
   Th.box B bt [.slice A1 x.length x.length,.slice (some ⟨bl,0,none⟩) L L,.slice (some ⟨bq,0,none⟩) L L],Th.box B b0 [r0,r1,r2],Th.box B B [.slice A L c]]
theorem za1{p:Prop}(h:p:=by
 refine zh (hK.out _ _) (E5.out.cellE QG.out) fun hHeld=>?_;clear hK K;try simp only[Act.put,pu]
 refine zr 7 rfl fun K hK=>?_;refine Be rfl rfl Bc (B:=w.heap.size) rfl rfl (by omega) (by omega) (Hw HB.out E5.out) ?_;intro bq v6 hnb hmk he6;have SS:=lh (Qn SS.out he6 hmk hnb);have E6:=lh (E5.out.tr he6);clear he6 hmk hnb;try simp only[pg]
 refine zh (hK.out _ _) (E6.out.cellE QG.out) fun hHeld=>?_;clear hK K;try simp only[Act.put,pu]
 refine zy 8 ?_;refine zr 10 rfl fun K hK=>?_;obtain⟨r90,r91,r92,f90,f91,f92,l9⟩:=BI SS.out 2 rfl;go_simp;have SS:=lh (JQ SS.out 2 rfl (.slice A1 x.length x.length) (.slice (some ⟨bl,0,none⟩) g.length g.length) (.slice (some ⟨bq,0,none⟩) g.length g.length));have E9:=lh (JR (HB.out.tr E6.out) LBT (.slice A1 x.length x.length) (.slice (some ⟨bl,0,none⟩) g.length g.length) (.slice (some ⟨bq,0,none⟩) g.length g.length));refine hK.out _ _ (fun e=>absurd rfl e) (fun hh=>?_);clear hK K hHeld hh;try simp only[Act.put]
 refine zn ?_;go_wp2_with fail
 go_meet
 exact⟨bt,A1,bl,bq,rfl,lh (Ai.perm SS.out (Gb _ _ _ _ _ _)),E9⟩):p:=h
theorem zy0{p:Prop}(h:p:=by
 refine zh (hK.out _ _) (E4.out.cellE QG.out) fun hHeld=>?_;clear hK K;try simp only[Act.put,pu]
 refine SX 4 7 rfl rfl (fun K hK=>?_) (fun K hK=>?_)
 · refine Be rfl rfl Da (B:=w.heap.size) rfl rfl (by omega) (by omega) (Hw HB.out E4.out) ?_;intro bl v5 hnb hmk he5;have SS:=lh (Sj SS.out he5 hmk hnb);have E5:=lh (E4.out.tr he5);clear he5 hmk hnb;try simp only[pg]
   exact za1
 · refine Be rfl rfl Bc (B:=w.heap.size) rfl rfl (by omega) (by omega) (Hw HB.out E4.out) ?_;intro bq v5 hnb hmk he5;have SS:=lh (Qn SS.out he5 hmk hnb);have E5:=lh (E4.out.tr he5);clear he5 hmk hnb;try simp only[pg]
   refine zh (hK.out _ _) (E5.out.cellE QG.out) fun hHeld=>?_;clear hK K;try simp only[Act.put,pu]
   refine zr 4 rfl fun K hK=>?_;refine Be rfl rfl Da (B:=w.heap.size) rfl rfl (by omega) (by omega) (Hw HB.out E5.out) ?_;intro bl v6 hnb hmk he6;have SS:=lh (Sj SS.out he6 hmk hnb);have E6:=lh (E5.out.tr he6);clear he6 hmk hnb;try simp only[pg]
   refine zh (hK.out _ _) (E6.out.cellE QG.out) fun hHeld=>?_;clear hK K;try simp only[Act.put,pu]
   refine zy 8 ?_;refine zr 10 rfl fun K hK=>?_;obtain⟨r90,r91,r92,f90,f91,f92,l9⟩:=BI SS.out 2 rfl;go_simp;have SS:=lh (JQ SS.out 2 rfl (.slice A1 x.length x.length) (.slice (some ⟨bl,0,none⟩) g.length g.length) (.slice (some ⟨bq,0,none⟩) g.length g.length));have E9:=lh (JR (HB.out.tr E6.out) LBT (.slice A1 x.length x.length) (.slice (some ⟨bl,0,none⟩) g.length g.length) (.slice (some ⟨bq,0,none⟩) g.length g.length));refine hK.out _ _ (fun e=>absurd rfl e) (fun hh=>?_);clear hK K hHeld hh;try simp only[Act.put]
   refine zn ?_;go_wp2_with fail
   go_meet
   exact⟨bt,A1,bl,bq,rfl,lh (Ai.perm SS.out (Js _ _ _ _ _ _)),E9⟩):p:=h
theorem zz0{p:Prop}(h:p:=by
 refine zh (hK.out _ _) (E4.out.cellE QG.out) fun hHeld=>?_;clear hK K;try simp only[Act.put,pu]
 refine SX 7 9 rfl rfl (fun K hK=>?_) (fun K hK=>?_)
 · refine Be rfl rfl Bc (B:=w.heap.size) rfl rfl (by omega) (by omega) (Hw HB.out E4.out) ?_;intro bq v5 hnb hmk he5;have SS:=lh (Qn SS.out he5 hmk hnb);have E5:=lh (E4.out.tr he5);clear he5 hmk hnb;try simp only[pg]
   refine zh (hK.out _ _) (E5.out.cellE QG.out) fun hHeld=>?_;clear hK K;try simp only[Act.put,pu]
   refine zy 8 ?_;refine zr 9 rfl fun K hK=>?_;refine DA rfl rfl ?_;intro bt v6 hbt hbx he6;have LBT:w.heap.size<=bt:=by rw[hbt];exact Hw HB.out E5.out
   have SS:=lh (Vb SS.out he6 hbx LBT hbt);have E6:=lh (E5.out.tr he6);clear he6 hbt hbx;try simp only[pg]
   refine zh (hK.out _ _) (E6.out.cellE QG.out) fun hHeld=>?_;clear hK K;try simp only[Act.put,pu]
   refine zr 10 rfl fun K hK=>?_;obtain⟨r90,r91,r92,f90,f91,f92,l9⟩:=BI SS.out 0 rfl;go_simp;have SS:=lh (JQ SS.out 0 rfl (.slice A1 x.length x.length) (.slice (some ⟨bl,0,none⟩) g.length g.length) (.slice (some ⟨bq,0,none⟩) g.length g.length));have E9:=lh (JR (HB.out.tr E6.out) LBT (.slice A1 x.length x.length) (.slice (some ⟨bl,0,none⟩) g.length g.length) (.slice (some ⟨bq,0,none⟩) g.length g.length));refine hK.out _ _ (fun e=>absurd rfl e) (fun hh=>?_);clear hK K hHeld hh;try simp only[Act.put]
   refine zn ?_;go_wp2_with fail
   go_meet
   exact⟨bt,A1,bl,bq,rfl,lh (Ai.perm SS.out (Lt _ _ _ _ _ _)),E9⟩
 · refine DA rfl rfl ?_;intro bt v5 hbt hbx he5;have LBT:w.heap.size<=bt:=by rw[hbt];exact Hw HB.out E4.out
   have SS:=lh (Vb SS.out he5 hbx LBT hbt);have E5:=lh (E4.out.tr he5);clear he5 hbt hbx;try simp only[pg]
   refine zh (hK.out _ _) (E5.out.cellE QG.out) fun hHeld=>?_;clear hK K;try simp only[Act.put,pu]
   refine zr 7 rfl fun K hK=>?_;refine Be rfl rfl Bc (B:=w.heap.size) rfl rfl (by omega) (by omega) (Hw HB.out E5.out) ?_;intro bq v6 hnb hmk he6;have SS:=lh (Qn SS.out he6 hmk hnb);have E6:=lh (E5.out.tr he6);clear he6 hmk hnb;try simp only[pg]
   refine zh (hK.out _ _) (E6.out.cellE QG.out) fun hHeld=>?_;clear hK K;try simp only[Act.put,pu]
   refine zy 8 ?_;refine zr 10 rfl fun K hK=>?_;obtain⟨r90,r91,r92,f90,f91,f92,l9⟩:=BI SS.out 1 rfl;go_simp;have SS:=lh (JQ SS.out 1 rfl (.slice A1 x.length x.length) (.slice (some ⟨bl,0,none⟩) g.length g.length) (.slice (some ⟨bq,0,none⟩) g.length g.length));have E9:=lh (JR (HB.out.tr E6.out) LBT (.slice A1 x.length x.length) (.slice (some ⟨bl,0,none⟩) g.length g.length) (.slice (some ⟨bq,0,none⟩) g.length g.length));refine hK.out _ _ (fun e=>absurd rfl e) (fun hh=>?_);clear hK K hHeld hh;try simp only[Act.put]
   refine zn ?_;go_wp2_with fail
   go_meet
   exact⟨bt,A1,bl,bq,rfl,lh (Ai.perm SS.out (Jr _ _ _ _ _ _)),E9⟩):p:=h
theorem zb1{p:Prop}(h:p:=by
 refine zh (hK.out _ _) (E5.out.cellE QG.out) fun hHeld=>?_;clear hK K;try simp only[Act.put,pu]
 refine zr 7 rfl fun K hK=>?_;refine Be rfl rfl Bc (B:=w.heap.size) rfl rfl (by omega) (by omega) (Hw HB.out E5.out) ?_;intro bq v6 hnb hmk he6;have SS:=lh (Qn SS.out he6 hmk hnb);have E6:=lh (E5.out.tr he6);clear he6 hmk hnb;try simp only[pg]
 refine zh (hK.out _ _) (E6.out.cellE QG.out) fun hHeld=>?_;clear hK K;try simp only[Act.put,pu]
 refine zy 8 ?_;refine zr 10 rfl fun K hK=>?_;obtain⟨r90,r91,r92,f90,f91,f92,l9⟩:=BI SS.out 3 rfl;go_simp;have SS:=lh (JQ SS.out 3 rfl (.slice A1 x.length x.length) (.slice (some ⟨bl,0,none⟩) g.length g.length) (.slice (some ⟨bq,0,none⟩) g.length g.length));have E9:=lh (JR (HB.out.tr E6.out) LBT (.slice A1 x.length x.length) (.slice (some ⟨bl,0,none⟩) g.length g.length) (.slice (some ⟨bq,0,none⟩) g.length g.length));refine hK.out _ _ (fun e=>absurd rfl e) (fun hh=>?_);clear hK K hHeld hh;try simp only[Act.put]
 refine zn ?_;go_wp2_with fail
 go_meet
 exact⟨bt,A1,bl,bq,rfl,lh (Ai.perm SS.out (Lu _ _ _ _ _ _)),E9⟩):p:=h
theorem zc1{p:Prop}(h:p:=by
 refine zh (hK.out _ _) (E3.out.cellE QG.out) fun hHeld=>?_;clear hK K;try simp only[Act.put,pu]
 refine SX 4 6 rfl rfl (fun K hK=>?_) (fun K hK=>?_)
 · refine Be rfl rfl Da (B:=w.heap.size) rfl rfl (by omega) (by omega) (Hw HB.out E3.out) ?_;intro bl v4 hnb hmk he4;have SS:=lh (Sj SS.out he4 hmk hnb);have E4:=lh (E3.out.tr he4);clear he4 hmk hnb;try simp only[pg]
   refine zh (hK.out _ _) (E4.out.cellE QG.out) fun hHeld=>?_;clear hK K;try simp only[Act.put,pu]
   refine zr 6 rfl fun K hK=>?_;go_simp;refine(Ef A g.length c _).mono ?_;rintro e v5 ⟨rfl,he5⟩;have SS:=lh (Ai.ext SS.out he5);have E5:=lh (E4.out.tr he5);clear he5;try go_wp2_with fail
   exact za1
 · go_simp;refine(Ef A g.length c _).mono ?_;rintro e v4 ⟨rfl,he4⟩;have SS:=lh (Ai.ext SS.out he4);have E4:=lh (E3.out.tr he4);clear he4;try go_wp2_with fail
   exact zy0):p:=h
set_option maxRecDepth 100000 in
set_option maxHeartbeats 16000000 in
theorem O8 (A Ac:Option Addr)(c cc:Nat)(g:Sg.Ae)(x:List Int)(w:World)(h:Eg w A g)(hx:Rd w 1 Ac x.length (Ah x))(hG:Sg.AG g=true)(hC:Sg.AT g x=true) :
    Calls Tryz.prog 18 #[.agg #[.slice A g.length c],.slice Ac x.length cc] w fun e w'=>∃ A1 bl bq,e= .returned (.agg #[.slice A1 g.length g.length,.slice (some ⟨bl,0,none⟩) g.length g.length,.slice (some ⟨bq,0,none⟩) g.length g.length]) /\
      Ai (In w.heap.size A1 g.length (some ⟨bl,0,none⟩) g.length (some ⟨bq,0,none⟩) g.length g.length (List.replicate g.length (none,0)) (Sg.Cs g x)) w'/\Aa w w':=by
  have H:=lh h;have HX:=lh hx;have hgl:=h.1;have hxl:=Sg.FP hC;have hxb:x.length<=4194304:=by omega
  have HXL:=lh hxl;have HGC:=lh (show (Sg.AG g && Sg.AT g x)=true by rw[hG,hC];rfl);have HCL:=lh (fun w1 h1=>Kv Ac x.length cc x w1 h1 hxb);have HCS:=lh (fun k n h=>Qj g (k:=k) (n:=n) h);have HCN:=lh (fun k h=>Sh g (k:=k) h);have HCA:=lh (Si g);have EB:=lh (((Aa.rfl' w).al (.cells #[.slice A g.length c] 35)).al (.cells #[.slice none 0 0,.slice none 0 0,.slice none 0 0] 44));have g0:=(Bx.new w #[.slice A g.length c] 35).al (.cells #[.slice none 0 0,.slice none 0 0,.slice none 0 0] 44);have d0:=Bx.new (World.alloc w (.cells #[.slice A g.length c] 35)) #[.slice none 0 0,.slice none 0 0,.slice none 0 0] 44;simp only[World.size_alloc] at d0;have LB1:w.heap.size<=w.heap.size+1:=by omega
  have SB:=lh (show Ai [Th.box w.heap.size (w.heap.size+1) [.slice none 0 0,.slice none 0 0,.slice none 0 0],Th.box w.heap.size w.heap.size [.slice A g.length c]] (World.alloc (World.alloc w (.cells #[.slice A g.length c] 35)) (.cells #[.slice none 0 0,.slice none 0 0,.slice none 0 0] 44)) from ⟨⟨d0,LB1⟩,fun s hs b hb=>(by rw[List.mem_singleton.1 hs];intro e9;have e1:b=w.heap.size+1:=hb;have e2:b=w.heap.size:=e9;omega),⟨⟨g0,Nat.le_refl _⟩,fun s hs=>(by cases hs),trivial⟩⟩);have qg:=g0.cell (j:=0) rfl;clear h hx hC g0 d0 hxl;go_enter Tryz.func18,Tryz.ntmps18;go_upto_region 1 with fail
  generalize World.alloc (World.alloc w (.cells #[.slice A g.length c] 35)) (.cells #[.slice none 0 0,.slice none 0 0,.slice none 0 0] 44)=w0 at *;have bqg:=AA qg;go_wp2_with fail
  refine(Gu A Ac c cc g x _ (H.out.ext EB.out) (HX.out.ext EB.out)).mono ?_;rintro e w1 ⟨rfl,he1⟩;rw[HGC.out];have HB:=lh (EB.out.tr he1);have q1:=he1.cellE qg;have bq1:=AA q1;have QG:=lh q1;have S1:=lh (Ai.ext SB.out he1);clear he1 SB EB qg bqg HGC;go_upto_region 3 with fail
  go_cut [5] (fun s5 wx=>∃ (bt:Nat) (A1:Option Addr) (bl bq:Nat),s5= .pointer (some ⟨bt,0,none⟩)/\Hid (Ai (MO (B:=w.heap.size) bt bl bq (w.heap.size+1) A c A1 x g.length (List.replicate g.length 0) (.slice none 0 0) (.slice none 0 0) (.slice none 0 0)) wx)/\Hid (Aa w wx))
  case first =>
    have E0:=lh ((Aa.rfl' w1).dr);have SS:=lh (Ai.ext S1.out E0.out);clear S1;refine zb 10 (fun W=>W.cell? ⟨w.heap.size,0,none⟩=some (.slice A g.length c)) ?_ (fun hHeld=>?_)
    · exact E0.out.cellE QG.out
    refine zy 0 ?_;refine zy 2 ?_;refine zy 5 ?_;refine SX 1 9 rfl rfl (fun K hK=>?_) (fun K hK=>?_)
    · go_simp;refine(HCL.out _ (HX.out.ext (HB.out.tr E0.out))).mono ?_;rintro e v1 ⟨A1,rfl,hO1,he1⟩;have SS:=lh (Zx SS.out he1 hO1 (Hw HB.out E0.out));have E1:=lh (E0.out.tr he1);clear he1 hO1;try go_wp2_with fail
      refine zh (hK.out _ _) (E1.out.cellE QG.out) fun hHeld=>?_;clear hK K;try simp only[Act.put,pu]
      refine SX 3 9 rfl rfl (fun K hK=>?_) (fun K hK=>?_)
      · go_simp;refine(Ef A g.length c _).mono ?_;rintro e v2 ⟨rfl,he2⟩;have SS:=lh (Ai.ext SS.out he2);have E2:=lh (E1.out.tr he2);clear he2;try go_wp2_with fail
        refine zh (hK.out _ _) (E2.out.cellE QG.out) fun hHeld=>?_;clear hK K;try simp only[Act.put,pu]
        refine Zw 4 6 9 rfl rfl rfl (fun K hK=>?_) (fun K hK=>?_) (fun K hK=>?_)
        · refine Be rfl rfl Da (B:=w.heap.size) rfl rfl (by omega) (by omega) (Hw HB.out E2.out) ?_;intro bl v3 hnb hmk he3;have SS:=lh (Sj SS.out he3 hmk hnb);have E3:=lh (E2.out.tr he3);clear he3 hmk hnb;try simp only[pg]
          refine zh (hK.out _ _) (E3.out.cellE QG.out) fun hHeld=>?_;clear hK K;try simp only[Act.put,pu]
          refine SX 6 9 rfl rfl (fun K hK=>?_) (fun K hK=>?_)
          · go_simp;refine(Ef A g.length c _).mono ?_;rintro e v4 ⟨rfl,he4⟩;have SS:=lh (Ai.ext SS.out he4);have E4:=lh (E3.out.tr he4);clear he4;try go_wp2_with fail
            exact zz0
          · refine DA rfl rfl ?_;intro bt v4 hbt hbx he4;have LBT:w.heap.size<=bt:=by rw[hbt];exact Hw HB.out E3.out
            have SS:=lh (Vb SS.out he4 hbx LBT hbt);have E4:=lh (E3.out.tr he4);clear he4 hbt hbx;try simp only[pg]
            refine zh (hK.out _ _) (E4.out.cellE QG.out) fun hHeld=>?_;clear hK K;try simp only[Act.put,pu]
            refine zr 6 rfl fun K hK=>?_;go_simp;refine(Ef A g.length c _).mono ?_;rintro e v5 ⟨rfl,he5⟩;have SS:=lh (Ai.ext SS.out he5);have E5:=lh (E4.out.tr he5);clear he5;try go_wp2_with fail
            refine zh (hK.out _ _) (E5.out.cellE QG.out) fun hHeld=>?_;clear hK K;try simp only[Act.put,pu]
            refine zr 7 rfl fun K hK=>?_;refine Be rfl rfl Bc (B:=w.heap.size) rfl rfl (by omega) (by omega) (Hw HB.out E5.out) ?_;intro bq v6 hnb hmk he6;have SS:=lh (Qn SS.out he6 hmk hnb);have E6:=lh (E5.out.tr he6);clear he6 hmk hnb;try simp only[pg]
            refine zh (hK.out _ _) (E6.out.cellE QG.out) fun hHeld=>?_;clear hK K;try simp only[Act.put,pu]
            refine zy 8 ?_;refine zr 10 rfl fun K hK=>?_;obtain⟨r90,r91,r92,f90,f91,f92,l9⟩:=BI SS.out 1 rfl;go_simp;have SS:=lh (JQ SS.out 1 rfl (.slice A1 x.length x.length) (.slice (some ⟨bl,0,none⟩) g.length g.length) (.slice (some ⟨bq,0,none⟩) g.length g.length));have E9:=lh (JR (HB.out.tr E6.out) LBT (.slice A1 x.length x.length) (.slice (some ⟨bl,0,none⟩) g.length g.length) (.slice (some ⟨bq,0,none⟩) g.length g.length));refine hK.out _ _ (fun e=>absurd rfl e) (fun hh=>?_);clear hK K hHeld hh;try simp only[Act.put]
            refine zn ?_;go_wp2_with fail
            go_meet
            exact⟨bt,A1,bl,bq,rfl,lh (Ai.perm SS.out (Jr _ _ _ _ _ _)),E9⟩
        · go_simp;refine(Ef A g.length c _).mono ?_;rintro e v3 ⟨rfl,he3⟩;have SS:=lh (Ai.ext SS.out he3);have E3:=lh (E2.out.tr he3);clear he3;try go_wp2_with fail
          refine zh (hK.out _ _) (E3.out.cellE QG.out) fun hHeld=>?_;clear hK K;try simp only[Act.put,pu]
          refine Zw 4 7 9 rfl rfl rfl (fun K hK=>?_) (fun K hK=>?_) (fun K hK=>?_)
          · refine Be rfl rfl Da (B:=w.heap.size) rfl rfl (by omega) (by omega) (Hw HB.out E3.out) ?_;intro bl v4 hnb hmk he4;have SS:=lh (Sj SS.out he4 hmk hnb);have E4:=lh (E3.out.tr he4);clear he4 hmk hnb;try simp only[pg]
            exact zz0
          · refine Be rfl rfl Bc (B:=w.heap.size) rfl rfl (by omega) (by omega) (Hw HB.out E3.out) ?_;intro bq v4 hnb hmk he4;have SS:=lh (Qn SS.out he4 hmk hnb);have E4:=lh (E3.out.tr he4);clear he4 hmk hnb;try simp only[pg]
            refine zh (hK.out _ _) (E4.out.cellE QG.out) fun hHeld=>?_;clear hK K;try simp only[Act.put,pu]
            refine SX 4 9 rfl rfl (fun K hK=>?_) (fun K hK=>?_)
            · refine Be rfl rfl Da (B:=w.heap.size) rfl rfl (by omega) (by omega) (Hw HB.out E4.out) ?_;intro bl v5 hnb hmk he5;have SS:=lh (Sj SS.out he5 hmk hnb);have E5:=lh (E4.out.tr he5);clear he5 hmk hnb;try simp only[pg]
              refine zh (hK.out _ _) (E5.out.cellE QG.out) fun hHeld=>?_;clear hK K;try simp only[Act.put,pu]
              refine zy 8 ?_;refine zr 9 rfl fun K hK=>?_;refine DA rfl rfl ?_;intro bt v6 hbt hbx he6;have LBT:w.heap.size<=bt:=by rw[hbt];exact Hw HB.out E5.out
              have SS:=lh (Vb SS.out he6 hbx LBT hbt);have E6:=lh (E5.out.tr he6);clear he6 hbt hbx;try simp only[pg]
              refine zh (hK.out _ _) (E6.out.cellE QG.out) fun hHeld=>?_;clear hK K;try simp only[Act.put,pu]
              refine zr 10 rfl fun K hK=>?_;obtain⟨r90,r91,r92,f90,f91,f92,l9⟩:=BI SS.out 0 rfl;go_simp;have SS:=lh (JQ SS.out 0 rfl (.slice A1 x.length x.length) (.slice (some ⟨bl,0,none⟩) g.length g.length) (.slice (some ⟨bq,0,none⟩) g.length g.length));have E9:=lh (JR (HB.out.tr E6.out) LBT (.slice A1 x.length x.length) (.slice (some ⟨bl,0,none⟩) g.length g.length) (.slice (some ⟨bq,0,none⟩) g.length g.length));refine hK.out _ _ (fun e=>absurd rfl e) (fun hh=>?_);clear hK K hHeld hh;try simp only[Act.put]
              refine zn ?_;go_wp2_with fail
              go_meet
              exact⟨bt,A1,bl,bq,rfl,lh (Ai.perm SS.out (Qk _ _ _ _ _ _)),E9⟩
            · refine DA rfl rfl ?_;intro bt v5 hbt hbx he5;have LBT:w.heap.size<=bt:=by rw[hbt];exact Hw HB.out E4.out
              have SS:=lh (Vb SS.out he5 hbx LBT hbt);have E5:=lh (E4.out.tr he5);clear he5 hbt hbx;try simp only[pg]
              refine zh (hK.out _ _) (E5.out.cellE QG.out) fun hHeld=>?_;clear hK K;try simp only[Act.put,pu]
              refine zr 4 rfl fun K hK=>?_;refine Be rfl rfl Da (B:=w.heap.size) rfl rfl (by omega) (by omega) (Hw HB.out E5.out) ?_;intro bl v6 hnb hmk he6;have SS:=lh (Sj SS.out he6 hmk hnb);have E6:=lh (E5.out.tr he6);clear he6 hmk hnb;try simp only[pg]
              refine zh (hK.out _ _) (E6.out.cellE QG.out) fun hHeld=>?_;clear hK K;try simp only[Act.put,pu]
              refine zy 8 ?_;refine zr 10 rfl fun K hK=>?_;obtain⟨r90,r91,r92,f90,f91,f92,l9⟩:=BI SS.out 1 rfl;go_simp;have SS:=lh (JQ SS.out 1 rfl (.slice A1 x.length x.length) (.slice (some ⟨bl,0,none⟩) g.length g.length) (.slice (some ⟨bq,0,none⟩) g.length g.length));have E9:=lh (JR (HB.out.tr E6.out) LBT (.slice A1 x.length x.length) (.slice (some ⟨bl,0,none⟩) g.length g.length) (.slice (some ⟨bq,0,none⟩) g.length g.length));refine hK.out _ _ (fun e=>absurd rfl e) (fun hh=>?_);clear hK K hHeld hh;try simp only[Act.put]
              refine zn ?_;go_wp2_with fail
              go_meet
              exact⟨bt,A1,bl,bq,rfl,lh (Ai.perm SS.out (Ql _ _ _ _ _ _)),E9⟩
          · refine DA rfl rfl ?_;intro bt v4 hbt hbx he4;have LBT:w.heap.size<=bt:=by rw[hbt];exact Hw HB.out E3.out
            have SS:=lh (Vb SS.out he4 hbx LBT hbt);have E4:=lh (E3.out.tr he4);clear he4 hbt hbx;try simp only[pg]
            exact zy0
        · refine DA rfl rfl ?_;intro bt v3 hbt hbx he3;have LBT:w.heap.size<=bt:=by rw[hbt];exact Hw HB.out E2.out
          have SS:=lh (Vb SS.out he3 hbx LBT hbt);have E3:=lh (E2.out.tr he3);clear he3 hbt hbx;try simp only[pg]
          exact zc1
      · refine DA rfl rfl ?_;intro bt v2 hbt hbx he2;have LBT:w.heap.size<=bt:=by rw[hbt];exact Hw HB.out E1.out
        have SS:=lh (Vb SS.out he2 hbx LBT hbt);have E2:=lh (E1.out.tr he2);clear he2 hbt hbx;try simp only[pg]
        refine zh (hK.out _ _) (E2.out.cellE QG.out) fun hHeld=>?_;clear hK K;try simp only[Act.put,pu]
        refine zr 3 rfl fun K hK=>?_;go_simp;refine(Ef A g.length c _).mono ?_;rintro e v3 ⟨rfl,he3⟩;have SS:=lh (Ai.ext SS.out he3);have E3:=lh (E2.out.tr he3);clear he3;try go_wp2_with fail
        exact zc1
    · refine DA rfl rfl ?_;intro bt v1 hbt hbx he1;have LBT:w.heap.size<=bt:=by rw[hbt];exact Hw HB.out E0.out
      have SS:=lh (Vb SS.out he1 hbx LBT hbt);have E1:=lh (E0.out.tr he1);clear he1 hbt hbx;try simp only[pg]
      refine zh (hK.out _ _) (E1.out.cellE QG.out) fun hHeld=>?_;clear hK K;try simp only[Act.put,pu]
      refine zr 1 rfl fun K hK=>?_;go_simp;refine(HCL.out _ (HX.out.ext (HB.out.tr E1.out))).mono ?_;rintro e v2 ⟨A1,rfl,hO1,he2⟩;have SS:=lh (Zx SS.out he2 hO1 (Hw HB.out E1.out));have E2:=lh (E1.out.tr he2);clear he2 hO1;try go_wp2_with fail
      refine zh (hK.out _ _) (E2.out.cellE QG.out) fun hHeld=>?_;clear hK K;try simp only[Act.put,pu]
      refine zr 3 rfl fun K hK=>?_;go_simp;refine(Ef A g.length c _).mono ?_;rintro e v3 ⟨rfl,he3⟩;have SS:=lh (Ai.ext SS.out he3);have E3:=lh (E2.out.tr he3);clear he3;try go_wp2_with fail
      refine zh (hK.out _ _) (E3.out.cellE QG.out) fun hHeld=>?_;clear hK K;try simp only[Act.put,pu]
      refine SX 4 6 rfl rfl (fun K hK=>?_) (fun K hK=>?_)
      · refine Be rfl rfl Da (B:=w.heap.size) rfl rfl (by omega) (by omega) (Hw HB.out E3.out) ?_;intro bl v4 hnb hmk he4;have SS:=lh (Sj SS.out he4 hmk hnb);have E4:=lh (E3.out.tr he4);clear he4 hmk hnb;try simp only[pg]
        refine zh (hK.out _ _) (E4.out.cellE QG.out) fun hHeld=>?_;clear hK K;try simp only[Act.put,pu]
        refine zr 6 rfl fun K hK=>?_;go_simp;refine(Ef A g.length c _).mono ?_;rintro e v5 ⟨rfl,he5⟩;have SS:=lh (Ai.ext SS.out he5);have E5:=lh (E4.out.tr he5);clear he5;try go_wp2_with fail
        exact zb1
      · go_simp;refine(Ef A g.length c _).mono ?_;rintro e v4 ⟨rfl,he4⟩;have SS:=lh (Ai.ext SS.out he4);have E4:=lh (E3.out.tr he4);clear he4;try go_wp2_with fail
        refine zh (hK.out _ _) (E4.out.cellE QG.out) fun hHeld=>?_;clear hK K;try simp only[Act.put,pu]
        refine SX 4 7 rfl rfl (fun K hK=>?_) (fun K hK=>?_)
        · refine Be rfl rfl Da (B:=w.heap.size) rfl rfl (by omega) (by omega) (Hw HB.out E4.out) ?_;intro bl v5 hnb hmk he5;have SS:=lh (Sj SS.out he5 hmk hnb);have E5:=lh (E4.out.tr he5);clear he5 hmk hnb;try simp only[pg]
          exact zb1
        · refine Be rfl rfl Bc (B:=w.heap.size) rfl rfl (by omega) (by omega) (Hw HB.out E4.out) ?_;intro bq v5 hnb hmk he5;have SS:=lh (Qn SS.out he5 hmk hnb);have E5:=lh (E4.out.tr he5);clear he5 hmk hnb;try simp only[pg]
          refine zh (hK.out _ _) (E5.out.cellE QG.out) fun hHeld=>?_;clear hK K;try simp only[Act.put,pu]
          refine zr 4 rfl fun K hK=>?_;refine Be rfl rfl Da (B:=w.heap.size) rfl rfl (by omega) (by omega) (Hw HB.out E5.out) ?_;intro bl v6 hnb hmk he6;have SS:=lh (Sj SS.out he6 hmk hnb);have E6:=lh (E5.out.tr he6);clear he6 hmk hnb;try simp only[pg]
          refine zh (hK.out _ _) (E6.out.cellE QG.out) fun hHeld=>?_;clear hK K;try simp only[Act.put,pu]
          refine zy 8 ?_;refine zr 10 rfl fun K hK=>?_;obtain⟨r90,r91,r92,f90,f91,f92,l9⟩:=BI SS.out 3 rfl;go_simp;have SS:=lh (JQ SS.out 3 rfl (.slice A1 x.length x.length) (.slice (some ⟨bl,0,none⟩) g.length g.length) (.slice (some ⟨bq,0,none⟩) g.length g.length));have E9:=lh (JR (HB.out.tr E6.out) LBT (.slice A1 x.length x.length) (.slice (some ⟨bl,0,none⟩) g.length g.length) (.slice (some ⟨bq,0,none⟩) g.length g.length));refine hK.out _ _ (fun e=>absurd rfl e) (fun hh=>?_);clear hK K hHeld hh;try simp only[Act.put]
          refine zn ?_;go_wp2_with fail
          go_meet
          exact⟨bt,A1,bl,bq,rfl,lh (Ai.perm SS.out (Qm _ _ _ _ _ _)),E9⟩
  case rest =>
    obtain⟨bt,A1,bl,bq,rfl,hS,hE⟩:=hcut;obtain⟨w5,rfl⟩:∃ W:World,W=wc:=⟨_,rfl⟩;clear S1 q1 bq1 QG HCL;have HC0:=lh (show List.replicate g.length 0=DR g 0 by unfold DR;simp);rw[HC0.out] at hS;go_upto_region 4 with fail
    have qg:w5.cell? ⟨w.heap.size,0,none⟩=some (.slice A g.length c):=((Ai.get hS.out 5 rfl:Bx _ _ _/\_).1).cell (j:=0) rfl;have bqg:=AA qg;go_wp2_with fail
    go_loopw [24] (fun i wr=>∃ k:Nat,k<=g.length/\i= .int .i64 k/\Hid (Aa w wr)/\Hid (Ai (MO (B:=w.heap.size) bt bl bq (w.heap.size+1) A c A1 x g.length (DR g k) (.slice none 0 0) (.slice none 0 0) (.slice none 0 0)) wr)) (fun i _=>g.length - (intOf i).toNat)
    case atStart=>exact⟨0,Nat.zero_le _,rfl,hE,hS⟩
    case round =>
      clear hS hE qg bqg;obtain⟨k,hk,rfl,hX,hSS⟩:=hrel;have qg:wr.cell? ⟨w.heap.size,0,none⟩=some (.slice A g.length c):=((Ai.get hSS.out 5 rfl:Bx _ _ _/\_).1).cell (j:=0) rfl;have bqg:=AA qg;by_cases hlt:k<g.length
      · obtain⟨n,hn⟩:∃ n,g[k]? = some n:=⟨_,gg hlt⟩;have HN:=lh (HCS.out k n hn);have HIC:=lh (fun w1 h1=>Jt A c g k n w1 h1 hn);have hkx:(k:Int)<(g.length:Int):=by omega
        clear hn;go_wp2_with fail
        refine(HIC.out _ (H.out.ext hX.out)).mono ?_;rintro e w6 ⟨rfl,he6⟩;have S6:=lh (Ai.ext hSS.out he6);have X6:=lh (hX.out.tr he6);have hN:Au w6 w.heap.size 3 1 (some ⟨bq,0,none⟩) g.length g.length (Ah (DR g k)):=Ai.get S6.out 2 rfl;obtain⟨u,hu⟩:∃ u,(Ah (DR g k))[k]? = some u:=⟨_,gg (by rw[hN.1];omega)⟩;have r0:=hN.cell hu;have f0:=hN.free k;have ltn:=hN.lt (g:=bq) rfl;have bt2:w6.cell? ⟨bt,2,none⟩=some (.slice (some ⟨bq,0,none⟩) g.length g.length):=((Ai.get S6.out 3 rfl:Bx _ _ _/\_).1).cell (j:=2) rfl;have bbt:=AA bt2;by_cases h0:n.kind=0
        · have z0:decide (n.kind=0)=true:=by simp[h0]
          have HN2:=lh (show DR g (k+1)=DR g k by rw[HN.out,if_pos h0]);rw[z0];clear z0 h0 hN hu he6;go_wp2;go_roundw
          case rel=>exact⟨k+1,by omega,by go_num,X6,by rw[HN2.out];exact S6⟩
          case measure=>simp[intOf];omega
        · have z0:decide (n.kind=0)=false:=by simp[h0]
          have HN2:=lh (show DR g (k+1)=(DR g k).set k 2 by rw[HN.out,if_neg h0]);have S7:=lh (Ai.st S6.out 2 rfl ⟨bq,k,none⟩ (.int .i64 2) rfl (Th.own w.heap.size 3 1 (some ⟨bq,0,none⟩) g.length g.length (Ah (DR g (k+1)))) (by have h9:=hN.st k (.int .i64 2);rw[Dz,<- HN2.out] at h9;exact h9) (fun _ e=>e));have X7:=lh (X6.out.set (p:=⟨bq,k,none⟩) ltn.1 (.int .i64 2));rw[z0];clear z0 h0 hN hu he6;go_wp2;go_roundw
          case rel=>exact⟨k+1,by omega,by go_num,X7,S7⟩
          case measure=>simp[intOf];omega
      · obtain rfl:k=g.length:=by omega
        obtain⟨w8,rfl⟩:∃ W:World,W=wr:=⟨_,rfl⟩;have hsx:=hSS.out;rw[HCA.out] at hsx;have y3:Bx w8 bt [.slice A1 x.length x.length,.slice (some ⟨bl,0,none⟩) g.length g.length,.slice (some ⟨bq,0,none⟩) g.length g.length]:=(Ai.get hsx 3 rfl:Bx _ _ _/\_).1;have y4:Bx w8 (w.heap.size+1) [.slice none 0 0,.slice none 0 0,.slice none 0 0]:=(Ai.get hsx 4 rfl:Bx _ _ _/\_).1;have Y4:=lh y4;have x0:=y3.cell (j:=0) rfl;have x1:=y3.cell (j:=1) rfl;have x2:=y3.cell (j:=2) rfl;have bx:=y3.lt;have d0:=y4.cell (j:=0) rfl;have d1:=y4.cell (j:=1) rfl;have d2:=y4.cell (j:=2) rfl;have f0:=y4.free 0;have f1:=y4.free 1;have f2:=y4.free 2;have bl4:=y4.lt;have r0:=(y4.set3 (.slice A1 x.length x.length) (.slice (some ⟨bl,0,none⟩) g.length g.length) (.slice (some ⟨bq,0,none⟩) g.length g.length)).cell (j:=0) rfl;have r1:=(y4.set3 (.slice A1 x.length x.length) (.slice (some ⟨bl,0,none⟩) g.length g.length) (.slice (some ⟨bq,0,none⟩) g.length g.length)).cell (j:=1) rfl;have r2:=(y4.set3 (.slice A1 x.length x.length) (.slice (some ⟨bl,0,none⟩) g.length g.length) (.slice (some ⟨bq,0,none⟩) g.length g.length)).cell (j:=2) rfl;have S9:=lh (Ai.set hsx 4 rfl (AF.set3 w8 (w.heap.size+1) (.slice A1 x.length x.length) (.slice (some ⟨bl,0,none⟩) g.length g.length) (.slice (some ⟨bq,0,none⟩) g.length g.length)) (Th.box w.heap.size (w.heap.size+1) [.slice A1 x.length x.length,.slice (some ⟨bl,0,none⟩) g.length g.length,.slice (some ⟨bq,0,none⟩) g.length g.length]) (fun b e=>.inl e) ⟨Y4.out.set3 _ _ _,LB1⟩ (fun b e=>.inl e));have X9:=lh (Aa.md hX.out (AF.set3 w8 (w.heap.size+1) (.slice A1 x.length x.length) (.slice (some ⟨bl,0,none⟩) g.length g.length) (.slice (some ⟨bq,0,none⟩) g.length g.length)) (fun b e=>by rw[e];exact LB1));clear hsx hSS hX y3 y4;go_wp2;(try simp only[Exit.inBlock,Exit.then])
        refine bodyPost_ret (v := .agg #[.slice A1 x.length x.length,.slice (some ⟨bl,0,none⟩) g.length g.length,.slice (some ⟨bq,0,none⟩) g.length g.length]) (by simp[results,Tryz.results18,go_sem,r0,r1,r2];try rfl) rfl ?_;refine⟨A1,bl,bq,by rw[HXL.out],?_,X9.out⟩;have h9:=S9.out;unfold MO at h9;simp only[List.set_cons_succ,List.set_cons_zero] at h9;rw[HXL.out] at h9 ⊢;exact h9.sub (List.sublist_append_left (In w.heap.size A1 g.length (some ⟨bl,0,none⟩) g.length (some ⟨bq,0,none⟩) g.length g.length (List.replicate g.length (none,0)) (Sg.Cs g x)) [_,_,_])
end Go.Proofs.YthibllkleakiiaaGreatDoor
namespace Sg
end Sg
namespace Go.Proofs.YthibllkleakiiaaGreatDoor
open Go.RowKit
end Go.Proofs.YthibllkleakiiaaGreatDoor
namespace Sg
end Sg
namespace Go.Proofs.YthibllkleakiiaaGreatDoor
open Go.RowKit
end Go.Proofs.YthibllkleakiiaaGreatDoor
namespace Sg
end Sg
namespace Go.Proofs.YthibllkleakiiaaGreatDoor
open Go.RowKit
theorem Xt {B B':Nat}{Av Ar Aq:Option Addr}{cv cr cq L:Nat}{hs:List (Option Addr × Nat)}{st:Sg.BC}{W:World}(h:Ai (In B Av cv Ar cr Aq cq L hs st) W)(hB:B'<=B) :
  Ai (In B' Av cv Ar cr Aq cq L hs st) W/\∀ t ∈ In B' Av cv Ar cr Aq cq L hs st,∀ b,t.fp b->B<=b:=by
 have h0:Au W B 3 1 Av L cv (Ah st.vals):=Ai.get h 0 rfl;have h1:CG W B Ar cr st.reads hs:=Ai.get h 1 rfl;have h2:Au W B 3 1 Aq L cq (Ah st.cols):=Ai.get h 2 rfl;have hp:=(Ai.iff.1 h).2;unfold In at hp ⊢;simp only[List.pairwise_cons,List.mem_cons,List.not_mem_nil,or_false,forall_eq_or_imp,forall_eq] at hp;obtain⟨⟨hvr,hvq⟩,hrq,-⟩:=hp;refine⟨Ai.iff.2 ⟨fun t ht=>?_,by simp only[List.pairwise_cons,List.mem_cons,List.not_mem_nil,or_false,forall_eq_or_imp,forall_eq];exact⟨⟨hvr,hvq⟩,hrq,fun _ h9=>h9.elim,List.Pairwise.nil⟩⟩,fun t ht b hb=>?_⟩
 ·simp only[List.mem_cons,List.not_mem_nil,or_false] at ht;rcases ht with rfl | rfl | rfl
  ·exact h0.mono hB
  ·exact Bj.mono h1 hB
  ·exact h2.mono hB
 ·simp only[List.mem_cons,List.not_mem_nil,or_false] at ht;rcases ht with rfl | rfl | rfl
  ·exact(h0.lt hb).1
  ·exact(Bj.lt h1 hb).1
  ·exact(h2.lt hb).1
theorem Ai.addL {B:Nat}{rs:List (Th B)}{Av Ar Aq:Option Addr}{cv cr cq L:Nat}{hs:List (Option Addr × Nat)}{st:Sg.BC}{W W':World}(h:Ai rs W)(e:Aa W W')(hB:B<=W.heap.size)(k:Ai (In W.heap.size Av cv Ar cr Aq cq L hs st) W'):Ai (In B Av cv Ar cr Aq cq L hs st++rs) W':=by
 obtain⟨k1,k2⟩:=Xt k hB;exact Ai.rep (us:=[]) (F:=fun _=>False) h (AF.of e) (fun _ hb=>hb.elim) k1 (fun t ht b hb=>.inr (k2 t ht b hb))
end Go.Proofs.YthibllkleakiiaaGreatDoor
