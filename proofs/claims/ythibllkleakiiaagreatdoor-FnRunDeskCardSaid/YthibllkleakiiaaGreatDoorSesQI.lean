/- Parts of one proof, joined. The reference's ReadAll and writeLazy over own things side by side, and more. Conditions: in the theorems. -/
import Derived.Test.YthibllkleakiiaaGreatDoorSesZW
namespace Go.Proofs.YthibllkleakiiaaGreatDoor
open Go.RowKit
theorem Ai.ofZ {w:World}{B c1 c2 c3 L:Nat}{A1 A2 A3:Option Addr}{hs:List (Option Addr × Nat)}{st:Sg.BC}(h:Dr w B A1 c1 A2 c2 A3 c3 hs st)(hv:st.vals.length=L)(hq:st.cols.length=L):Ai (In B A1 c1 A2 c2 A3 c3 L hs st) w:=by
 have hv1:=h.v;have hq1:=h.q;rw[hv] at hv1;rw[hq] at hq1;refine⟨hv1,fun s hs9 b hb=>?_,h.r,fun s hs9 b hb=>?_,hq1,fun s hs9=>(by cases hs9),trivial⟩
 ·simp only[List.mem_cons,List.not_mem_nil,or_false] at hs9;rcases hs9 with rfl | rfl
  ·exact(h.d b hb).1
  ·exact(h.d b hb).2
 ·simp only[List.mem_cons,List.not_mem_nil,or_false] at hs9;subst hs9;exact fun e=>h.e b e hb
theorem Vp (a:World)(gv gq c cv cr cq n L:Nat)(x:Int)(A Ar:Option Addr)(st:Sg.BC)(hs:List (Option Addr × Nat))(rs:List (Th a.heap.size))(W:World)(hE:Aa a W)(hS:Ai (In a.heap.size (some ⟨gv,0,none⟩) cv Ar cr (some ⟨gq,0,none⟩) cq L hs st++rs) W)(hA:Sg.EH st.reads)(hvl:st.vals.length=L)(hrl:st.reads.length=L)(hql:st.cols.length=L)(hn:n<L)(hL:L<=1000000)(hrr:∀ l ∈ st.reads,l.length<=1048576)(hcr:∀ x ∈ st.cols,0<=x/\x<=2) :
  Calls Tryz.prog 38 #[.agg #[.slice A L c],.agg #[.slice (some ⟨gv,0,none⟩) L cv,.slice Ar L cr,.slice (some ⟨gq,0,none⟩) L cq],.int .i64 n,.int .i64 x] W fun e w' =>
   e= .returned (.agg #[.slice (some ⟨gv,0,none⟩) L cv,.slice Ar L cr,.slice (some ⟨gq,0,none⟩) L cq])/\Aa a w'/\Ai (In a.heap.size (some ⟨gv,0,none⟩) cv Ar cr (some ⟨gq,0,none⟩) cq L hs (Sg.Ca st n x)++rs) w':=by
 obtain⟨v,r,q⟩:=st;dsimp only at *;have h0:Au W a.heap.size 3 1 (some ⟨gv,0,none⟩) L cv (Ah v):=Ai.get hS 0 rfl;have h1:CG W a.heap.size Ar cr r hs:=Ai.get hS 1 rfl;have h2:Au W a.heap.size 3 1 (some ⟨gq,0,none⟩) L cq (Ah q):=Ai.get hS 2 rfl;have hp:=(Ai.iff.1 (hS.sub (List.sublist_append_left _ _))).2;unfold In at hp;simp only[List.pairwise_cons,List.mem_cons,List.not_mem_nil,or_false,forall_eq_or_imp,forall_eq] at hp;obtain⟨⟨hvr,hvq⟩,hrq,hpx⟩:=hp;have hne:gv≠gq:=fun e=>hvq gv rfl (show AE (some ⟨gq,0,none⟩)=some gv by rw[e];rfl)
 have hnf:∀ b,Gi Ar hs b->¬ (b=gv\/b=gq):=fun b hb e=>by
  rcases e with rfl | rfl
  ·exact hvr b rfl hb
  ·exact hrq b hb rfl
 subst hvl
 refine(show Calls Tryz.prog 38 #[.agg #[.slice A q.length c],.agg #[.slice (some ⟨gv,0,none⟩) v.length cv,.slice Ar r.length cr,.slice (some ⟨gq,0,none⟩) q.length cq],.int .i64 n,.int .i64 x] W _ from Vv a.heap.size n gv gq x A Ar c cv cr cq v q r W hA hql.symm (by omega) (by omega) (by omega) hne hcr
  (fun W' m=>CG.rdL (Bj.mod h1 m hnf) (by omega) hrr) h0 (by rw[<- hql] at h2;exact h2)).mono ?_ |> fun z=>by rw[hrl,hql] at z;exact z
 rintro e w' ⟨rfl,k0,k2,m⟩
 have hz:∀ b,(b=gv\/b=gq)->a.heap.size<=b:=fun b hb=>by
  rcases hb with rfl | rfl
  ·exact(h0.lt rfl).1
  ·exact(h2.lt rfl).1
 refine⟨by rw[hrl,hql],Aa.md hE m hz,?_⟩;have hrd:(Sg.Ca ⟨v,r,q⟩ n x).reads=r:=by unfold Sg.Ca;split <;> rfl
 refine Ai.rep (us:=In a.heap.size (some ⟨gv,0,none⟩) cv Ar cr (some ⟨gq,0,none⟩) cq v.length hs ⟨v,r,q⟩) hS m (fun b hb=>?_) (Ai.iff.2 ⟨fun t ht=>?_,by unfold In;simp only[List.pairwise_cons,List.mem_cons,List.not_mem_nil,or_false,forall_eq_or_imp,forall_eq];exact⟨⟨hvr,hvq⟩,hrq,hpx⟩⟩) (fun t ht b hb=>?_)
 ·rcases hb with rfl | rfl
  ·exact .inl ⟨_,List.mem_of_getElem? (i:=0) rfl,rfl⟩
  ·exact .inl ⟨_,List.mem_of_getElem? (i:=2) rfl,rfl⟩
 ·unfold In at ht;simp only[List.mem_cons,List.not_mem_nil,or_false] at ht;rcases ht with rfl | rfl | rfl
  ·exact k0
  ·rw[hrd];exact Bj.mod h1 m hnf
  ·rw[hql] at k2;exact k2
 ·unfold In at ht;simp only[List.mem_cons,List.not_mem_nil,or_false] at ht;rcases ht with rfl | rfl | rfl
  ·exact .inl ⟨_,List.mem_of_getElem? (i:=0) rfl,hb⟩
  ·exact .inl ⟨_,List.mem_of_getElem? (i:=1) rfl,hb⟩
  ·exact .inl ⟨_,List.mem_of_getElem? (i:=2) rfl,hb⟩
end Go.Proofs.YthibllkleakiiaaGreatDoor
