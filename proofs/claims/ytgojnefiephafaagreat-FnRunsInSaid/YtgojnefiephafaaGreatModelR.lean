/- The plain law of eager writes: they keep the meaning, and what runs is what must. Conditions: none. -/
import Derived.Test.YtgojnefiephafaaGreatModLaz
namespace Sg
theorem set_getD_same {α:Type} {l:List α} {i:Nat} (h:i<l.length) (x d:α):(l.set i x).getD i d=x:=by
 rw [List.getD_eq_getElem?_getD,List.getElem?_set_self h];rfl
theorem set_getD_other {α:Type} {l:List α} {i j:Nat} (h:i≠j) (x d:α):(l.set i x).getD j d=l.getD j d:=by
 rw [List.getD_eq_getElem?_getD,List.getElem?_set_ne h,← List.getD_eq_getElem?_getD]
def writtenL (a nodes values:List Int):List Int:=(nodes.zip values).foldl (fun l p=>l.set p.1.toNat p.2) a
def writtenTo (a nodes values:List Int) (k:Nat):List Int:=((nodes.zip values).take k).foldl (fun l p=>l.set p.1.toNat p.2) a
theorem writtenTo_succ (a nodes values:List Int) (k:Nat) {n x:Int} (hn:nodes[k]? = some n) (hx:values[k]? = some x):writtenTo a nodes values (k + 1)=(writtenTo a nodes values k).set n.toNat x:=by
 unfold writtenTo;have hz:(nodes.zip values)[k]? = some (n,x):=by rw [List.getElem?_zip_eq_some];exact ⟨hn,hx⟩
 obtain ⟨hk,he⟩:=List.getElem?_eq_some_iff.1 hz;rw [List.take_succ_eq_append_getElem hk,List.foldl_append,he];rfl
@[simp] theorem writtenTo_zero (a nodes values:List Int):writtenTo a nodes values 0=a:=rfl
theorem writtenTo_len (a nodes values:List Int) (k:Nat):(writtenTo a nodes values k).length=a.length:=by
 unfold writtenTo;generalize (nodes.zip values).take k=l;induction l generalizing a with
 | nil=>rfl
 | cons p l ih=>rw [List.foldl_cons,ih];simp
theorem writtenL_len (a nodes values:List Int):(writtenL a nodes values).length=a.length:=by
 unfold writtenL;generalize nodes.zip values=l;induction l generalizing a with
 | nil=>rfl
 | cons p l ih=>rw [List.foldl_cons,ih];simp
theorem writtenTo_all (a nodes values:List Int) (h:nodes.length=values.length):writtenTo a nodes values nodes.length=writtenL a nodes values:=by
 unfold writtenTo writtenL;rw [List.take_of_length_le (by simp [h])]
theorem wcells_vals (v:List Int) (c:List Bool) (nodes values:List Int) (k:Nat):(wcells (v,c) nodes values k).1=writtenTo v nodes values k:=by
 unfold wcells writtenTo;generalize (nodes.zip values).take k=l;induction l generalizing v c with
 | nil=>rfl
 | cons p l ih=>rw [List.foldl_cons,List.foldl_cons];exact ih _ _
theorem writtenTo_keep (a nodes values:List Int) (k i:Nat) (hn:∀ x ∈ nodes,0≤x) (h:(i:Int) ∉ nodes.take k):(writtenTo a nodes values k).getD i 0=a.getD i 0:=by
 induction k with
 | zero=>rfl
 | succ k ih =>
  cases hx:nodes[k]? with
  | none =>
   have hl:nodes.length≤k:=List.getElem?_eq_none_iff.1 hx
   have:writtenTo a nodes values (k + 1)=writtenTo a nodes values k:=by
    unfold writtenTo;rw [List.take_of_length_le (by simp;omega),List.take_of_length_le (by simp;omega)]
   rw [this];exact ih (fun hm=>h (by rw [List.take_of_length_le (by omega)];rw [List.take_of_length_le (by omega)] at hm;exact hm))
  | some x =>
   have hxl:=(List.getElem?_eq_some_iff.1 hx).1
   have ht:nodes.take (k + 1)=nodes.take k++[x]:=by
    rw [List.take_succ_eq_append_getElem hxl];obtain ⟨_,h2⟩:=List.getElem?_eq_some_iff.1 hx;rw [h2]
   rw [ht,List.mem_append,List.mem_singleton] at h;cases hy:values[k]? with
   | none =>
    have hl:values.length≤k:=List.getElem?_eq_none_iff.1 hy
    have:writtenTo a nodes values (k + 1)=writtenTo a nodes values k:=by
     unfold writtenTo;rw [List.take_of_length_le (by simp;omega),List.take_of_length_le (by simp;omega)]
    rw [this];exact ih (fun hm=>h (.inl hm))
   | some y =>
    rw [writtenTo_succ a nodes values k hx hy,List.getD_eq_getElem?_getD,List.getElem?_set_ne,← List.getD_eq_getElem?_getD]
    ·exact ih (fun hm=>h (.inl hm))
    ·intro e;have:=hn x (List.mem_of_getElem? hx);exact h (.inr (by omega))
theorem writtenTo_same (a a' nodes values:List Int) (k i:Nat) (hl:a.length=a'.length) (hk:nodes.length=values.length) (hn:∀ x ∈ nodes,0≤x∧x<(a.length:Int)) (h:(i:Int) ∈ nodes.take k):(writtenTo a nodes values k).getD i 0=(writtenTo a' nodes values k).getD i 0:=by
 induction k with
 | zero=>simp at h
 | succ k ih =>
  cases hx:nodes[k]? with
  | none =>
   have hl2:nodes.length≤k:=List.getElem?_eq_none_iff.1 hx
   have e:∀ b,writtenTo b nodes values (k + 1)=writtenTo b nodes values k:=fun b=>by
    unfold writtenTo;rw [List.take_of_length_le (by simp;omega),List.take_of_length_le (by simp;omega)]
   rw [e,e];refine ih ?_;rw [List.take_of_length_le (by omega)] at h ⊢;exact h
  | some x =>
   have hxl:=(List.getElem?_eq_some_iff.1 hx).1;obtain ⟨y,hy⟩:∃ y,values[k]? = some y:=⟨_,List.getElem?_eq_getElem (by omega)⟩;rw [writtenTo_succ a nodes values k hx hy,writtenTo_succ a' nodes values k hx hy];have hb:=hn x (List.mem_of_getElem? hx);by_cases hxi:x.toNat=i
   ·rw [List.getD_eq_getElem?_getD,List.getD_eq_getElem?_getD,hxi,List.getElem?_set_self (by rw [writtenTo_len];omega),List.getElem?_set_self (by rw [writtenTo_len];omega)]
   ·rw [List.getD_eq_getElem?_getD,List.getD_eq_getElem?_getD,List.getElem?_set_ne hxi,List.getElem?_set_ne hxi,← List.getD_eq_getElem?_getD,← List.getD_eq_getElem?_getD];refine ih ?_
    have ht:nodes.take (k + 1)=nodes.take k++[x]:=by
     rw [List.take_succ_eq_append_getElem hxl];obtain ⟨_,h2⟩:=List.getElem?_eq_some_iff.1 hx;rw [h2]
    rw [ht,List.mem_append,List.mem_singleton] at h;rcases h with h | h
    ·exact h
    ·omega
theorem writtenTo_range (a nodes values:List Int) (k:Nat) (ha:inRange a) (hv:inRange values):inRange (writtenTo a nodes values k):=by
 unfold writtenTo
 have key:∀ (l:List (Int × Int)) (a:List Int),inRange a→(∀ p ∈ l,0≤p.2∧p.2≤999)→inRange (l.foldl (fun l p=>l.set p.1.toNat p.2) a):=by
  intro l;induction l with
  | nil=>intro a ha _;exact ha
  | cons p l ih =>
   intro a ha hp;rw [List.foldl_cons];refine ih _ ?_ (fun q hq=>hp q (by simp [hq]));intro x hx;rcases List.mem_or_eq_of_mem_set hx with hx | rfl
   ·exact ha x hx
   ·exact hp p (by simp)
 refine key _ _ ha (fun p hp=>?_);exact hv p.2 (List.of_mem_zip (List.mem_of_mem_take hp)).2
theorem wcells_ch {g:Graph} {v nodes values:List Int} (hv:v.length=g.length) (hcd:cellsDiffer g nodes=true) (hlen:nodes.length=values.length) (k:Nat) (hk:k≤nodes.length) (i:Nat) (hi:i<g.length) :
  (wcells (v,List.replicate g.length false) nodes values k).2.getD i false=((writtenTo v nodes values k).getD i 0 != v.getD i 0):=by
 induction k with
 | zero=>simp [hi]
 | succ k ih =>
  have ih:=ih (by omega);have hxl:k<nodes.length:=hk;have hx:nodes[k]? = some nodes[k]:=List.getElem?_eq_getElem hxl;obtain ⟨y,hy⟩:∃ y,values[k]? = some y:=⟨_,List.getElem?_eq_getElem (by omega)⟩;generalize nodes[k]=x at hx;rw [wcells_succ _ nodes values k hx hy,writtenTo_succ v nodes values k hx hy];obtain ⟨hc,hnt⟩:=cellsDiffer_at hcd hx;obtain ⟨j,n,rfl,hn,_⟩:=isCell_at hc;have hj:=(List.getElem?_eq_some_iff.1 hn).1
  have hpos:∀ x ∈ nodes,0≤x:=by
   intro z hz;obtain ⟨m,hm⟩:=List.getElem?_of_mem hz;obtain ⟨j',_,rfl,_,_⟩:=isCell_at (cellsDiffer_at hcd hm).1;omega
  unfold wstep;rw [Int.toNat_natCast];by_cases e:j=i
  ·subst e;rw [set_getD_same (by simp;omega),set_getD_same (by rw [writtenTo_len];omega)];rw [wcells_vals,writtenTo_keep v nodes values k j hpos hnt];exact bne_comm
  ·rw [set_getD_other e,set_getD_other e];exact ih
structure WrI (g:Graph) (a b:List Int) (s:WrS) (k:Nat):Prop where
 v:s.vals.length=g.length
 r:s.reads.length=g.length
 c:s.ch.length=g.length
 v1:∀ i,i<k→s.vals.getD i 0=(mean g b).getD i 0
 v2:∀ i n,k≤i→g[i]? = some n→s.vals.getD i 0=if n.kind=0 then (mean g b).getD i 0 else (mean g a).getD i 0
 r1:∀ i,i<k→s.reads.getD i []=depAt g (mean g b) i
 r2:∀ i,k≤i→i<g.length→s.reads.getD i []=depAt g (mean g a) i
 c1:∀ i,i<k→s.ch.getD i false=((mean g b).getD i 0 != (mean g a).getD i 0)
 c2:∀ i n,k≤i→g[i]? = some n→s.ch.getD i false=if n.kind=0 then ((mean g b).getD i 0 != (mean g a).getD i 0) else false
 n:s.ran=whichL (mustAt g (mean g a) (mean g b)) k
theorem WrI.step {g:Graph} {a b:List Int} {s:WrS} {k:Nat} (hG:validG g=true) (h:WrI g a b s k) (hk:k<g.length):WrI g a b (rstep g s k) (k + 1):=by
 obtain ⟨n,hn⟩:∃ n,g[k]? = some n:=⟨_,List.getElem?_eq_getElem hk⟩;have lt_of:∀ {i:Nat},i<k + 1→i≠k→i<k:=fun h1 h2=>by omega
 by_cases h0:n.kind=0
 ·rw [rstep_no hn (.inl h0)]
  have hm:mustAt g (mean g a) (mean g b) k=false:=by
   unfold mustAt kindAt;rw [Int.toNat_natCast,getD_of hn];simp [h0]
  have hv:=h.v2 k n (Nat.le_refl _) hn;have hc:=h.c2 k n (Nat.le_refl _) hn;rw [if_pos h0] at hv hc;have hr:=h.r2 k (Nat.le_refl _) hk;have hd:∀ x,depAt g x k=[]:=fun x=>by unfold depAt;rw [getD_of hn,if_pos h0]
  refine ⟨h.v,h.r,h.c,fun i hi=>?_,fun i n' hi hn'=>h.v2 i n' (by omega) hn',fun i hi=>?_,fun i hi hi2=>h.r2 i (by omega) hi2,fun i hi=>?_,fun i n' hi hn'=>h.c2 i n' (by omega) hn',?_⟩
  ·by_cases e:i=k
   ·subst e;exact hv
   ·exact h.v1 i (lt_of hi e)
  ·by_cases e:i=k
   ·subst e;rw [hr,hd,hd]
   ·exact h.r1 i (lt_of hi e)
  ·by_cases e:i=k
   ·subst e;exact hc
   ·exact h.c1 i (lt_of hi e)
  ·rw [h.n,whichL_succ,hm,if_neg (by simp)]
 ·have hdA:depAt g (mean g a) k=(runF n.f (mean g a)).2:=by unfold depAt;rw [getD_of hn,if_neg h0]
  have hdB:depAt g (mean g b) k=(runF n.f (mean g b)).2:=by unfold depAt;rw [getD_of hn,if_neg h0]
  have hrun:runF n.f s.vals=runF n.f (mean g b):=runF_congr (validG_fok hG k hn h0) (fun j hj=>h.v1 j hj);have hB:=mean_form (cells:=b) hG hn h0;have hA:=mean_form (cells:=a) hG hn h0;have hr:=h.r2 k (Nat.le_refl _) hk;have hv:=h.v2 k n (Nat.le_refl _) hn;have hc:=h.c2 k n (Nat.le_refl _) hn;rw [if_neg h0] at hv hc;have hkind:(kindAt g (k:Int) != 0)=true:=by unfold kindAt;rw [Int.toNat_natCast,getD_of hn];simp [h0]
  have hhit:hit s (s.reads.getD k [])=(depAt g (mean g a) k).any fun x=>rd (mean g a) x != rd (mean g b) x:=by
   unfold hit;rw [hr,Bool.eq_iff_iff,List.any_eq_true,List.any_eq_true];refine exists_congr fun x=>and_congr_right fun hx=>?_;have hx2:=depAt_mem hG hk hx;unfold rd;rw [h.c1 x.toNat (by omega),bne_comm]
  cases hh:hit s (s.reads.getD k [])
  ·rw [rstep_no hn (.inr hh)];rw [hh] at hhit
   have hsame:runF n.f (mean g a)=runF n.f (mean g b):=runF_same fun x hx=>by
    have:=List.any_eq_false.1 hhit.symm x (by rw [hdA];exact hx);simpa using this
   have hval:(mean g a).getD k 0=(mean g b).getD k 0:=by rw [hA,hB,hsame]
   have hm:mustAt g (mean g a) (mean g b) k=false:=by
    unfold mustAt;rw [← hhit,hval];simp
   refine ⟨h.v,h.r,h.c,fun i hi=>?_,fun i n' hi hn'=>h.v2 i n' (by omega) hn',fun i hi=>?_,fun i hi hi2=>h.r2 i (by omega) hi2,fun i hi=>?_,fun i n' hi hn'=>h.c2 i n' (by omega) hn',?_⟩
   ·by_cases e:i=k
    ·subst e;rw [hv,hval]
    ·exact h.v1 i (lt_of hi e)
   ·by_cases e:i=k
    ·subst e;rw [hr,hdA,hdB,hsame]
    ·exact h.r1 i (lt_of hi e)
   ·by_cases e:i=k
    ·subst e;rw [hc,hval];simp
    ·exact h.c1 i (lt_of hi e)
   ·rw [h.n,whichL_succ,hm,if_neg (by simp)]
  ·rw [rstep_yes hn h0 hh,hrun]
   have hm:mustAt g (mean g a) (mean g b) k=true:=by
    unfold mustAt;rw [hkind,← hhit,hh];simp
   refine ⟨by simp [h.v],by simp [h.r],by simp [h.c],fun i hi=>?_,fun i n' hi hn'=>?_,fun i hi=>?_,fun i hi hi2=>?_,fun i hi=>?_,fun i n' hi hn'=>?_,?_⟩
   ·by_cases e:i=k
    ·subst e;rw [set_getD_same (by rw [h.v];exact hk),hB]
    ·rw [set_getD_other (fun e2=>e e2.symm)];exact h.v1 i (lt_of hi e)
   ·rw [set_getD_other (by omega)];exact h.v2 i n' (by omega) hn'
   ·by_cases e:i=k
    ·subst e;rw [set_getD_same (by rw [h.r];exact hk),hdB]
    ·rw [set_getD_other (fun e2=>e e2.symm)];exact h.r1 i (lt_of hi e)
   ·rw [set_getD_other (by omega)];exact h.r2 i (by omega) hi2
   ·by_cases e:i=k
    ·subst e;rw [set_getD_same (by rw [h.c];exact hk),hv,hB]
    ·rw [set_getD_other (fun e2=>e e2.symm)];exact h.c1 i (lt_of hi e)
   ·rw [set_getD_other (by omega)];exact h.c2 i n' (by omega) hn'
   ·rw [h.n,whichL_succ,hm,if_pos rfl]
theorem WrI.steps {g:Graph} {a b:List Int} {s:WrS} (hG:validG g=true) (h:WrI g a b s 0) (k:Nat) (hk:k≤g.length):WrI g a b (rsteps g s k) k:=by
 induction k with
 | zero=>exact h
 | succ k ih=>rw [rsteps_succ];exact (ih (by omega)).step hG (by omega)
theorem nodes_in {g:Graph} {nodes:List Int} (hcd:cellsDiffer g nodes=true):∀ x ∈ nodes,∃ (j:Nat) (n:Node),x=j∧g[j]? = some n∧n.kind=0:=by
 intro x hx;obtain ⟨m,hm⟩:=List.getElem?_of_mem hx;exact isCell_at (cellsDiffer_at hcd hm).1
theorem mayWrite_parts {g:Graph} {st:Eager} {nodes values:List Int} (h:mayWrite g st nodes values=true):validE g st=true∧cellsDiffer g nodes=true∧nodes.length=values.length∧inRange values:=by
 unfold mayWrite at h;simp only [Bool.and_eq_true,decide_eq_true_eq] at h;exact ⟨h.1.1.1,h.1.1.2,h.1.2,inR999_range h.2⟩
theorem written_valid {g:Graph} {st:Eager} {nodes values:List Int} (h:mayWrite g st nodes values=true):validC g (writtenL (cellsOf g st.vals) nodes values)=true:=by
 obtain ⟨hV,hcd,hlen,hx⟩:=mayWrite_parts h;have hC:=validE_cells hV;have hl:=validC_len hC;have hin:=nodes_in hcd;rw [← writtenTo_all _ _ _ hlen];refine validC_mk (by rw [writtenTo_len];exact hl) fun i n hi=>?_;have hil:=(List.getElem?_eq_some_iff.1 hi).1;have hr:=writtenTo_range _ nodes values nodes.length (validC_range hC) hx;have h1:i<(writtenTo (cellsOf g st.vals) nodes values nodes.length).length:=by rw [writtenTo_len];omega
 refine ⟨?_,fun h0=>?_⟩
 ·rw [List.getD_eq_getElem?_getD,List.getElem?_eq_getElem h1];exact hr _ (List.getElem_mem h1)
 ·rw [writtenTo_keep _ _ _ _ _ (fun x hx=>by obtain ⟨j,_,rfl,_⟩:=hin x hx;omega)]
  ·exact validC_cell hC hi h0
  ·intro hm;obtain ⟨j,n',e,hn',hk⟩:=hin _ (List.mem_of_mem_take hm);have:i=j:=by omega
   subst this;rw [hi] at hn';injection hn' with hn';subst hn';exact h0 hk
theorem WrI.start {g:Graph} {st:Eager} {nodes values:List Int} (h:mayWrite g st nodes values=true) :
  WrI g (cellsOf g st.vals) (writtenL (cellsOf g st.vals) nodes values) ⟨(wcells (st.vals,List.replicate g.length false) nodes values nodes.length).1,st.reads,(wcells (st.vals,List.replicate g.length false) nodes values nodes.length).2,[]⟩ 0:=by
 obtain ⟨hV,hcd,hlen,hx⟩:=mayWrite_parts h;obtain ⟨hG,hvl,hrl,hvr,hR⟩:=validE_parts hV;have hin:=nodes_in hcd;have hA:=validE_mean hV;have hpos:∀ x ∈ nodes,0≤x:=fun x hx=>by obtain ⟨j,_,rfl,_⟩:=hin x hx;omega
 have hB:∀ i n,g[i]? = some n→n.kind=0→(mean g (writtenL (cellsOf g st.vals) nodes values)).getD i 0=(writtenTo st.vals nodes values nodes.length).getD i 0:=by
  intro i n hn h0;have hil:=(List.getElem?_eq_some_iff.1 hn).1;rw [mean_atN _ hn,if_pos h0,← writtenTo_all _ _ _ hlen];by_cases hm:(i:Int) ∈ nodes.take nodes.length
  ·exact writtenTo_same _ _ nodes values nodes.length i (by simp) hlen (fun x hx=>by obtain ⟨j,n',rfl,hn',_⟩:=hin x hx;have:=(List.getElem?_eq_some_iff.1 hn').1;simp [hvl];omega) hm
  ·rw [writtenTo_keep _ _ _ _ _ hpos hm,writtenTo_keep _ _ _ _ _ hpos hm,cellsOf_at g _ i (by omega),getD_of hn,if_neg (by simpa using h0)]
 have hN:∀ i n,g[i]? = some n→n.kind≠0→(writtenTo st.vals nodes values nodes.length).getD i 0=st.vals.getD i 0:=by
  intro i n hn h0;refine writtenTo_keep _ _ _ _ _ hpos fun hm=>?_;obtain ⟨j,n',e,hn',hk⟩:=hin _ (List.mem_of_mem_take hm);have:i=j:=by omega
  subst this;rw [hn] at hn';injection hn' with hn';subst hn';exact h0 hk
 refine ⟨by simp [hvl],hrl,by simp,fun i hi=>by omega,fun i n _ hn=>?_,fun i hi=>by omega,fun i _ hi=>?_,fun i hi=>by omega,fun i n _ hn=>?_,by simp [whichL]⟩
 ·show (wcells (st.vals,List.replicate g.length false) nodes values nodes.length).1.getD i 0=_;rw [wcells_vals,hA];by_cases h0:n.kind=0
  ·rw [if_pos h0,hB i n hn h0]
  ·rw [if_neg h0,hN i n hn h0]
 ·show st.reads.getD i []=_;rw [hA];obtain ⟨n,hn⟩:∃ n,g[i]? = some n:=⟨_,List.getElem?_eq_getElem hi⟩;unfold depAt;rw [getD_of hn];by_cases h0:n.kind=0
  ·rw [if_pos h0,rightAt_cell hn h0 (hR i hi)]
  ·rw [if_neg h0,rightAt_run hn h0 (hR i hi)]
 ·have hil:=(List.getElem?_eq_some_iff.1 hn).1;show (wcells (st.vals,List.replicate g.length false) nodes values nodes.length).2.getD i false=_;rw [wcells_ch hvl hcd hlen nodes.length (Nat.le_refl _) i hil,hA];by_cases h0:n.kind=0
  ·rw [if_pos h0,hB i n hn h0]
  ·rw [if_neg h0,hN i n hn h0];simp
theorem write_start {g:Graph} {st:Eager} {nodes values:List Int} (h:mayWrite g st nodes values=true) :
  writeE g st nodes values=(startE g (writtenL (cellsOf g st.vals) nodes values),mustOr g (cellsOf g st.vals) (writtenL (cellsOf g st.vals) nodes values)):=by
 have hC:=written_valid h;obtain ⟨hV,hcd,hlen,hx⟩:=mayWrite_parts h;obtain ⟨hG,hvl,hrl,hvr,hR⟩:=validE_parts hV;have hI:=(WrI.start h).steps hG g.length (Nat.le_refl _);have hA:=validE_cells hV;unfold writeE;have hS:writeS g st nodes values=rsteps g ⟨(wcells (st.vals,List.replicate g.length false) nodes values nodes.length).1,st.reads,(wcells (st.vals,List.replicate g.length false) nodes values nodes.length).2,[]⟩ g.length:=rfl;rw [hS];refine Prod.ext ?_ ?_
 ·show Eager.mk _ _=Eager.mk _ _;congr 1
  ·exact ext0 (by rw [hI.v];simp) (fun i hi=>hI.v1 i (by rw [hI.v] at hi;exact hi))
  ·refine List.ext_getElem (by rw [hI.r];simp) fun i h1 h2=>?_;rw [hI.r] at h1;have:=hI.r1 i h1;rw [List.getD_eq_getElem?_getD,List.getElem?_eq_getElem (by rw [hI.r];exact h1)] at this;simp only [Option.getD_some] at this;rw [this];simp [depsTo]
 ·show (rsteps g _ g.length).ran=_;rw [hI.n];unfold mustOr;rw [hG,hA,hC];rfl
theorem mustOr_self (g:Graph) (a:List Int):mustOr g a a=[]:=by
 unfold mustOr;split
 ·unfold whichL;rw [List.map_eq_nil_iff,List.filter_eq_nil_iff];intro i _;unfold mustAt;simp
 ·rfl
end Sg
