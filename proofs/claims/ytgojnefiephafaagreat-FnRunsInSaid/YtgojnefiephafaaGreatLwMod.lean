/- Parts of one proof, joined. Sessions in plain Lean: acts, what they do, what effects show. No program in sight. Conditions: none. Plain laws of sessions: what the first acts show is the beginning of what all show; the eager machine shows what is meant. No program in sight. Conditions: in the theorems. The plain law of reads one after the other. No program in sight. Conditions: none. The plain model of eager writes: a list of what changed against Booleans. Conditions: none. The lazy machine in a session, in plain Lean: what does not run stays as it was; the lazy machine shows what is meant. Conditions: in the theorems. Plain laws of sessions: the lazy machine runs no more than the eager one; the last word is right; one batch shows each effect at most once. No program in sight. Conditions: in the theorems. -/
import Derived.Test.YtgojnefiephafaaGreatModelR
import Derived.Test.YtgojnefiephafaaGreatPlAll
namespace Sg
structure Act where
 kind:Int
 node:Int
 val:Int
structure Show where
 node:Int
 val:Int
def actOk (g:Graph) (a:Act):Bool :=
 if a.kind=0 then isCell g a.node && inR a.val 0 999
 else if a.kind=1 then inR a.node 0 ((g.length:Int) - 1) && decide (kindAt g a.node=2) && decide (a.val=0)
 else if a.kind=2∨a.kind=3 then decide (a.node=0) && decide (a.val=0) else false
def validA (g:Graph) (l:List Act):Bool:=l.all (actOk g) && validG g && decide (l.length≤30)
structure Ses where
 opn:Nat
 pend:List Int
 stop:List Bool
def stepS (x:Ses) (a:Act):Ses × Bool :=
 if a.kind=0 then (⟨x.opn,x.pend.set a.node.toNat a.val,x.stop⟩,decide (x.opn=0))
 else if a.kind=1 then (⟨x.opn,x.pend,x.stop.set a.node.toNat true⟩,false)
 else if a.kind=2 then (⟨x.opn + 1,x.pend,x.stop⟩,false)
 else (⟨x.opn - 1,x.pend,x.stop⟩,decide (x.opn=1))
def stepR {σ:Type} (fl:σ→List Int→List Bool→σ) (q:Ses × σ) (a:Act):Ses × σ :=
 ((stepS q.1 a).1,if (stepS q.1 a).2=true then fl q.2 (stepS q.1 a).1.pend (stepS q.1 a).1.stop else q.2)
def runS {σ:Type} (fl:σ→List Int→List Bool→σ) (q:Ses × σ) (l:List Act):Ses × σ:=l.foldl (stepR fl) q
theorem runS_snoc {σ:Type} (fl:σ→List Int→List Bool→σ) (q:Ses × σ) (l:List Act) (a:Act):runS fl q (l++[a])=stepR fl (runS fl q l) a:=by simp [runS]
def ses0 (g:Graph) (cells:List Int):Ses:=⟨0,cells,List.replicate g.length false⟩
def effs (g:Graph) (s:List Bool):List Int:=whichL (fun i=>decide (kindAt g (i:Int)=2) && !(s.getD i false)) g.length
def showL (nodes values:List Int):List Show:=nodes.map fun n=>⟨n,rd values n⟩
def plainFl (g:Graph) (q:List Int × List Show) (p:List Int) (s:List Bool):List Int × List Show:=(p,q.2++showL (common (effs g s) (mustOr g q.1 p)) (mean g p))
def fitS (g:Graph) (cells:List Int) (l:List Act):Bool:=validG g && validC g cells && validA g l
structure SesOk (g:Graph) (x:Ses) (k:Nat):Prop where
 c:validC g x.pend=true
 s:x.stop.length=g.length
 o:x.opn≤k
theorem length_validC {g:Graph} {l:List Int} (h:validC g l=true):l.length=g.length:=by
 unfold validC at h;simp only [Bool.and_eq_true,decide_eq_true_eq] at h;exact h.1
theorem validC_put {g:Graph} {l:List Int} (h:validC g l=true) {n v:Int} (hn:isCell g n=true) (hv:inR v 0 999=true):validC g (l.set n.toNat v)=true:=by
 have hl:=length_validC h;unfold validC at h ⊢;simp only [Bool.and_eq_true,decide_eq_true_eq,List.length_set,List.all_eq_true,List.mem_range] at h ⊢;refine ⟨hl,fun i hi=>?_⟩;have h1:=h.2 i hi;unfold isCell at hn;simp only [Bool.and_eq_true,decide_eq_true_eq,inR] at hn;unfold cellOk at h1 ⊢;by_cases e:n.toNat=i
 ·subst e;have hk:kindAt g ((n.toNat:Nat):Int)=0:=by rw [Int.toNat_of_nonneg hn.1.1];exact hn.2
  simp only [List.getD_eq_getElem?_getD,List.getElem?_set_self hi,Option.getD_some,hk];simpa using hv
 ·simp only [List.getD_eq_getElem?_getD,List.getElem?_set_ne e] at h1 ⊢;exact h1
theorem SesOk.step {g:Graph} {x:Ses} {k:Nat} (h:SesOk g x k) {a:Act} (ha:actOk g a=true):SesOk g (stepS x a).1 (k + 1):=by
 unfold stepS;unfold actOk at ha;split
 ·rename_i h0
  rw [if_pos h0,Bool.and_eq_true] at ha;exact ⟨validC_put h.c ha.1 ha.2,h.s,by have:=h.o;show x.opn≤k + 1;omega⟩
 ·split
  ·exact ⟨h.c,by show (x.stop.set _ _).length=_;rw [List.length_set];exact h.s,by have:=h.o;show x.opn≤k + 1;omega⟩
  ·split
   ·exact ⟨h.c,h.s,by have:=h.o;show x.opn + 1≤k + 1;omega⟩
   ·exact ⟨h.c,h.s,by have:=h.o;show x.opn - 1≤k + 1;omega⟩
theorem ses0_ok {g:Graph} {cells:List Int} (h:validC g cells=true):SesOk g (ses0 g cells) 0:=⟨h,by simp [ses0],Nat.le_refl _⟩
theorem runS_ok {σ:Type} (fl:σ→List Int→List Bool→σ) {g:Graph} {q:Ses × σ} (h:SesOk g q.1 0) (l:List Act) (hl:∀ a ∈ l,actOk g a=true) (k:Nat) (hk:k≤l.length):SesOk g (runS fl q (l.take k)).1 k:=by
 induction k with
 | zero=>simpa [runS] using h
 | succ k ih =>
  have hx:l[k]? = some l[k]:=List.getElem?_eq_getElem (by omega);have e:l.take (k + 1)=l.take k++[l[k]]:=List.take_succ_eq_append_getElem (by omega);rw [e,runS_snoc];exact (ih (by omega)).step (hl _ (List.getElem_mem _))
theorem effs_len (g:Graph) (s:List Bool):(effs g s).length≤g.length:=whichL_len _ _
theorem showL_len (a b:List Int):(showL a b).length=a.length:=by simp [showL]
end Sg
namespace Sg
theorem fitS_parts {g:Graph} {cells:List Int} {l:List Act} (h:fitS g cells l=true):validG g=true∧validC g cells=true∧(∀ a ∈ l,actOk g a=true)∧l.length≤30:=by
 unfold fitS validA at h;simp only [Bool.and_eq_true,List.all_eq_true,decide_eq_true_eq] at h;exact ⟨h.1.1,h.1.2,h.2.1.1,h.2.2⟩
theorem effs_none (g:Graph):effs g (List.replicate g.length false)=whichL (fun i=>decide (kindAt g (i:Int)=2)) g.length:=by
 unfold effs;refine whichL_congr fun i hi=>?_;simp [hi]
def inputsL (g:Graph):List Int:=whichL (fun i=>decide (kindAt g (i:Int)=0)) g.length
def valuesL (g:Graph) (p:List Int):List Int:=(inputsL g).map (rd p)
theorem mem_inputsL {g:Graph} {n:Int}:n ∈ inputsL g↔∃ i:Nat,n=i∧i<g.length∧kindAt g (i:Int)=0:=by
 unfold inputsL;rw [mem_whichL];simp
theorem kindAt_of {g:Graph} {i:Nat} {n:Node} (h:g[i]? = some n):kindAt g (i:Int)=n.kind:=by
 unfold kindAt;simp [h]
theorem inputs_differ (g:Graph):cellsDiffer g (inputsL g)=true:=by
 unfold cellsDiffer;rw [List.all_eq_true];intro k hk;rw [List.mem_range] at hk;obtain ⟨x,hx⟩:∃ x,(inputsL g)[k]? = some x:=⟨_,List.getElem?_eq_getElem hk⟩;have hd:(inputsL g).getD k 0=x:=by rw [List.getD_eq_getElem?_getD,hx];rfl
 rw [hd,Bool.and_eq_true,decide_eq_true_eq];constructor
 ·obtain ⟨i,rfl,hi,hk0⟩:=mem_inputsL.1 (List.mem_of_getElem? hx);unfold isCell inR;simp only [Bool.and_eq_true,decide_eq_true_eq];exact ⟨by omega,hk0⟩
 ·intro hm;obtain ⟨j,hj⟩:=List.getElem?_of_mem hm;rw [List.getElem?_take] at hj;split at hj
  ·rename_i hjk
   have hp:(inputsL g).Pairwise (·<·):=whichL_sorted _ _;obtain ⟨h1,e1⟩:=List.getElem?_eq_some_iff.1 hj;obtain ⟨h2,e2⟩:=List.getElem?_eq_some_iff.1 hx;have:=List.pairwise_iff_getElem.1 hp j k h1 h2 hjk;omega
  ·cases hj
theorem rd_nat (l:List Int) (i:Nat):rd l (i:Int)=l.getD i 0:=by unfold rd;simp
theorem validC_rd {g:Graph} {p:List Int} (h:validC g p=true) (i:Nat) (hi:i<g.length):0≤p.getD i 0∧p.getD i 0≤999:=by
 have hl:=validC_len h;refine validC_range h _ ?_;rw [List.getD_eq_getElem?_getD,List.getElem?_eq_getElem (by omega)];exact List.getElem_mem _
theorem mayWrite_all {g:Graph} {a p:List Int} (hG:validG g=true) (ha:validC g a=true) (hp:validC g p=true):mayWrite g (startE g a) (inputsL g) (valuesL g p)=true:=by
 unfold mayWrite;rw [start_validE hG ha,inputs_differ];simp only [Bool.true_and,Bool.and_eq_true,decide_eq_true_eq];refine ⟨by simp [valuesL],?_⟩;unfold inR999;rw [List.all_eq_true];intro x hx;obtain ⟨n,hn,rfl⟩:=List.mem_map.1 hx;obtain ⟨i,rfl,hi,_⟩:=mem_inputsL.1 hn;have:=validC_rd hp i hi;rw [rd_nat];simp only [inR,Bool.and_eq_true,decide_eq_true_eq];exact this
theorem writtenL_mem (a nodes:List Int) (f:Int→Int) (hn:∀ x ∈ nodes,0≤x∧x<(a.length:Int)) (i:Nat) (h:(i:Int) ∈ nodes):(writtenL a nodes (nodes.map f)).getD i 0=f i:=by
 have key:∀ (l:List Int) (b:List Int),(∀ x ∈ l,0≤x∧x<(b.length:Int))→((i:Int) ∈ l∨b.getD i 0=f i)→((l.zip (l.map f)).foldl (fun l p=>l.set p.1.toNat p.2) b).getD i 0=f i:=by
  intro l;induction l with
  | nil=>intro b _ h;rcases h with h | h;cases h;exact h
  | cons x l ih =>
   intro b hb h;rw [List.map_cons,List.zip_cons_cons,List.foldl_cons];refine ih _ (fun y hy=>by have:=hb y (by simp [hy]);simpa using this) ?_;have hx:=hb x (by simp);by_cases e:x=(i:Int)
   ·right
    subst e;show (b.set (Int.toNat (i:Int)) (f i)).getD i 0=f i;rw [Int.toNat_natCast];exact set_getD_same (by omega) _ _
   ·rcases h with h | h
    ·rcases List.mem_cons.1 h with h | h
     ·exact absurd h.symm e
     ·exact .inl h
    ·right
     show (b.set x.toNat (f x)).getD i 0=f i;rw [set_getD_other (by omega)];exact h
 exact key nodes a hn (.inl h)
theorem written_all {g:Graph} {a p:List Int} (ha:validC g a=true) (hp:validC g p=true):writtenL a (inputsL g) (valuesL g p)=p:=by
 have hal:=validC_len ha;have hpl:=validC_len hp;refine ext0 (by rw [writtenL_len];omega) fun i hi=>?_;rw [writtenL_len] at hi;have hin:∀ x ∈ inputsL g,0≤x∧x<(a.length:Int):=fun x hx=>by obtain ⟨j,rfl,hj,_⟩:=mem_inputsL.1 hx;omega
 by_cases hm:(i:Int) ∈ inputsL g
 ·unfold valuesL;rw [writtenL_mem a _ _ hin i hm,rd_nat]
 ·have hlen:(inputsL g).length=(valuesL g p).length:=by simp [valuesL]
  rw [← writtenTo_all _ _ _ hlen,writtenTo_keep _ _ _ _ _ (fun x hx=>(hin x hx).1) (fun h=>hm (List.mem_of_mem_take h))];obtain ⟨n,hn⟩:∃ n,g[i]? = some n:=⟨_,List.getElem?_eq_getElem (by omega)⟩;have h0:n.kind≠0:=fun h0=>hm (mem_inputsL.2 ⟨i,rfl,by omega,by rw [kindAt_of hn];exact h0⟩);rw [validC_cell ha hn h0,validC_cell hp hn h0]
def eagerFl (g:Graph) (q:Eager × List Show × Int) (p:List Int) (s:List Bool):Eager × List Show × Int :=
 ((writeE g q.1 (inputsL g) (valuesL g p)).1,q.2.1++showL (common (effs g s) (writeE g q.1 (inputsL g) (valuesL g p)).2) (writeE g q.1 (inputsL g) (valuesL g p)).1.vals,q.2.2 + ((writeE g q.1 (inputsL g) (valuesL g p)).2.length:Int))
def eager0 (g:Graph) (cells:List Int):Eager × List Show × Int:=(startE g cells,showL (effs g (List.replicate g.length false)) (mean g cells),(g.length:Int) - ((inputsL g).length:Int))
def eagerR (g:Graph) (cells:List Int) (l:List Act):Ses × Eager × List Show × Int:=runS (eagerFl g) (ses0 g cells,eager0 g cells) l
theorem eagerFl_eq {g:Graph} {a p:List Int} (hG:validG g=true) (ha:validC g a=true) (hp:validC g p=true) (o:List Show) (n:Int) (s:List Bool) :
  eagerFl g (startE g a,o,n) p s=(startE g p,o++showL (common (effs g s) (mustOr g a p)) (mean g p),n + ((mustOr g a p).length:Int)):=by
 unfold eagerFl;dsimp only
 have h:writeE g (startE g a) (inputsL g) (valuesL g p)=(startE g p,mustOr g a p):=by
  rw [write_start (mayWrite_all hG ha hp)];have:cellsOf g (startE g a).vals=a:=start_cells ha;rw [this,written_all ha hp]
 rw [h];rfl
end Sg
namespace Sg
end Sg
namespace Sg
def ChR (g:Graph) (chg:List Int) (ck:List Bool):Prop:=∀ i,i<g.length→ck.getD i false=decide ((i:Int) ∈ chg)
theorem ChR.start (g:Graph):ChR g [] (List.replicate g.length false):=by
 intro i hi;simp [hi]
theorem ChR.keep {g:Graph} {chg:List Int} {ck:List Bool} (h:ChR g chg ck) {j:Nat} (hj:(j:Int) ∉ chg):ChR g chg (ck.set j false):=by
 intro i hi;by_cases e:i=j
 ·subst e;rw [List.getD_eq_getElem?_getD];by_cases hl:i<ck.length
  ·rw [List.getElem?_set_self hl];simpa using hj
  ·rw [List.getElem?_eq_none (by simp;omega)];simpa using hj
 ·rw [List.getD_eq_getElem?_getD,List.getElem?_set_ne (fun h=>e h.symm),← List.getD_eq_getElem?_getD];exact h i hi
theorem ChR.add {g:Graph} {chg:List Int} {ck:List Bool} (h:ChR g chg ck) {j:Nat} (hl:j<ck.length):ChR g (chg++[(j:Int)]) (ck.set j true):=by
 intro i hi;by_cases e:i=j
 ·subst e;rw [List.getD_eq_getElem?_getD,List.getElem?_set_self hl];simp
 ·rw [List.getD_eq_getElem?_getD,List.getElem?_set_ne (fun h=>e h.symm),← List.getD_eq_getElem?_getD,h i hi];have h1:(i:Int)≠(j:Int):=by omega
  simp [h1]
theorem set_self {l:List Int} {j:Nat} {x:Int} (h:l[j]? = some x):l.set j x=l:=by
 apply List.ext_getElem?;intro i;by_cases e:j=i
 ·subst e;rw [List.getElem?_set_self (List.getElem?_eq_some_iff.1 h).1,h]
 ·rw [List.getElem?_set_ne e]
theorem hit_meets {g:Graph} {chg:List Int} {s:WrS} (h:ChR g chg s.ch) {l:List Int} (hl:∀ x ∈ l,0≤x∧x<(g.length:Int)):hit s l=meets l chg:=by
 unfold hit meets;rw [Bool.eq_iff_iff,List.any_eq_true,List.any_eq_true];constructor
 ·rintro ⟨x,hx,hb⟩;refine ⟨x,hx,?_⟩;have h1:=hl x hx;rw [h x.toNat (by omega)] at hb;rwa [show ((x.toNat:Nat):Int)=x from by omega] at hb
 ·rintro ⟨x,hx,hb⟩;refine ⟨x,hx,?_⟩;have h1:=hl x hx;rw [h x.toNat (by omega)];rwa [show ((x.toNat:Nat):Int)=x from by omega]
end Sg
namespace Sg
def Still (g:Graph) (s s':LR):Prop:=∃ l:List Int,s'.ran=s.ran++l∧∀ j,j<g.length→(j:Int) ∉ l →
 valOf s' j=valOf s j∧rdsOf s' j=rdsOf s j∧(colOf s j=2→colOf s' j=2)∧((∃ y ∈ rdsOf s j,valOf s' y.toNat≠valOf s y.toNat)→colOf s' j=2)
theorem Still.refl (g:Graph) (s:LR):Still g s s:=⟨[],by simp,fun j _ _=>⟨rfl,rfl,id,fun ⟨_,_,h⟩=>absurd rfl h⟩⟩
theorem Still.trans {g:Graph} {s t u:LR} (h:Still g s t) (k:Still g t u):Still g s u:=by
 obtain ⟨l1,e1,f1⟩:=h;obtain ⟨l2,e2,f2⟩:=k;refine ⟨l1++l2,by rw [e2,e1,List.append_assoc],fun j hj hn=>?_⟩;rw [List.mem_append,not_or] at hn;obtain ⟨a1,a2,a3,a4⟩:=f1 j hj hn.1;obtain ⟨b1,b2,b3,b4⟩:=f2 j hj hn.2;refine ⟨b1.trans a1,b2.trans a2,fun h2=>b3 (a3 h2),?_⟩;rintro ⟨y,hy,hne⟩;by_cases e:valOf t y.toNat=valOf s y.toNat
 ·exact b4 ⟨y,by rw [a2];exact hy,by rw [e];exact hne⟩
 ·exact b3 (a4 ⟨y,hy,e⟩)
theorem still_col {g:Graph} {s:LR} {n:Nat} (h:validL g s.st=true) (hn:n<g.length) (h1:colOf s n=1):Still g s (setCol s n 0):=by
 have hcl:=(validL_shape h).2.2.2.1;refine ⟨[],by simp [setCol],fun j _ _=>⟨rfl,rfl,fun h2=>?_,fun ⟨_,_,hne⟩=>absurd rfl hne⟩⟩;show (s.st.cols.set n 0).getD j 0=2;rw [getD_set _ _ _ _ _ (by omega),if_neg]
 ·exact h2
 ·intro e;subst e;omega
theorem still_run {g:Graph} {s:LR} {n:Nat} (h:validL g s.st=true) (hn:n<g.length) (x:Int) (l:List Int):Still g s (finishL s n x l):=by
 have hs:=validL_shape h;have hA:=ahead_of h;refine ⟨[(n:Int)],by simp [finishL],fun j hj hne=>?_⟩;have e:j≠n:=fun e=>hne (by subst e;simp);have hcol:(s.st.cols.set n 0).getD j 0=s.st.cols.getD j 0:=by rw [getD_set _ _ _ _ _ (by omega),if_neg e]
 have hrd:(s.st.reads.set n l).getD j []=s.st.reads.getD j []:=by rw [getD_set _ _ _ _ _ (by omega),if_neg e]
 by_cases hxv:x=valOf s n
 ·have hst:finishL s n x l=⟨⟨s.st.vals,s.st.reads.set n l,s.st.cols.set n 0⟩,s.ran++[(n:Int)]⟩:=by unfold finishL;rw [if_pos hxv]
  rw [hst];exact ⟨rfl,hrd,fun h2=>hcol.trans h2,fun ⟨_,_,hn⟩=>absurd rfl hn⟩
 ·have hst:finishL s n x l=⟨⟨s.st.vals.set n x,s.st.reads.set n l,spoilC (s.st.reads.set n l) (s.st.cols.set n 0) n⟩,s.ran++[(n:Int)]⟩:=by unfold finishL;rw [if_neg hxv]
  rw [hst];have hsp:=spoilC_getD (s.st.reads.set n l) (s.st.cols.set n 0) n j (by rw [List.length_set];omega);rw [hcol,hrd] at hsp;refine ⟨?_,hrd,fun h2=>?_,?_⟩
  ·show (s.st.vals.set n x).getD j 0=s.st.vals.getD j 0;rw [getD_set _ _ _ _ _ (by omega),if_neg e]
  ·show (spoilC _ _ n).getD j 0=2;have h2':s.st.cols.getD j 0=2:=h2;rw [hsp,h2'];split
   ·split <;> simp
   ·rfl
  ·rintro ⟨y,hy,hne⟩;have hy':y ∈ s.st.reads.getD j []:=hy
   have hyn:y.toNat=n:=by
    apply Decidable.byContradiction;intro hyn;apply hne;show (s.st.vals.set n x).getD y.toNat 0=s.st.vals.getD y.toNat 0;rw [getD_set _ _ _ _ _ (by omega),if_neg hyn]
   have hy0:=hA j y hy';have hyn2:y=(n:Int):=by omega
   subst hyn2;show (spoilC _ _ n).getD j 0=2;rw [hsp,if_pos (Way.one (by rw [hrd];exact hy')),if_pos hy']
structure Steps (g:Graph) (R:LR→LR→Prop):Prop where
 refl:∀ s,R s s
 trans:∀ s t u,R s t→R t u→R s u
 col:∀ (s:LR) (n:Nat),validL g s.st=true→n<g.length→colOf s n=1→R s (setCol s n 0)
 run:∀ (s:LR) (n:Nat) (x:Int) (l:List Int),validL g s.st=true→n<g.length→R s (finishL s n x l)
theorem loop_rel {g:Graph} {R:LR→LR→Prop} (S:Steps g R) {c:Int→LR→LR} {n:Nat} (hc:∀ (k:Nat) (s:LR),k<n→validL g s.st=true→R s (c k s)∧validL g (c k s).st=true) (l:List Int) (hl:∀ x ∈ l,0≤x∧x<(n:Int)) (s:LR) (hs:validL g s.st=true) :
  R s (loopS c n l s)∧validL g (loopS c n l s).st=true:=by
 induction l generalizing s with
 | nil=>exact ⟨S.refl s,hs⟩
 | cons x l ih =>
  by_cases h1:colOf s n=1
  ·rw [loopS_cons c n x l s h1];have hx:=hl x (by simp);obtain ⟨k,rfl⟩:=Int.eq_ofNat_of_zero_le hx.1;obtain ⟨a1,a2⟩:=hc k s (by omega) hs;obtain ⟨b1,b2⟩:=ih (fun y hy=>hl y (by simp [hy])) (c k s) a2;exact ⟨S.trans _ _ _ a1 b1,b2⟩
  ·rw [loopS_skip c n _ s h1];exact ⟨S.refl s,hs⟩
theorem evalM_rel {g:Graph} {R:LR→LR→Prop} (S:Steps g R) {c:Int→LR→LR} {n:Nat} (hc:∀ (k:Nat) (s:LR),k<n→validL g s.st=true→R s (c k s)∧validL g (c k s).st=true) {f:List Part} (hf:∀ p ∈ f,p.kind=1→0≤p.n∧p.n<(n:Int)) :
  ∀ (m:Nat) (i:Int) (l:List Int) (s:LR),validL g s.st=true →
   R s (evalM f (fun (t:List Int × LR) k=>valOf (c k t.2) k.toNat) (fun t k=>(once t.1 k,c k t.2)) m i (l,s)).2.2∧validL g (evalM f (fun (t:List Int × LR) k=>valOf (c k t.2) k.toNat) (fun t k=>(once t.1 k,c k t.2)) m i (l,s)).2.2.st=true:=by
 intro m;induction m with
 | zero=>intro i l s hs;exact ⟨S.refl s,hs⟩
 | succ m ih =>
  intro i l s hs;simp only [evalM];by_cases h0:(f.getD i.toNat default).kind=0
  ·simp only [if_pos h0];exact ⟨S.refl s,hs⟩
  ·simp only [if_neg h0];by_cases h1:(f.getD i.toNat default).kind=1
   ·simp only [if_pos h1];have hr:=hf _ (getD_mem h1) h1;generalize (f.getD i.toNat default).n=x at *;obtain ⟨k,rfl⟩:=Int.eq_ofNat_of_zero_le hr.1;exact hc k s (by omega) hs
   ·simp only [if_neg h1];obtain ⟨a1,a2⟩:=ih (f.getD i.toNat default).a l s hs;generalize evalM f (fun (t:List Int × LR) k=>valOf (c k t.2) k.toNat) (fun t k=>(once t.1 k,c k t.2)) m (f.getD i.toNat default).a (l,s)=U at *;obtain ⟨x,l1,t⟩:=U;dsimp only at a1 a2 ⊢;by_cases h8:(f.getD i.toNat default).kind=8
    ·simp only [if_pos h8];generalize (if x=0 then (f.getD i.toNat default).c else (f.getD i.toNat default).b)=j;obtain ⟨b1,b2⟩:=ih j l1 t a2;exact ⟨S.trans _ _ _ a1 b1,b2⟩
    ·simp only [if_neg h8];obtain ⟨b1,b2⟩:=ih (f.getD i.toNat default).b l1 t a2;exact ⟨S.trans _ _ _ a1 b1,b2⟩
theorem clean_rel {g:Graph} (hG:validG g=true) {R:LR→LR→Prop} (S:Steps g R) (f:Nat):∀ (k:Nat) (s:LR),k<f→k<g.length→validL g s.st=true→R s (cleanS g f k s):=by
 induction f with
 | zero=>intro k s hk;omega
 | succ f ih =>
  intro k s hk hkg hs;have hn:g[k]? = some g[k]:=List.getElem?_eq_getElem hkg;generalize g[k]=nd at hn;have hcl:=cleanS_cleaned hG f;have hc:∀ (j:Nat) (t:LR),j<k→validL g t.st=true→R t (cleanS g f j t)∧validL g (cleanS g f j t).st=true:=fun j t hj ht=>⟨ih j t (by omega) (by omega) ht,(hcl j t (by omega) (by omega) ht).1.ok⟩;have hc':Cleans g (cleanS g f) k:=fun j t hj hjg ht=>hcl j t (by omega) hjg ht;obtain ⟨a1,-⟩:=checkS_cleaned hn hc' s hs
  have hck:R s (checkS (cleanS g f) k s):=by
   unfold checkS;by_cases h1:colOf s k=1
   ·rw [if_pos h1];obtain ⟨b1,b2⟩:=loop_rel S hc (rdsOf s k) (fun x hx=>ahead_of hs k x hx) s hs;generalize loopS (cleanS g f) k (rdsOf s k) s=t at *;by_cases h2:colOf t k=1
    ·rw [if_pos h2];exact S.trans _ _ _ b1 (S.col t k b2 hkg h2)
    ·rw [if_neg h2];exact b1
   ·rw [if_neg h1];exact S.refl s
  simp only [cleanS,Int.toNat_natCast];generalize checkS (cleanS g f) k s=t at *;by_cases h2:colOf t k=2
  ·rw [if_pos h2];have h0:nd.kind≠0:=fun h0=>by have:=(((validL_iff.1 a1.ok).2 k nd hn).cell h0).1;unfold colOf at h2;omega
   have hgn:=validG_node hG k hkg;have hd:=getD_of hn default
   have hV:validF nd.f=true:=by
    unfold goodNode at hgn;rw [hd] at hgn;dsimp only at hgn;rw [if_neg h0] at hgn;split at hgn
    ·simp only [Bool.and_eq_true] at hgn;exact hgn.1
    ·cases hgn
   have hr:=evalM_rel S hc (f:=nd.f) (fun p hp h1=>may_lt hG hn h0 (mem_mayRead hV hp h1)) nd.f.length ((nd.f.length:Int) - 1) [] t a1.ok
   have hu:R t (runC g (cleanS g f) k t).2.2∧validL g (runC g (cleanS g f) k t).2.2.st=true:=by
    unfold runC runM;rw [hd];exact hr
   exact S.trans _ _ _ hck (S.trans _ _ _ hu.1 (S.run _ k _ _ hu.2 hkg))
  ·rw [if_neg h2];exact hck
theorem still_steps (g:Graph):Steps g (Still g):=⟨Still.refl g,fun _ _ _=>Still.trans,fun _ _ h hn h1=>still_col h hn h1,fun _ _ x l h hn=>still_run h hn x l⟩
theorem reads_rel {g:Graph} {R:LR→LR→Prop} (S:Steps g R) (l:List Int):∀ (s:LR),validL g s.st=true→(∀ x ∈ l,∃ k:Nat,x=k∧k<g.length)→R s (readsL g l s):=by
 induction l with
 | nil=>intro s _ _;exact S.refl s
 | cons x l ih =>
  intro s hs hl;obtain ⟨k,rfl,hk⟩:=hl x (by simp);have hG:=(validL_shape hs).1;have h10:=validG_len10 hG;exact S.trans _ _ _ (clean_rel hG S 10 k s (by omega) hk hs) (ih _ (cleanS_cleaned hG 10 k s (by omega) hk hs).1.ok (fun y hy=>hl y (by simp [hy])))
noncomputable def writesL (nodes:List Int) (p:List Int) (st:Lazy):Lazy:=nodes.foldl (fun t n=>writeL t n.toNat (rd p n)) st
theorem writesL_snoc (nodes:List Int) (n:Int) (p:List Int) (st:Lazy):writesL (nodes++[n]) p st=writeL (writesL nodes p st) n.toNat (rd p n):=by simp [writesL]
noncomputable def lazyT (g:Graph) (st:Lazy) (p:List Int) (s:List Bool):LR:=readsL g (effs g s) ⟨writesL (inputsL g) p st,[]⟩
noncomputable def lazyFl (g:Graph) (q:Lazy × List Show × Int) (p:List Int) (s:List Bool):Lazy × List Show × Int :=
 ((lazyT g q.1 p s).st,q.2.1++showL (common (effs g s) (lazyT g q.1 p s).ran) (lazyT g q.1 p s).st.vals,q.2.2 + ((lazyT g q.1 p s).ran.length:Int))
noncomputable def lazyT0 (g:Graph) (cells:List Int):LR:=readsL g (effs g (List.replicate g.length false)) ⟨startL g cells,[]⟩
noncomputable def lazy0 (g:Graph) (cells:List Int):Lazy × List Show × Int:=((lazyT0 g cells).st,showL (effs g (List.replicate g.length false)) (lazyT0 g cells).st.vals,((lazyT0 g cells).ran.length:Int))
noncomputable def lazyR (g:Graph) (cells:List Int) (l:List Act):Ses × Lazy × List Show × Int:=runS (lazyFl g) (ses0 g cells,lazy0 g cells) l
theorem mem_effs {g:Graph} {s:List Bool} {n:Int}:n ∈ effs g s↔∃ i:Nat,n=i∧i<g.length∧kindAt g (i:Int)=2∧s.getD i false=false:=by
 unfold effs;rw [mem_whichL];simp
theorem effs_in {g:Graph} {s:List Bool}:∀ x ∈ effs g s,∃ k:Nat,x=k∧k<g.length:=fun x hx=>by
 obtain ⟨i,e,hi,_⟩:=mem_effs.1 hx;exact ⟨i,e,hi⟩
structure Wl (g:Graph) (p:List Int) (st0 st:Lazy) (nodes:List Int):Prop where
 ok:validL g st=true
 rds:st.reads=st0.reads
 cell:∀ i:Nat,(i:Int) ∈ nodes→st.vals.getD i 0=p.getD i 0
 oth:∀ i:Nat,(i:Int) ∉ nodes→st.vals.getD i 0=st0.vals.getD i 0
 two:∀ j,j<g.length→st0.cols.getD j 0=2→st.cols.getD j 0=2
 told:∀ j,j<g.length→(∃ y ∈ st0.reads.getD j [],st.vals.getD y.toNat 0≠st0.vals.getD y.toNat 0)→st.cols.getD j 0=2
 dirt:∀ j,j<g.length→st.cols.getD j 0=2→st0.cols.getD j 0=2∨∃ y ∈ st0.reads.getD j [],st.vals.getD y.toNat 0≠st0.vals.getD y.toNat 0
theorem wl_all {g:Graph} {p:List Int} {st0:Lazy} (h:validL g st0=true) (hp:validC g p=true) (k:Nat) (hk:k≤(inputsL g).length):Wl g p st0 (writesL ((inputsL g).take k) p st0) ((inputsL g).take k):=by
 induction k with
 | zero=>exact ⟨h,rfl,fun i hi=>by simp at hi,fun i _=>rfl,fun j _ h=>h,fun j _ h=>by obtain ⟨y,_,hy⟩:=h;exact absurd rfl hy,fun j _ h=>.inl h⟩
 | succ k ih =>
  obtain ⟨ok,rds,cell,oth,two,told,dirt⟩:=ih (by omega);have hkl:k<(inputsL g).length:=by omega
  have e2:(inputsL g).take (k + 1)=(inputsL g).take k++[(inputsL g)[k]]:=List.take_succ_eq_append_getElem hkl;obtain ⟨n,en,hn,hk0⟩:=mem_inputsL.1 (List.getElem_mem hkl)
  have hnew:(n:Int) ∉ (inputsL g).take k:=by
   have hd:=cellsDiffer_at (inputs_differ g) (List.getElem?_eq_getElem hkl);have:=hd.2;rw [en] at this;exact this
  rw [en] at e2;rw [e2,writesL_snoc];generalize writesL ((inputsL g).take k) p st0=st at *;generalize (inputsL g).take k=nodes at *;have hs:=validL_shape ok;have hpn:=validC_rd hp n hn
  have hcell:isCell g (n:Int)=true:=by
   unfold isCell inR;simp only [Bool.and_eq_true,decide_eq_true_eq];exact ⟨by omega,hk0⟩
  rw [Int.toNat_natCast,rd_nat];have hv:=writeL_valid ok hcell hpn;have hvals:=writeL_vals ok (show n<st.vals.length by omega) (p.getD n 0)
  have hgv:∀ i:Nat,(writeL st n (p.getD n 0)).vals.getD i 0=if i=n then p.getD n 0 else st.vals.getD i 0:=fun i=>by
   rw [hvals,getD_set _ _ _ _ _ (by omega)]
  have hrd2:(writeL st n (p.getD n 0)).reads=st.reads:=by unfold writeL;split <;> rfl
  have hA:=ahead_of ok
  have hcols:∀ j,j<g.length→(st.cols.getD j 0=2→(writeL st n (p.getD n 0)).cols.getD j 0=2)∧((n:Int) ∈ st.reads.getD j []→st.vals.getD n 0≠p.getD n 0→(writeL st n (p.getD n 0)).cols.getD j 0=2) ∧
    ((writeL st n (p.getD n 0)).cols.getD j 0=2→st.cols.getD j 0=2∨((n:Int) ∈ st.reads.getD j []∧st.vals.getD n 0≠p.getD n 0)):=by
   intro j hj;unfold writeL;by_cases e:st.vals.getD n 0=p.getD n 0
   ·rw [if_pos e];exact ⟨id,fun _ h=>absurd e h,.inl⟩
   ·rw [if_neg e];have hsp:=spoilC_getD st.reads st.cols n j (by omega);dsimp only;rw [hsp];refine ⟨fun h2=>?_,fun hm _=>?_,fun h2=>?_⟩
    ·rw [h2];split;split <;> simp;rfl
    ·rw [if_pos (Way.one hm),if_pos hm]
    ·split at h2
     ·split at h2
      ·rename_i hm;exact .inr ⟨hm,e⟩
      ·split at h2
       ·omega
       ·exact .inl h2
     ·exact .inl h2
  refine ⟨hv,hrd2.trans rds,fun i hi=>?_,fun i hi=>?_,fun j hj h2=>(hcols j hj).1 (two j hj h2),fun j hj h2=>?_,fun j hj h2=>?_⟩
  ·rw [hgv];split
   ·rename_i e;rw [e]
   ·rename_i e
    rcases List.mem_append.1 hi with hi | hi
    ·exact cell i hi
    ·rw [List.mem_singleton] at hi;omega
  ·rw [List.mem_append,not_or,List.mem_singleton] at hi;rw [hgv,if_neg (by omega)];exact oth i hi.1
  ·obtain ⟨y,hy,hne⟩:=h2;rw [hgv] at hne;split at hne
   ·rename_i e
    have hy0:=hA j y (by rw [rds];exact hy);have:y=(n:Int):=by omega
    subst this;rw [Int.toNat_natCast] at hne;rw [← oth n hnew] at hne;exact (hcols j hj).2.1 (by rw [rds];exact hy) (fun h=>hne h.symm)
   ·exact (hcols j hj).1 (told j hj ⟨y,hy,hne⟩)
  ·rcases (hcols j hj).2.2 h2 with h3 | ⟨hm,hne⟩
   ·rcases dirt j hj h3 with h4 | ⟨y,hy,hne⟩
    ·exact .inl h4
    ·refine .inr ⟨y,hy,?_⟩;rw [hgv];split
     ·rename_i e
      exfalso
      have hy0:=hA j y (by rw [rds];exact hy);have:y=(n:Int):=by omega
      subst this;rw [Int.toNat_natCast] at hne;exact hne (oth n hnew)
     ·exact hne
   ·refine .inr ⟨n,by rw [← rds];exact hm,?_⟩;rw [Int.toNat_natCast,hgv,if_pos rfl,← oth n hnew];exact fun h=>hne h.symm
structure LzI (g:Graph) (a:List Int) (st:Lazy):Prop where
 ok:validL g st=true
 cells:cellsOf g st.vals=a
theorem LzI.vc {g:Graph} {a:List Int} {st:Lazy} (h:LzI g a st):validC g a=true:=by rw [← h.cells];exact lazy_cellsC h.ok
theorem LzI.mean {g:Graph} {a:List Int} {st:Lazy} (h:LzI g a st) {j:Nat} (hj:j<g.length) (hc:st.cols.getD j 0=0):st.vals.getD j 0=(mean g a).getD j 0:=by
 have:=clean_mean h.ok (j + 1) j (by omega) hj hc;rw [h.cells] at this;exact this.symm
theorem LzI.rds {g:Graph} {a:List Int} {st:Lazy} (h:LzI g a st) {j:Nat} (hj:j<g.length) (hc:st.cols.getD j 0=0):st.reads.getD j []=depAt g (Sg.mean g a) j∧∀ x ∈ st.reads.getD j [],st.cols.getD x.toNat 0=0:=by
 have hn:g[j]? = some g[j]:=List.getElem?_eq_getElem hj;generalize g[j]=nd at hn;have hk:=(validL_iff.1 h.ok).2 j nd hn;unfold depAt;rw [getD_of hn];by_cases h0:nd.kind=0
 ·rw [if_pos h0,(hk.cell h0).2];exact ⟨rfl,fun x hx=>by cases hx⟩
 ·rw [if_neg h0];rcases hk.form h0 with ⟨h2,_⟩ | ⟨h2,_⟩ | ⟨_,hR,hx⟩
  ·omega
  ·omega
  ·refine ⟨?_,hx⟩;have hA:=ahead_of h.ok
   have:runF nd.f st.vals=runF nd.f (Sg.mean g a):=by
    refine runF_same fun x hm=>?_;rw [hR] at hm;have hx0:=hA j x hm;have:=h.mean (j:=x.toNat) (by omega) (hx x hm);unfold rd;exact this
   rw [← this,hR]
theorem LzI.cell {g:Graph} {a:List Int} {st:Lazy} (h:LzI g a st) {j:Nat} (hj:j<g.length) (hk:kindAt g (j:Int)=0):st.vals.getD j 0=(Sg.mean g a).getD j 0∧st.cols.getD j 0=0:=by
 have hn:g[j]? = some g[j]:=List.getElem?_eq_getElem hj;generalize g[j]=nd at hn;rw [kindAt_of hn] at hk;have hc:=(((validL_iff.1 h.ok).2 j nd hn).cell hk).1;exact ⟨h.mean hj hc,hc⟩
theorem LzI.wr {g:Graph} {a p:List Int} {st:Lazy} (h:LzI g a st) (hp:validC g p=true):Wl g p st (writesL (inputsL g) p st) (inputsL g)∧LzI g p (writesL (inputsL g) p st):=by
 have hw:=wl_all h.ok hp (inputsL g).length (Nat.le_refl _);rw [List.take_length] at hw;refine ⟨hw,hw.ok,?_⟩;have hs:=validL_shape hw.ok;have hpl:=validC_len hp;refine (cells_same (by omega) hpl fun i n hn h0=>?_).trans ?_
 ·exact hw.cell i (mem_inputsL.2 ⟨i,rfl,(List.getElem?_eq_some_iff.1 hn).1,by rw [kindAt_of hn];exact h0⟩)
 ·refine ext0 (by unfold cellsOf;simp) fun i hi=>?_;rw [show (cellsOf g p).length=p.length by unfold cellsOf;simp] at hi;rw [cellsOf_at g p i hi];split
  ·rename_i h0
   obtain ⟨n,hn⟩:∃ n,g[i]? = some n:=⟨_,List.getElem?_eq_getElem (by omega)⟩;rw [getD_of hn] at h0;rw [validC_cell hp hn h0]
  ·rfl
theorem LzI.rd {g:Graph} {a:List Int} {st:Lazy} (h:LzI g a st) (l:List Int) (hl:∀ x ∈ l,∃ k:Nat,x=k∧k<g.length):LzI g a (readsL g l ⟨st,[]⟩).st:=by
 have hc:=readsL_cleaned (g:=g) (s:=⟨st,[]⟩) h.ok l (fun k hk=>inR_iff.2 (hl k hk));exact ⟨hc.ok,(cleaned_cells (s:=⟨st,[]⟩) h.ok hc).trans h.cells⟩
theorem deps_same {g:Graph} (hG:validG g=true) {a b:List Int} (ha:validC g a=true) (hb:validC g b=true) {i:Nat} (hi:i<g.length) (h0:kindAt g (i:Int)≠0)
  (h:∀ y ∈ depAt g (mean g a) i,(mean g a).getD y.toNat 0=(mean g b).getD y.toNat 0):(mean g a).getD i 0=(mean g b).getD i 0∧depAt g (mean g a) i=depAt g (mean g b) i:=by
 have hn:g[i]? = some g[i]:=List.getElem?_eq_getElem hi;generalize g[i]=n at hn;rw [kindAt_of hn] at h0;obtain ⟨-,-,-,-,hRa⟩:=validE_parts (start_validE hG ha);obtain ⟨-,-,-,-,hRb⟩:=validE_parts (start_validE hG hb);have ea:runF n.f (mean g a)=((mean g a).getD i 0,(depsTo g (mean g a) g.length).getD i []):=rightAt_run hn h0 (hRa i hi);have eb:runF n.f (mean g b)=((mean g b).getD i 0,(depsTo g (mean g b) g.length).getD i []):=rightAt_run hn h0 (hRb i hi)
 have e:runF n.f (mean g a)=runF n.f (mean g b):=by
  refine runF_same fun x hx=>?_;have:=h x (by unfold depAt;rw [getD_of hn,if_neg h0];exact hx);unfold Sg.rd;exact this
 refine ⟨?_,?_⟩
 ·have:=congrArg Prod.fst (ea.symm.trans (e.trans eb));exact this
 ·unfold depAt;rw [getD_of hn,if_neg h0,if_neg h0,e]
theorem must_iff {g:Graph} (hG:validG g=true) {a b:List Int} (ha:validC g a=true) (hb:validC g b=true) {i:Nat} (hi:i<g.length) :
  (i:Int) ∈ mustOr g a b↔kindAt g (i:Int)≠0∧∃ y ∈ depAt g (mean g a) i,(mean g a).getD y.toNat 0≠(mean g b).getD y.toNat 0:=by
 unfold mustOr;rw [hG,ha,hb];simp only [Bool.and_self,if_true];rw [mem_whichL];constructor
 ·rintro ⟨j,e,hj,hm⟩;obtain rfl:i=j:=by omega
  unfold mustAt at hm;simp only [Bool.and_eq_true,Bool.or_eq_true,bne_iff_ne,ne_eq,List.any_eq_true] at hm;refine ⟨hm.1,Decidable.byContradiction fun hn=>?_⟩;have hall:∀ y ∈ depAt g (mean g a) i,(mean g a).getD y.toNat 0=(mean g b).getD y.toNat 0:=fun y hy=>Decidable.byContradiction fun h=>hn ⟨y,hy,h⟩;rcases hm.2 with h | ⟨y,hy,h⟩
  ·exact h (deps_same hG ha hb hi hm.1 hall).1
  ·exact h (by unfold Sg.rd;exact hall y hy)
 ·rintro ⟨h0,y,hy,hne⟩;refine ⟨i,rfl,hi,?_⟩;unfold mustAt;simp only [Bool.and_eq_true,Bool.or_eq_true,bne_iff_ne,ne_eq,List.any_eq_true];exact ⟨h0,.inr ⟨y,hy,by unfold Sg.rd;exact hne⟩⟩
structure Flushed (g:Graph) (a p:List Int) (s:List Bool) (st:Lazy) (t:LR):Prop where
 ok:LzI g p t.st
 live:∀ i:Nat,(i:Int) ∈ effs g s→t.st.cols.getD i 0=0
 nodup:t.ran.Nodup
 ran:∀ x ∈ t.ran,∃ i:Nat,x=i∧i<g.length∧kindAt g (i:Int)≠0∧t.st.cols.getD i 0=0
 same:∀ j,j<g.length→kindAt g (j:Int)≠0→st.cols.getD j 0≠2→(∀ y ∈ st.reads.getD j [],st.vals.getD y.toNat 0=(mean g a).getD y.toNat 0∧(mean g a).getD y.toNat 0=(mean g p).getD y.toNat 0) →
  (j:Int) ∉ t.ran∧t.st.cols.getD j 0≠2∧t.st.reads.getD j []=st.reads.getD j []∧t.st.vals.getD j 0=st.vals.getD j 0∧∀ y ∈ st.reads.getD j [],t.st.vals.getD y.toNat 0=st.vals.getD y.toNat 0
 told:∀ j,j<g.length→(j:Int) ∉ t.ran→t.st.reads.getD j []=st.reads.getD j []∧((∃ y ∈ st.reads.getD j [],t.st.vals.getD y.toNat 0≠st.vals.getD y.toNat 0)→t.st.cols.getD j 0=2)
theorem flushed {g:Graph} {a p:List Int} {st:Lazy} (h:LzI g a st) (hp:validC g p=true) (s:List Bool):Flushed g a p s st (lazyT g st p s):=by
 obtain ⟨hw,h1⟩:=h.wr hp;unfold lazyT;generalize writesL (inputsL g) p st=st1 at hw h1;have hG:=(validL_shape h.ok).1;obtain ⟨hc,hlive⟩:=readsL_clean (effs g s) ⟨st1,[]⟩ h1.ok effs_in;have h2:=h1.rd (effs g s) effs_in;obtain ⟨l,el,fl⟩:=reads_rel (still_steps g) (effs g s) ⟨st1,[]⟩ h1.ok effs_in;obtain ⟨l',el',nd,fr⟩:=hc.ran;generalize ht:readsL g (effs g s) ⟨st1,[]⟩=t at *;rw [List.nil_append] at el el';obtain rfl:l=l':=el.symm.trans el';subst el;have hA:=ahead_of h.ok;refine ⟨h2,fun i hi=>by have:=hlive i hi;rw [Int.toNat_natCast] at this;exact this,nd,fun x hx=>?_,fun j hj hk h2c hrd=>?_,fun j hj hn=>?_⟩
 ·obtain ⟨i,e,hi,_,hci,hct,_⟩:=fr x hx;refine ⟨i,e,hi,fun hk=>hci (h1.cell hi hk).2,hct⟩
 ·have hy1:∀ y ∈ st.reads.getD j [],st1.vals.getD y.toNat 0=st.vals.getD y.toNat 0∧t.st.vals.getD y.toNat 0=st.vals.getD y.toNat 0:=by
   intro y hy;obtain ⟨e1,e2⟩:=hrd y hy;have hy0:=hA j y hy;have hyl:y.toNat<g.length:=by omega
   have s1:st1.vals.getD y.toNat 0=st.vals.getD y.toNat 0:=by
    by_cases hk:kindAt g (y.toNat:Int)=0
    ·rw [(h1.cell hyl hk).1,← e2,e1]
    ·exact hw.oth y.toNat (fun hm=>by obtain ⟨i,e,_,hi⟩:=mem_inputsL.1 hm;exact hk (by rw [e];exact hi))
   refine ⟨s1,?_⟩;by_cases hct:t.st.cols.getD y.toNat 0=0
   ·rw [h2.mean hyl hct,← e2,e1]
   ·exact ((hc.stay y.toNat hyl hct).1).trans s1
  have hc1:st1.cols.getD j 0≠2:=fun e=>by
   rcases hw.dirt j hj e with e | ⟨y,hy,hne⟩
   ·exact h2c e
   ·exact hne (hy1 y hy).1
  have hrd1:st1.reads.getD j []=st.reads.getD j []:=by rw [hw.rds]
  have hnr:(j:Int) ∉ t.ran:=fun hm=>by
   obtain ⟨i,e,_,_,_,_,hwhy⟩:=fr _ hm;obtain rfl:j=i:=by omega
   rcases hwhy with hwhy | ⟨y,hy,hne⟩
   ·exact hc1 hwhy
   ·have hy':y ∈ st.reads.getD j []:=by rw [← hrd1];exact hy
    exact hne ((hy1 y hy').2.trans (hy1 y hy').1.symm)
  obtain ⟨b1,b2,_,_⟩:=fl j hj hnr;refine ⟨hnr,fun e=>?_,b2.trans hrd1,b1.trans (hw.oth j fun hm=>by obtain ⟨i,e,_,hi⟩:=mem_inputsL.1 hm;exact hk (by rw [e];exact hi)),fun y hy=>(hy1 y hy).2⟩;rcases hc.dirt j hj e with e | ⟨y,hy,hne⟩
  ·exact hc1 e
  ·have hy':y ∈ st.reads.getD j []:=by rw [← hrd1];exact hy
   exact hne ((hy1 y hy').2.trans (hy1 y hy').1.symm)
 ·obtain ⟨b1,b2,b3,b4⟩:=fl j hj hn;have hrd1:st1.reads.getD j []=st.reads.getD j []:=by rw [hw.rds]
  refine ⟨b2.trans hrd1,?_⟩;rintro ⟨y,hy,hne⟩;by_cases e:st1.vals.getD y.toNat 0=st.vals.getD y.toNat 0
  ·exact b4 ⟨y,by show y ∈ st1.reads.getD j [];rw [hrd1];exact hy,by show t.st.vals.getD y.toNat 0≠st1.vals.getD y.toNat 0;rw [e];exact hne⟩
  ·exact b3 (hw.told j hj ⟨y,hy,e⟩)
theorem flushed_live {g:Graph} {a p:List Int} {st:Lazy} {s:List Bool} {t:LR} (h:LzI g a st) (f:Flushed g a p s st t) {i:Nat} (hi:(i:Int) ∈ effs g s) (hc:st.cols.getD i 0=0):(i:Int) ∈ t.ran↔(i:Int) ∈ mustOr g a p:=by
 have hG:=(validL_shape h.ok).1;have ha:=h.vc;have hp:=f.ok.vc;obtain ⟨i',e,hil,hk,-⟩:=mem_effs.1 hi;obtain rfl:i=i':=by omega
 clear e;have hk0:kindAt g (i:Int)≠0:=by omega
 have hA:=ahead_of h.ok;obtain ⟨hr1,hr2⟩:=h.rds hil hc;rw [must_iff hG ha hp hil];constructor
 ·intro hm;refine ⟨hk0,Decidable.byContradiction fun hn=>?_⟩;refine (f.same i hil hk0 (by omega) fun y hy=>?_).1 hm;have hy0:=hA i y hy;refine ⟨h.mean (by omega) (hr2 y hy),Decidable.byContradiction fun hne=>hn ⟨y,by rw [← hr1];exact hy,hne⟩⟩
 ·rintro ⟨_,y,hy,hne⟩;apply Decidable.byContradiction;intro hm;rw [← hr1] at hy;have hy0:=hA i y hy;obtain ⟨b1,b2⟩:=f.told i hil hm;have hlive:=f.live i hi;have hv:t.st.vals.getD y.toNat 0=st.vals.getD y.toNat 0:=Decidable.byContradiction fun hv=>by have:=b2 ⟨y,hy,hv⟩;omega
  have hyc:=(f.ok.rds hil hlive).2 y (by rw [b1];exact hy);apply hne;rw [← h.mean (by omega) (hr2 y hy),← f.ok.mean (by omega) hyc,hv]
structure LzS (g:Graph) (a:List Int) (s:List Bool) (st:Lazy):Prop where
 i:LzI g a st
 live:∀ i:Nat,(i:Int) ∈ effs g s→st.cols.getD i 0=0
theorem showL_same {g:Graph} {a:List Int} {l:List Int} {v:List Int} (h:∀ x ∈ l,rd v x=rd (mean g a) x):showL l v=showL l (mean g a):=by
 unfold showL;exact List.map_congr_left fun x hx=>by rw [h x hx]
theorem lazyFl_eq {g:Graph} {a p:List Int} {s s':List Bool} {st:Lazy} (h:LzS g a s st) (hp:validC g p=true) (hs:∀ x ∈ effs g s',x ∈ effs g s) (o:List Show) (n:Int) :
  ∃ st' n',lazyFl g (st,o,n) p s'=(st',o++showL (common (effs g s') (mustOr g a p)) (mean g p),n')∧LzS g p s' st':=by
 have f:=flushed h.i hp s';refine ⟨(lazyT g st p s').st,n + ((lazyT g st p s').ran.length:Int),?_,f.ok,f.live⟩;unfold lazyFl;dsimp only;refine congrArg (fun x=>((lazyT g st p s').st,x,n + ((lazyT g st p s').ran.length:Int))) ?_
 have e:common (effs g s') (lazyT g st p s').ran=common (effs g s') (mustOr g a p):=by
  unfold common;refine List.filter_congr fun x hx=>?_;obtain ⟨i,rfl,hi⟩:=effs_in x hx;have:=flushed_live h.i f hx (h.live i (hs _ hx));by_cases hm:(i:Int) ∈ mustOr g a p
  ·simp [hm,this.2 hm]
  ·have hn:(i:Int) ∉ (lazyT g st p s').ran:=fun e=>hm (this.1 e);simp [hm,hn]
 rw [e];congr 1
 refine showL_same fun x hx=>?_;have hx':x ∈ effs g s':=by unfold common at hx;exact (List.mem_filter.1 hx).1
 obtain ⟨i,rfl,hi⟩:=effs_in x hx';rw [rd_nat,rd_nat];exact f.ok.mean hi (f.live i hx')
theorem lazy0_ok {g:Graph} {cells:List Int} (hG:validG g=true) (hC:validC g cells=true):LzS g cells (List.replicate g.length false) (lazyT0 g cells).st∧(lazy0 g cells).2.1=showL (effs g (List.replicate g.length false)) (mean g cells) ∧
  common (effs g (List.replicate g.length false)) (lazyT0 g cells).ran=effs g (List.replicate g.length false)∧(lazyT0 g cells).ran.Nodup∧∀ x ∈ (lazyT0 g cells).ran,∃ i:Nat,x=i∧i<g.length∧kindAt g (i:Int)≠0∧(lazyT0 g cells).st.cols.getD i 0=0:=by
 have hv:=startL_valid hG hC
 have h0:LzI g cells (startL g cells):=⟨hv,by
  have hl:=validC_len hC;show cellsOf g cells=cells;refine ext0 (by unfold cellsOf;simp) fun i hi=>?_;rw [show (cellsOf g cells).length=cells.length by unfold cellsOf;simp] at hi;rw [cellsOf_at g cells i hi];split
  ·rename_i hk
   obtain ⟨n,hn⟩:∃ n,g[i]? = some n:=⟨_,List.getElem?_eq_getElem (by omega)⟩;rw [getD_of hn] at hk;rw [validC_cell hC hn hk]
  ·rfl⟩
 obtain ⟨hc,hlive⟩:=readsL_clean (effs g (List.replicate g.length false)) ⟨startL g cells,[]⟩ hv effs_in;have h2:=h0.rd (effs g (List.replicate g.length false)) effs_in;obtain ⟨l,el,fl⟩:=reads_rel (still_steps g) (effs g (List.replicate g.length false)) ⟨startL g cells,[]⟩ hv effs_in;obtain ⟨l',el',nd,fr⟩:=hc.ran
 have hl0:∀ i:Nat,(i:Int) ∈ effs g (List.replicate g.length false)→(lazyT0 g cells).st.cols.getD i 0=0:=fun i hi=>by
  have:=hlive i hi;rw [Int.toNat_natCast] at this;exact this
 refine ⟨⟨h2,hl0⟩,?_,?_,?_,?_⟩
 ·show showL _ _=_;refine showL_same fun x hx=>?_;obtain ⟨i,rfl,hi⟩:=effs_in x hx;rw [rd_nat,rd_nat];exact h2.mean hi (hl0 i hx)
 ·unfold common;refine List.filter_eq_self.2 fun x hx=>?_;obtain ⟨i,rfl,hi,hk,_⟩:=mem_effs.1 hx;rw [decide_eq_true_eq];apply Decidable.byContradiction;intro hm;have hml:(i:Int) ∉ l:=fun h=>hm (by show (i:Int) ∈ (readsL g _ ⟨startL g cells,[]⟩).ran;rw [el];simpa using h);obtain ⟨_,_,b3,_⟩:=fl i hi hml;have hn:g[i]? = some g[i]:=List.getElem?_eq_getElem hi;generalize g[i]=nd at hn;rw [kindAt_of hn] at hk
  have h22:colOf (⟨startL g cells,[]⟩:LR) i=2:=by
   show (startL g cells).cols.getD i 0=2;rw [startL_cols hn,if_neg (by omega)]
  have h3:=b3 h22;have:=hl0 i hx;unfold lazyT0 at this;unfold colOf at h3;omega
 ·show (readsL g _ ⟨startL g cells,[]⟩).ran.Nodup;rw [el',List.nil_append];exact nd
 ·intro x hx
  have hx':x ∈ l':=by
   have:x ∈ (readsL g (effs g (List.replicate g.length false)) ⟨startL g cells,[]⟩).ran:=hx;rw [el'] at this;simpa using this
  obtain ⟨i,e,hi,_,hci,hct,_⟩:=fr x hx';exact ⟨i,e,hi,fun hk=>hci (h0.cell hi hk).2,hct⟩
theorem step_effs {g:Graph} (x:Ses) (a:Act):∀ y ∈ effs g (stepS x a).1.stop,y ∈ effs g x.stop:=by
 intro y hy;obtain ⟨i,e,hi,hk,hs⟩:=mem_effs.1 hy;refine mem_effs.2 ⟨i,e,hi,hk,?_⟩;unfold stepS at hs;split at hs
 ·exact hs
 ·split at hs
  ·apply Decidable.byContradiction;intro h;rw [Bool.not_eq_false] at h
   have hil:i<x.stop.length:=by
    apply Decidable.byContradiction;intro hn;rw [List.getD_eq_getElem?_getD,List.getElem?_eq_none (by omega)] at h;cases h
   have hs':(x.stop.set a.node.toNat true).getD i false=false:=hs;by_cases e:a.node.toNat=i
   ·subst e;rw [List.getD_eq_getElem?_getD,List.getElem?_set_self hil] at hs';cases hs'
   ·rw [List.getD_eq_getElem?_getD,List.getElem?_set_ne e,← List.getD_eq_getElem?_getD,h] at hs';cases hs'
  ·split at hs <;> exact hs
theorem LzS.less {g:Graph} {a:List Int} {s s':List Bool} {st:Lazy} (h:LzS g a s st) (hs:∀ y ∈ effs g s',y ∈ effs g s):LzS g a s' st:=⟨h.i,fun i hi=>h.live i (hs _ hi)⟩
def plain0 (g:Graph) (cells:List Int):Ses × List Int × List Show:=(ses0 g cells,(cells,showL (effs g (List.replicate g.length false)) (mean g cells)))
end Sg
namespace Sg
theorem sub_len:∀ (l m:List Int),l.Nodup→(∀ x ∈ l,x ∈ m)→l.length≤m.length
 | [],m,_,_=>Nat.zero_le _
 | x :: l,m,hn,hs=>by
  rw [List.nodup_cons] at hn;have hx:=hs x (by simp);have h1:=sub_len l (m.erase x) hn.2 (fun y hy=>(List.mem_erase_of_ne (fun e=>by subst e;exact hn.1 hy)).2 (hs y (by simp [hy])));have h2:=List.length_erase_of_mem hx;have h3:0<m.length:=List.length_pos_of_mem hx;simp only [List.length_cons];omega
def settled (g:Graph) (a:List Int) (st:Lazy) (j:Nat):Bool:=decide (st.cols.getD j 0≠2) && (st.reads.getD j []).all fun y=>decide (st.vals.getD y.toNat 0=(mean g a).getD y.toNat 0)
def owed (g:Graph) (a:List Int) (st:Lazy):List Int:=whichL (fun j=>decide (kindAt g (j:Int)≠0) && !settled g a st j) g.length
def numN (g:Graph):Nat:=(whichL (fun j=>decide (kindAt g (j:Int)≠0)) g.length).length
theorem settled_iff {g:Graph} {a:List Int} {st:Lazy} {j:Nat}:settled g a st j=true↔st.cols.getD j 0≠2∧∀ y ∈ st.reads.getD j [],st.vals.getD y.toNat 0=(mean g a).getD y.toNat 0:=by
 unfold settled;simp only [Bool.and_eq_true,decide_eq_true_eq,List.all_eq_true]
theorem mem_owed {g:Graph} {a:List Int} {st:Lazy} {x:Int}:x ∈ owed g a st↔∃ j:Nat,x=j∧j<g.length∧kindAt g (j:Int)≠0∧settled g a st j=false:=by
 unfold owed;rw [mem_whichL];simp only [Bool.and_eq_true,decide_eq_true_eq,Bool.not_eq_true']
theorem whichL_nodup (p:Nat→Bool) (k:Nat):(whichL p k).Nodup:=(whichL_sorted p k).imp fun h=>by omega
theorem settled_deps {g:Graph} {a:List Int} {st:Lazy} (h:LzI g a st) {j:Nat} (hj:j<g.length) (hk:kindAt g (j:Int)≠0) (hs:settled g a st j=true):st.reads.getD j []=depAt g (mean g a) j:=by
 obtain ⟨h2,hr⟩:=settled_iff.1 hs;have hn:g[j]? = some g[j]:=List.getElem?_eq_getElem hj;generalize g[j]=nd at hn;rw [kindAt_of hn] at hk;have hv:=(validL_iff.1 h.ok).2 j nd hn;unfold depAt;rw [getD_of hn,if_neg hk]
 have key:runF nd.f st.vals=(st.vals.getD j 0,st.reads.getD j [])→st.reads.getD j []=(runF nd.f (mean g a)).2:=by
  intro hR
  have:runF nd.f st.vals=runF nd.f (mean g a):=by
   refine runF_same fun x hm=>?_;rw [hR] at hm;have:=hr x hm;unfold Sg.rd;exact this
  rw [← this,hR]
 rcases hv.form hk with ⟨h3,_⟩ | ⟨_,hR⟩ | ⟨_,hR,_⟩
 ·exact absurd h3 h2
 ·exact key hR
 ·exact key hR
theorem must_not {g:Graph} (hG:validG g=true) {a b:List Int} (ha:validC g a=true) (hb:validC g b=true) {i:Nat} (hi:i<g.length) (hk:kindAt g (i:Int)≠0) (hm:(i:Int) ∉ mustOr g a b) :
  ∀ y ∈ depAt g (mean g a) i,(mean g a).getD y.toNat 0=(mean g b).getD y.toNat 0:=fun y hy =>
 Decidable.byContradiction fun hne=>hm ((must_iff hG ha hb hi).2 ⟨hk,y,hy,hne⟩)
theorem settled_keep {g:Graph} {a p:List Int} {s:List Bool} {st:Lazy} {t:LR} (h:LzI g a st) (f:Flushed g a p s st t) {j:Nat} (hj:j<g.length) (hk:kindAt g (j:Int)≠0) (hs:settled g a st j=true) (hm:(j:Int) ∉ mustOr g a p) :
  (j:Int) ∉ t.ran∧settled g p t.st j=true:=by
 have hd:=settled_deps h hj hk hs;obtain ⟨h2,hr⟩:=settled_iff.1 hs;have hG:=(validL_shape h.ok).1;have hsame:=must_not hG h.vc f.ok.vc hj hk hm;rw [← hd] at hsame;obtain ⟨b1,b2,b3,_,b5⟩:=f.same j hj hk h2 (fun y hy=>⟨hr y hy,hsame y hy⟩);refine ⟨b1,settled_iff.2 ⟨b2,fun y hy=>?_⟩⟩;rw [b3] at hy;rw [b5 y hy,hr y hy,hsame y hy]
theorem clean_settled {g:Graph} {p:List Int} {st:Lazy} (h:LzI g p st) {j:Nat} (hj:j<g.length) (hc:st.cols.getD j 0=0):settled g p st j=true:=by
 refine settled_iff.2 ⟨by omega,fun y hy=>?_⟩;have hy0:=ahead_of h.ok j y hy;exact h.mean (by omega) ((h.rds hj hc).2 y hy)
theorem owed_step {g:Graph} {a p:List Int} {s:List Bool} {st:Lazy} {t:LR} (h:LzI g a st) (f:Flushed g a p s st t):t.ran.length + (owed g p t.st).length≤(owed g a st).length + (mustOr g a p).length:=by
 have h1:(t.ran++owed g p t.st).Nodup:=by
  rw [List.nodup_append];refine ⟨f.nodup,whichL_nodup _ _,fun x hx y hy e=>?_⟩;subst e;obtain ⟨i,rfl,hi,hk,hc⟩:=f.ran x hx;obtain ⟨j,e,_,_,hs⟩:=mem_owed.1 hy;obtain rfl:i=j:=by omega
  rw [clean_settled f.ok hi hc] at hs;cases hs
 have h2:=sub_len _ (owed g a st++mustOr g a p) h1 (fun x hx=>by
  obtain ⟨i,rfl,hi,hk⟩:∃ i:Nat,x=i∧i<g.length∧kindAt g (i:Int)≠0:=by
   rcases List.mem_append.1 hx with hx | hx
   ·obtain ⟨i,e,hi,hk,_⟩:=f.ran x hx;exact ⟨i,e,hi,hk⟩
   ·obtain ⟨i,e,hi,hk,_⟩:=mem_owed.1 hx;exact ⟨i,e,hi,hk⟩
  by_cases hm:(i:Int) ∈ mustOr g a p
  ·exact List.mem_append.2 (.inr hm)
  ·cases hs:settled g a st i
   ·exact List.mem_append.2 (.inl (mem_owed.2 ⟨i,rfl,hi,hk,hs⟩))
   ·exfalso
    obtain ⟨k1,k2⟩:=settled_keep h f hi hk hs hm;rcases List.mem_append.1 hx with hx | hx
    ·exact k1 hx
    ·obtain ⟨j,e,_,_,hs2⟩:=mem_owed.1 hx;obtain rfl:i=j:=by omega
     rw [k2] at hs2;cases hs2)
 simpa using h2
theorem numN_eq (g:Graph):((g.length:Int) - ((inputsL g).length:Int))=(numN g:Int):=by
 have key:∀ k,(whichL (fun i=>decide (kindAt g (i:Int)=0)) k).length + (whichL (fun j=>decide (kindAt g (j:Int)≠0)) k).length=k:=by
  intro k;induction k with
  | zero=>rfl
  | succ k ih =>
   rw [whichL_succ,whichL_succ];generalize whichL (fun i=>decide (kindAt g (i:Int)=0)) k=X at *;generalize whichL (fun j=>decide (kindAt g (j:Int)≠0)) k=Y at *;by_cases h:kindAt g (k:Int)=0
   ·rw [if_pos (by simpa using h),if_neg (by simpa using h),List.length_append,List.length_singleton];omega
   ·rw [if_neg (by simpa using h),if_pos (by simpa using h),List.length_append,List.length_singleton];omega
 have:=key g.length;unfold inputsL numN;omega
theorem lazy0_count {g:Graph} {cells:List Int} (hG:validG g=true) (hC:validC g cells=true):(lazyT0 g cells).ran.length + (owed g cells (lazyT0 g cells).st).length≤numN g:=by
 obtain ⟨a1,-,-,a4,a5⟩:=lazy0_ok hG hC
 have h1:((lazyT0 g cells).ran++owed g cells (lazyT0 g cells).st).Nodup:=by
  rw [List.nodup_append];refine ⟨a4,whichL_nodup _ _,fun x hx y hy e=>?_⟩;subst e;obtain ⟨i,rfl,hi,hk,hc⟩:=a5 x hx;obtain ⟨j,e,_,_,hs⟩:=mem_owed.1 hy;obtain rfl:i=j:=by omega
  rw [clean_settled a1.i hi hc] at hs;cases hs
 have h2:=sub_len _ (whichL (fun j=>decide (kindAt g (j:Int)≠0)) g.length) h1 (fun x hx=>by
  obtain ⟨i,rfl,hi,hk⟩:∃ i:Nat,x=i∧i<g.length∧kindAt g (i:Int)≠0:=by
   rcases List.mem_append.1 hx with hx | hx
   ·obtain ⟨i,e,hi,hk,_⟩:=a5 x hx;exact ⟨i,e,hi,hk⟩
   ·obtain ⟨i,e,hi,hk,_⟩:=mem_owed.1 hx;exact ⟨i,e,hi,hk⟩
  rw [mem_whichL];exact ⟨i,rfl,hi,by simpa using hk⟩)
 simpa [numN] using h2
theorem lazyFl_two {g:Graph} {a p:List Int} {s s':List Bool} {st:Lazy} (h:LzS g a s st) (hp:validC g p=true) (hs:∀ x ∈ effs g s',x ∈ effs g s) (o:List Show) (n:Int) :
  ∃ st' n',lazyFl g (st,o,n) p s'=(st',o++showL (common (effs g s') (mustOr g a p)) (mean g p),n')∧LzS g p s' st'∧n≤n'∧n' + ((owed g p st').length:Int)≤n + ((owed g a st).length:Int) + ((mustOr g a p).length:Int):=by
 obtain ⟨st',n',e,hv⟩:=lazyFl_eq h hp hs o n;refine ⟨st',n',e,hv,?_⟩;have f:=flushed h.i hp s';have hst:=owed_step h.i f;unfold lazyFl at e;dsimp only at e;simp only [Prod.mk.injEq] at e;obtain ⟨e1,-,e3⟩:=e;rw [e1] at hst;omega
def noWrite (l:List Act):Prop:=∀ a ∈ l,a.kind≠0
theorem both_runs {g:Graph} {cells:List Int} {l:List Act} (h:fitS g cells l=true) (k:Nat) (hk:k≤l.length) :
  ∃ st nl ne,lazyR g cells (l.take k)=((runS (plainFl g) (plain0 g cells) (l.take k)).1,st,(runS (plainFl g) (plain0 g cells) (l.take k)).2.2,nl) ∧
   eagerR g cells (l.take k)=((runS (plainFl g) (plain0 g cells) (l.take k)).1,startE g (runS (plainFl g) (plain0 g cells) (l.take k)).2.1,(runS (plainFl g) (plain0 g cells) (l.take k)).2.2,ne) ∧
   LzS g (runS (plainFl g) (plain0 g cells) (l.take k)).2.1 (runS (plainFl g) (plain0 g cells) (l.take k)).1.stop st∧0≤nl∧nl + ((owed g (runS (plainFl g) (plain0 g cells) (l.take k)).2.1 st).length:Int)≤ne∧(numN g:Int)≤ne ∧
   (noWrite (l.take k)→ne=numN g∧(runS (plainFl g) (plain0 g cells) (l.take k)).2.1=cells∧(runS (plainFl g) (plain0 g cells) (l.take k)).1.pend=cells):=by
 obtain ⟨hG,hC,hA,hl⟩:=fitS_parts h;induction k with
 | zero =>
  obtain ⟨a1,a2,-⟩:=lazy0_ok hG hC;have hc:=lazy0_count hG hC;refine ⟨(lazyT0 g cells).st,((lazyT0 g cells).ran.length:Int),(numN g:Int),?_,?_,a1,by omega,?_,by omega,fun _=>⟨rfl,rfl,rfl⟩⟩
  ·show (ses0 g cells,lazy0 g cells)=_;rw [show lazy0 g cells=((lazyT0 g cells).st,(lazy0 g cells).2.1,((lazyT0 g cells).ran.length:Int)) from rfl,a2];rfl
  ·show (ses0 g cells,eager0 g cells)=_;unfold eager0;rw [numN_eq];rfl
  ·show _ + ((owed g cells _).length:Int)≤_;omega
 | succ k ih =>
  obtain ⟨st,nl,ne,e,eE,hv,h0,h1,h2,h3⟩:=ih (by omega);have hs:=runS_ok (plainFl g) (q:=plain0 g cells) (ses0_ok hC) l hA k (by omega);have e2:l.take (k + 1)=l.take k++[l[k]]:=List.take_succ_eq_append_getElem (by omega);have hx:=hs.step (hA _ (List.getElem_mem (show k<l.length by omega)));have hw3:noWrite (l.take k++[l[k]])→noWrite (l.take k)∧l[k].kind≠0:=fun hw=>⟨fun a ha=>hw a (List.mem_append.2 (.inl ha)),hw _ (List.mem_append.2 (.inr (List.mem_singleton.2 rfl)))⟩;have hva:validC g (runS (plainFl g) (plain0 g cells) (l.take k)).2.1=true:=hv.i.vc;unfold lazyR at e ⊢;unfold eagerR at eE ⊢;rw [e2,runS_snoc,runS_snoc,runS_snoc,e,eE];generalize runS (plainFl g) (plain0 g cells) (l.take k)=q at hv hx h1 h3 hva;unfold stepR;dsimp only;have hst:=step_effs (g:=g) q.1 l[k]
  have hpend:l[k].kind≠0→(stepS q.1 l[k]).1.pend=q.1.pend:=fun hk0=>by
   unfold stepS;rw [if_neg hk0];split
   ·rfl
   ·split <;> rfl
  by_cases hd:(stepS q.1 l[k]).2=true
  ·rw [if_pos hd,if_pos hd,if_pos hd,eagerFl_eq hG hva hx.c];obtain ⟨st',n',e',hv',hn1,hn2⟩:=lazyFl_two hv hx.c hst q.2.2 nl;rw [e'];refine ⟨st',n',_,rfl,rfl,hv',by omega,?_,by omega,fun hw=>?_⟩
   ·show _ + ((owed g (stepS q.1 l[k]).1.pend st').length:Int)≤_;omega
   ·obtain ⟨hw1,hw2⟩:=hw3 hw;obtain ⟨c1,c2,c3⟩:=h3 hw1;have hp:=hpend hw2;show _∧(stepS q.1 l[k]).1.pend=cells∧(stepS q.1 l[k]).1.pend=cells;rw [hp,c3];refine ⟨?_,rfl,rfl⟩;rw [c2,mustOr_self,c1];simp
  ·rw [if_neg hd,if_neg hd,if_neg hd];refine ⟨st,nl,ne,rfl,rfl,hv.less hst,h0,h1,h2,fun hw=>?_⟩;obtain ⟨hw1,hw2⟩:=hw3 hw;obtain ⟨c1,c2,c3⟩:=h3 hw1;exact ⟨c1,c2,by show (stepS q.1 l[k]).1.pend=_;rw [hpend hw2];exact c3⟩
noncomputable def runsIn (g:Graph) (cells:List Int) (l:List Act):Int × Int:=if fitS g cells l=true then ((eagerR g cells l).2.2.2,(lazyR g cells l).2.2.2) else (-1,-1)
theorem runs_law {g:Graph} {cells:List Int} {l:List Act} (h:fitS g cells l=true):(runsIn g cells l).2≤(runsIn g cells l).1∧0≤(runsIn g cells l).2∧(numN g:Int)≤(runsIn g cells l).1∧(noWrite l→(runsIn g cells l).1=numN g):=by
 obtain ⟨st,nl,ne,e,eE,-,h0,h1,h2,h3⟩:=both_runs h l.length (Nat.le_refl _);rw [List.take_length] at e eE h1 h3;unfold runsIn;rw [if_pos h,e,eE];exact ⟨by show nl≤ne;omega,h0,h2,fun hw=>(h3 hw).1⟩
end Sg
