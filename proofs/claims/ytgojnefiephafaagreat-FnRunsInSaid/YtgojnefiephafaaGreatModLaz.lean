/- Parts of one proof, joined. The plain model of making lazy nodes clean: what it does, and what it keeps. No program in sight. Conditions: none. The plain model of making lazy nodes clean: the recursion. No program in sight. Conditions: none. The plain model of eager writes: what is read stays ahead of the node. Conditions: none. The plain laws of lazy states: starting, writing and forgetting keep them valid. No program in sight. Conditions: none. -/
import Derived.Test.YtgojnefiephafaaGreatModelsA
import Derived.Test.YtgojnefiephafaaGreatFactsAll
namespace Sg
structure LR where
 st:Lazy
 ran:List Int
def colOf (s:LR) (n:Nat):Int:=s.st.cols.getD n 0
def valOf (s:LR) (n:Nat):Int:=s.st.vals.getD n 0
def rdsOf (s:LR) (n:Nat):List Int:=s.st.reads.getD n []
def setCol (s:LR) (n:Nat) (x:Int):LR:=⟨⟨s.st.vals,s.st.reads,s.st.cols.set n x⟩,s.ran⟩
noncomputable def finishL (s:LR) (n:Nat) (x:Int) (l:List Int):LR :=
 ⟨if x=valOf s n then ⟨s.st.vals,s.st.reads.set n l,s.st.cols.set n 0⟩ else ⟨s.st.vals.set n x,s.st.reads.set n l,spoilC (s.st.reads.set n l) (s.st.cols.set n 0) n⟩,s.ran++[(n:Int)]⟩
def loopS (c:Int→LR→LR) (n:Nat) (l:List Int) (s:LR):LR:=l.foldl (fun t k=>if colOf t n=1 then c k t else t) s
def checkS (c:Int→LR→LR) (n:Nat) (s:LR):LR :=
 if colOf s n=1 then (if colOf (loopS c n (rdsOf s n) s) n=1 then setCol (loopS c n (rdsOf s n) s) n 0 else loopS c n (rdsOf s n) s) else s
def runC (g:Graph) (c:Int→LR→LR) (n:Nat) (s:LR):Int × (List Int × LR):=runM (g.getD n default).f (fun t k=>valOf (c k t) k.toNat) (fun t k=>c k t) s
noncomputable def cleanS (g:Graph):Nat→Int→LR→LR
 | 0,_,s=>s
 | f + 1,n,s =>
  if colOf (checkS (cleanS g f) n.toNat s) n.toNat=2 then
   finishL (runC g (cleanS g f) n.toNat (checkS (cleanS g f) n.toNat s)).2.2 n.toNat (runC g (cleanS g f) n.toNat (checkS (cleanS g f) n.toNat s)).1 (runC g (cleanS g f) n.toNat (checkS (cleanS g f) n.toNat s)).2.1
  else checkS (cleanS g f) n.toNat s
theorem distinct_nodup (r:List Int):distinct r=true↔r.Nodup:=by
 unfold distinct;rw [List.all_eq_true,List.nodup_iff_pairwise_ne,List.pairwise_iff_getElem];constructor
 ·intro h i j hi hj hij e;have:=h j (List.mem_range.2 hj);rw [decide_eq_true_eq,List.getD_eq_getElem?_getD,List.getElem?_eq_getElem hj] at this;refine this ?_;rw [List.mem_take_iff_getElem];exact ⟨i,by omega,e⟩
 ·intro h k hk;have hk:=List.mem_range.1 hk;rw [decide_eq_true_eq,List.getD_eq_getElem?_getD,List.getElem?_eq_getElem hk];intro hm;rw [List.mem_take_iff_getElem] at hm;obtain ⟨i,hi,e⟩:=hm;exact h i k (by omega) hk (by omega) e
theorem once_nodup {l:List Int} (x:Int) (h:l.Nodup):(once l x).Nodup:=by
 unfold once;split
 ·exact h
 ·rename_i hx
  rw [List.nodup_append];refine ⟨h,by simp,fun a ha b hb=>?_⟩;simp only [List.mem_singleton] at hb;subst hb;exact fun e=>hx (e ▸ ha)
theorem foldl_once_nodup (l out:List Int) (h:out.Nodup):(l.foldl once out).Nodup:=by
 induction l generalizing out with
 | nil=>exact h
 | cons x l ih=>rw [List.foldl_cons];exact ih _ (once_nodup x h)
theorem firstOnly_nodup (l:List Int):(firstOnly l).Nodup:=foldl_once_nodup l [] List.nodup_nil
structure ColOk (g:Graph) (st:Lazy) (i:Nat) (n:Node):Prop where
 cell:n.kind=0→st.cols.getD i 0=0∧st.reads.getD i []=[]
 form:n.kind≠0→(st.cols.getD i 0=2∧(∀ x ∈ st.reads.getD i [],x ∈ mayRead n.f)∧(st.reads.getD i []).Nodup) ∨
  (st.cols.getD i 0=1∧runF n.f st.vals=(st.vals.getD i 0,st.reads.getD i [])) ∨
  (st.cols.getD i 0=0∧runF n.f st.vals=(st.vals.getD i 0,st.reads.getD i [])∧∀ x ∈ st.reads.getD i [],st.cols.getD x.toNat 0=0)
theorem colAt_ok {g:Graph} {st:Lazy} {i:Nat} {n:Node} (hn:g[i]? = some n):colAt g st i=true↔ColOk g st i n:=by
 have hd:=getD_of hn default
 have hr:rightAt g st.vals st.reads i=true↔(n.kind≠0→runF n.f st.vals=(st.vals.getD i 0,st.reads.getD i []))∧(n.kind=0→st.reads.getD i []=[]):=by
  constructor
  ·intro h;exact ⟨fun h0=>rightAt_run hn h0 h,fun h0=>rightAt_cell hn h0 h⟩
  ·rintro ⟨h1,h2⟩;exact rightAt_mk hn h2 h1
 unfold colAt;rw [hd];dsimp only;by_cases h0:n.kind=0
 ·rw [if_pos h0];simp only [Bool.and_eq_true,decide_eq_true_eq,List.isEmpty_iff];exact ⟨fun h=>⟨fun _=>h,fun h1=>absurd h0 h1⟩,fun h=>h.cell h0⟩
 ·rw [if_neg h0];constructor
  ·intro h;refine ⟨fun h1=>absurd h1 h0,fun _=>?_⟩;split at h
   ·rename_i h2
    simp only [Bool.and_eq_true,List.all_eq_true,decide_eq_true_eq] at h;exact .inl ⟨h2,h.1,(distinct_nodup _).1 h.2⟩
   ·split at h
    ·rename_i h1
     exact .inr (.inl ⟨h1,(hr.1 h).1 h0⟩)
    ·split at h
     ·rename_i h1
      simp only [Bool.and_eq_true,List.all_eq_true] at h;exact .inr (.inr ⟨h1,(hr.1 h.1).1 h0,fun x hx=>by have:=h.2 x hx;unfold rd at this;simpa using this⟩)
     ·cases h
  ·intro h;rcases h.form h0 with ⟨h2,hm,hd⟩ | ⟨h1,hR⟩ | ⟨h1,hR,hc⟩
   ·rw [if_pos h2];simp only [Bool.and_eq_true,List.all_eq_true,decide_eq_true_eq];exact ⟨hm,(distinct_nodup _).2 hd⟩
   ·rw [if_neg (by omega),if_pos h1];exact hr.2 ⟨fun _=>hR,fun h=>absurd h h0⟩
   ·rw [if_neg (by omega),if_neg (by omega),if_pos h1];simp only [Bool.and_eq_true,List.all_eq_true];exact ⟨hr.2 ⟨fun _=>hR,fun h=>absurd h h0⟩,fun x hx=>by have:=hc x hx;unfold rd;simpa using this⟩
theorem validL_iff {g:Graph} {st:Lazy}:validL g st=true↔(validG g=true∧st.vals.length=g.length∧st.reads.length=g.length∧st.cols.length=g.length∧inR999 st.vals=true)∧∀ i n,g[i]? = some n→ColOk g st i n:=by
 constructor
 ·intro h;refine ⟨validL_shape h,fun i n hn=>(colAt_ok hn).1 ?_⟩;unfold validL at h;simp only [Bool.and_eq_true,List.all_eq_true,List.mem_range] at h;exact h.2 i (List.getElem?_eq_some_iff.1 hn).1
 ·rintro ⟨⟨h1,h2,h3,h4,h5⟩,h⟩;unfold validL shapeL;simp only [Bool.and_eq_true,decide_eq_true_eq,List.all_eq_true,List.mem_range];exact ⟨⟨⟨⟨⟨h1,h2⟩,h3⟩,h4⟩,h5⟩,fun i hi=>(colAt_ok (List.getElem?_eq_getElem hi)).2 (h i _ (List.getElem?_eq_getElem hi))⟩
theorem run_may {g:Graph} (hG:validG g=true) {i:Nat} {n:Node} (hn:g[i]? = some n) (h0:n.kind≠0) (v:List Int):(∀ x ∈ (runF n.f v).2,x ∈ mayRead n.f)∧(runF n.f v).2.Nodup:=by
 refine ⟨fun x hx=>?_,firstOnly_nodup _⟩;unfold runF at hx;obtain ⟨p,hp,h1,rfl⟩:=reck_mem _ _ _ _ _ ((mem_firstOnly _ _).1 hx);have hi:=(List.getElem?_eq_some_iff.1 hn).1;have hg:=validG_node hG i hi;unfold goodNode at hg;rw [getD_of hn] at hg;dsimp only at hg;rw [if_neg h0] at hg;split at hg
 ·simp only [Bool.and_eq_true] at hg;exact mem_mayRead hg.1 hp h1
 ·cases hg
theorem may_lt {g:Graph} (hG:validG g=true) {i:Nat} {n:Node} (hn:g[i]? = some n) (h0:n.kind≠0) {x:Int} (hx:x ∈ mayRead n.f):0≤x∧x<(i:Int):=by
 have hi:=(List.getElem?_eq_some_iff.1 hn).1;refine ⟨(mayRead_range hx).1,?_⟩;have hg:=validG_node hG i hi;unfold goodNode at hg;rw [getD_of hn] at hg;dsimp only at hg;rw [if_neg h0] at hg;split at hg
 ·simp only [Bool.and_eq_true] at hg;have hgr:=hg.2;unfold goodReads at hgr;rw [getD_of hn,List.all_eq_true] at hgr;have:=hgr x hx;unfold goodRead at this;simp only [Bool.and_eq_true,decide_eq_true_eq] at this;exact this.1
 ·cases hg
theorem ColOk.may {g:Graph} {st:Lazy} {i:Nat} {n:Node} (hG:validG g=true) (hn:g[i]? = some n) (h:ColOk g st i n) (h0:n.kind≠0):(∀ x ∈ st.reads.getD i [],x ∈ mayRead n.f)∧(st.reads.getD i []).Nodup:=by
 rcases h.form h0 with ⟨_,h1,h2⟩ | ⟨_,hR⟩ | ⟨_,hR,_⟩
 ·exact ⟨h1,h2⟩
 ·have:=run_may hG hn h0 st.vals;rw [hR] at this;exact this
 ·have:=run_may hG hn h0 st.vals;rw [hR] at this;exact this
theorem way_clean {g:Graph} {st:Lazy} (h:validL g st=true) {m i:Nat} (w:Way st.reads m i) (hc:st.cols.getD i 0=0):st.cols.getD m 0=0:=by
 have hA:=ahead_of h;obtain ⟨hs,hC⟩:=validL_iff.1 h
 have key:∀ (i:Nat) (x:Int),st.cols.getD i 0=0→x ∈ st.reads.getD i []→st.cols.getD x.toNat 0=0:=by
  intro i x hc hx;have hi:i<g.length:=by have:=mem_getD_lt hx;omega
  have hn:g[i]? = some g[i]:=List.getElem?_eq_getElem hi;have hk:=hC i _ hn;by_cases h0:g[i].kind=0
  ·rw [(hk.cell h0).2] at hx;cases hx
  ·rcases hk.form h0 with ⟨h2,_⟩ | ⟨h2,_⟩ | ⟨_,_,h2⟩
   ·omega
   ·omega
   ·exact h2 x hx
 induction w with
 | one hx=>exact key _ _ hc hx
 | more _ hx ih=>exact ih (key _ _ hc hx)
theorem getD_set {α:Type} (l:List α) (i j:Nat) (x d:α) (h:i<l.length):(l.set i x).getD j d=if j=i then x else l.getD j d:=by
 by_cases e:j=i
 ·subst e;rw [if_pos rfl,List.getD_eq_getElem?_getD,List.getElem?_set_self h];rfl
 ·rw [if_neg e,List.getD_eq_getElem?_getD,List.getElem?_set_ne (fun h=>e h.symm),← List.getD_eq_getElem?_getD]
open Classical in
theorem spoilC_getD (r:List (List Int)) (c:List Int) (n i:Nat) (hi:i<c.length):(spoilC r c n).getD i 0=if Way r n i then (if (n:Int) ∈ r.getD i [] then 2 else if c.getD i 0=0 then 1 else c.getD i 0) else c.getD i 0:=by
 have e:c.getD i 0=c[i]:=by rw [List.getD_eq_getElem?_getD,List.getElem?_eq_getElem hi];rfl
 rw [e,List.getD_eq_getElem?_getD,spoilC,spoilTo_at,List.getElem?_eq_getElem hi];simp [hi]
theorem way_set {r:List (List Int)} {n i:Nat} {l:List Int} (hA:Ahead (r.set n l)) (hB:Ahead r):Way (r.set n l) n i↔Way r n i:=by
 have e:∀ j,n<j→(r.set n l).getD j []=r.getD j []:=fun j hj=>by
  rw [List.getD_eq_getElem?_getD,List.getElem?_set_ne (by omega),← List.getD_eq_getElem?_getD]
 constructor
 ·intro h;induction h with
  | one hx=>rw [e _ (by have:=(hA _ _ hx).2;omega)] at hx;exact .one hx
  | more w hx ih=>rw [e _ (by have:=w.lt hA;have:=(hA _ _ hx).2;omega)] at hx;exact .more ih hx
 ·intro h;induction h with
  | one hx=>rw [← e _ (by have:=(hB _ _ hx).2;omega)] at hx;exact .one hx
  | more w hx ih=>rw [← e _ (by have:=w.lt hB;have:=(hB _ _ hx).2;omega)] at hx;exact .more ih hx
structure Cleaned (g:Graph) (N:Nat→Prop) (s s':LR):Prop where
 ok:validL g s'.st=true
 keep:∀ j,j<g.length→colOf s j=0→colOf s' j=0∧valOf s' j=valOf s j∧rdsOf s' j=rdsOf s j
 stay:∀ j,j<g.length→colOf s' j≠0→valOf s' j=valOf s j∧rdsOf s' j=rdsOf s j
 two:∀ j,j<g.length→colOf s j=2→colOf s' j=2∨colOf s' j=0
 fin:∀ j,j<g.length→colOf s j≠0→colOf s' j=0→N j
 dirt:∀ j,j<g.length→colOf s' j=2→colOf s j=2∨∃ y ∈ rdsOf s j,valOf s' y.toNat≠valOf s y.toNat
 ran:∃ l:List Int,s'.ran=s.ran++l∧l.Nodup∧∀ x ∈ l,∃ j:Nat,x=j∧j<g.length∧N j∧colOf s j≠0∧colOf s' j=0∧(colOf s j=2∨∃ y ∈ rdsOf s j,valOf s' y.toNat≠valOf s y.toNat)
theorem Cleaned.refl {g:Graph} {N:Nat→Prop} {s:LR} (h:validL g s.st=true):Cleaned g N s s :=
 ⟨h,fun _ _ h=>⟨h,rfl,rfl⟩,fun _ _ _=>⟨rfl,rfl⟩,fun _ _ h=>.inl h,fun _ _ h k=>absurd k h,fun _ _ h=>.inl h,[],by simp,List.nodup_nil,by simp⟩
theorem Cleaned.mono {g:Graph} {N N':Nat→Prop} {s s':LR} (h:Cleaned g N s s') (hN:∀ j,N j→N' j):Cleaned g N' s s' :=
 ⟨h.ok,h.keep,h.stay,h.two,fun j hj a b=>hN _ (h.fin j hj a b),h.dirt,by
  obtain ⟨l,h1,h2,h3⟩:=h.ran;exact ⟨l,h1,h2,fun x hx=>by obtain ⟨j,e,a,b,c⟩:=h3 x hx;exact ⟨j,e,a,hN _ b,c⟩⟩⟩
theorem rds_lt {g:Graph} {s:LR} (h:validL g s.st=true) {j:Nat} {y:Int} (hy:y ∈ rdsOf s j):y.toNat<g.length∧0≤y∧y<(j:Int):=by
 have hA:=ahead_of h j y hy;have hs:=validL_shape h;have:=mem_getD_lt hy;omega
theorem Cleaned.trans {g:Graph} {N:Nat→Prop} {s t u:LR} (hs:validL g s.st=true) (h:Cleaned g N s t) (k:Cleaned g N t u):Cleaned g N s u:=by
 have held:∀ y,y<g.length→valOf t y≠valOf s y→valOf u y≠valOf s y:=by
  intro y hy hne;have hc:colOf t y=0:=Decidable.byContradiction fun hc=>hne (h.stay y hy hc).1;rw [(k.keep y hy hc).2.1];exact hne
 have later:∀ y,y<g.length→valOf u y≠valOf t y→valOf u y≠valOf s y:=by
  intro y hy hne;have hc:colOf t y≠0:=fun hc=>hne (k.keep y hy hc).2.1;rw [← (h.stay y hy hc).1];exact hne
 have why:∀ j,j<g.length→colOf t j≠0→(colOf t j=2∨∃ y ∈ rdsOf t j,valOf u y.toNat≠valOf t y.toNat)→colOf s j=2∨∃ y ∈ rdsOf s j,valOf u y.toNat≠valOf s y.toNat:=by
  intro j hj hc hw;rcases hw with h2 | ⟨y,hy,hne⟩
  ·rcases h.dirt j hj h2 with h3 | ⟨y,hy,hne⟩
   ·exact .inl h3
   ·exact .inr ⟨y,hy,held _ (rds_lt hs hy).1 hne⟩
  ·rw [(h.stay j hj hc).2] at hy;exact .inr ⟨y,hy,later _ (rds_lt hs hy).1 hne⟩
 refine ⟨k.ok,fun j hj hc=>?_,fun j hj hc=>?_,fun j hj h2=>?_,fun j hj h1 h2=>?_,fun j hj h2=>?_,?_⟩
 ·obtain ⟨a1,a2,a3⟩:=h.keep j hj hc;obtain ⟨b1,b2,b3⟩:=k.keep j hj a1;exact ⟨b1,b2.trans a2,b3.trans a3⟩
 ·have hct:colOf t j≠0:=fun e=>hc (k.keep j hj e).1;obtain ⟨a1,a2⟩:=h.stay j hj hct;obtain ⟨b1,b2⟩:=k.stay j hj hc;exact ⟨b1.trans a1,b2.trans a2⟩
 ·rcases h.two j hj h2 with h3 | h3
  ·exact k.two j hj h3
  ·exact .inr (k.keep j hj h3).1
 ·by_cases hc:colOf t j=0
  ·exact h.fin j hj h1 hc
  ·exact k.fin j hj hc h2
 ·rcases k.dirt j hj h2 with h3 | h3
  ·exact why j hj (by omega) (.inl h3)
  ·have hct:colOf t j≠0:=fun e=>by have:=(k.keep j hj e).1;omega
   exact why j hj hct (.inr h3)
 ·obtain ⟨l1,e1,n1,f1⟩:=h.ran;obtain ⟨l2,e2,n2,f2⟩:=k.ran;refine ⟨l1++l2,by rw [e2,e1,List.append_assoc],?_,fun x hx=>?_⟩
  ·rw [List.nodup_append];refine ⟨n1,n2,fun a ha b hb e=>?_⟩;subst e;obtain ⟨j,hj,hjl,_,_,hc,_⟩:=f1 a ha;obtain ⟨j',hj',_,_,hc',_⟩:=f2 a hb;have:j=j':=by omega
   subst this;exact hc' hc
  ·rcases List.mem_append.1 hx with hx | hx
   ·obtain ⟨j,e,hj,hN,hc,hc',hw⟩:=f1 x hx;refine ⟨j,e,hj,hN,hc,(k.keep j hj hc').1,hw.imp id ?_⟩;rintro ⟨y,hy,hne⟩;exact ⟨y,hy,held _ (rds_lt hs hy).1 hne⟩
   ·obtain ⟨j,e,hj,hN,hc,hc',hw⟩:=f2 x hx;exact ⟨j,e,hj,hN,fun e0=>hc (h.keep j hj e0).1,hc',why j hj hc hw⟩
inductive Need (g:Graph) (n:Nat):Nat→Prop
 | self:Need g n n
 | more {m k:Nat}:Need g n m→(k:Int) ∈ mayRead (g.getD m default).f→Need g n k
theorem Need.trans {g:Graph} {a b c:Nat} (h:Need g a b) (k:Need g b c):Need g a c:=by
 induction k with
 | self=>exact h
 | more _ hx ih=>exact .more ih hx
theorem may_cell {g:Graph} (hG:validG g=true) {i:Nat} {x:Int} (hi:i<g.length) (hx:x ∈ mayRead (g.getD i default).f):0≤x∧x<(i:Int):=by
 have hn:g[i]? = some g[i]:=List.getElem?_eq_getElem hi;rw [getD_of hn] at hx;by_cases h0:g[i].kind=0
 ·have hg:=validG_node hG i hi;unfold goodNode at hg;rw [getD_of hn] at hg;dsimp only at hg;rw [if_pos h0] at hg;have hf:g[i].f=[]:=by simpa using hg
  rw [hf] at hx;simp [mayRead,hasRead] at hx
 ·exact may_lt hG hn h0 hx
theorem Need.le {g:Graph} (hG:validG g=true) {n i:Nat} (hn:n<g.length) (h:Need g n i):i≤n:=by
 induction h with
 | self=>exact Nat.le_refl _
 | @more m k h hx ih=>have:=may_cell hG (by omega:m<g.length) hx;omega
theorem cleaned_col {g:Graph} {s:LR} {n:Nat} {nd:Node} (h:validL g s.st=true) (hn:g[n]? = some nd) (h1:colOf s n=1) (hr:∀ x ∈ rdsOf s n,colOf s x.toNat=0):Cleaned g (fun j=>j=n) s (setCol s n 0):=by
 obtain ⟨hs,hC⟩:=validL_iff.1 h;have hil:=(List.getElem?_eq_some_iff.1 hn).1;have hcl:n<s.st.cols.length:=by omega
 have hcol:∀ j,(s.st.cols.set n 0).getD j 0=if j=n then 0 else s.st.cols.getD j 0:=fun j=>getD_set _ _ _ _ _ hcl
 have hc0:∀ j,s.st.cols.getD j 0=0→(s.st.cols.set n 0).getD j 0=0:=fun j e=>by rw [hcol];split;rfl;exact e
 unfold colOf at h1 hr;unfold rdsOf at hr;refine ⟨validL_iff.2 ⟨⟨hs.1,hs.2.1,hs.2.2.1,by simp [setCol,hs.2.2.2.1],hs.2.2.2.2⟩,fun i m hm=>?_⟩,fun j hj hc=>⟨hc0 j hc,rfl,rfl⟩,fun j hj hc=>⟨rfl,rfl⟩,fun j hj h2=>?_,fun j hj h2 h3=>?_,fun j hj h2=>.inl ?_,[],by simp [setCol],List.nodup_nil,by simp⟩
 ·have hk:=hC i m hm;refine ⟨fun h0=>⟨hc0 _ (hk.cell h0).1,(hk.cell h0).2⟩,fun h0=>?_⟩;show ((s.st.cols.set n 0).getD i 0=2∧_)∨((s.st.cols.set n 0).getD i 0=1∧_)∨((s.st.cols.set n 0).getD i 0=0∧runF m.f s.st.vals=(s.st.vals.getD i 0,s.st.reads.getD i [])∧∀ x ∈ s.st.reads.getD i [],(s.st.cols.set n 0).getD x.toNat 0=0);by_cases e:i=n
  ·subst e;rw [hn] at hm;injection hm with hm;subst hm;rcases hk.form h0 with ⟨h2,_⟩ | ⟨_,hR⟩ | ⟨h2,_⟩
   ·omega
   ·exact .inr (.inr ⟨by rw [hcol,if_pos rfl],hR,fun x hx=>hc0 _ (hr x hx)⟩)
   ·omega
  ·rw [hcol,if_neg e];rcases hk.form h0 with h2 | h2 | ⟨h2,hR,hx⟩
   ·exact .inl h2
   ·exact .inr (.inl h2)
   ·exact .inr (.inr ⟨h2,hR,fun x hx'=>hc0 _ (hx x hx')⟩)
 ·show (s.st.cols.set n 0).getD j 0=2∨(s.st.cols.set n 0).getD j 0=0;rw [hcol];split
  ·exact .inr rfl
  ·exact .inl h2
 ·have h4:(s.st.cols.set n 0).getD j 0=0:=h3;rw [hcol] at h4;split at h4
  ·assumption
  ·exact absurd h4 h2
 ·have h4:(s.st.cols.set n 0).getD j 0=2:=h2;rw [hcol] at h4;split at h4
  ·omega
  ·exact h4
theorem cleaned_run {g:Graph} {s:LR} {n:Nat} {nd:Node} (h:validL g s.st=true) (hn:g[n]? = some nd) (h2:colOf s n=2) (hr:∀ x ∈ (runF nd.f s.st.vals).2,colOf s x.toNat=0) :
  Cleaned g (fun j=>j=n) s (finishL s n (runF nd.f s.st.vals).1 (runF nd.f s.st.vals).2)∧colOf (finishL s n (runF nd.f s.st.vals).1 (runF nd.f s.st.vals).2) n=0:=by
 obtain ⟨hs,hC⟩:=validL_iff.1 h;have hA:=ahead_of h;have hil:=(List.getElem?_eq_some_iff.1 hn).1;have hk0:nd.kind≠0:=fun h0=>by have:=((hC n nd hn).cell h0).1;unfold colOf at h2;omega
 have hok:=validG_fok hs.1 n hn hk0;have hmay:=run_may hs.1 hn hk0 s.st.vals;have hx0:=runF_range hok (inR999_range hs.2.2.2.2);unfold colOf at h2 hr;generalize hX:(runF nd.f s.st.vals).1=x at *;generalize hL:(runF nd.f s.st.vals).2=l at *;have hrun:runF nd.f s.st.vals=(x,l):=Prod.ext hX hL;have hlt:∀ y ∈ l,0≤y∧y<(n:Int):=fun y hy=>may_lt hs.1 hn hk0 (hmay.1 y hy);have hrl:n<s.st.reads.length:=by omega
 have hcl:n<s.st.cols.length:=by omega
 have hvl:n<s.st.vals.length:=by omega
 have hcol:∀ j,(s.st.cols.set n 0).getD j 0=if j=n then 0 else s.st.cols.getD j 0:=fun j=>getD_set _ _ _ _ _ hcl
 have hrd:∀ j,(s.st.reads.set n l).getD j []=if j=n then l else s.st.reads.getD j []:=fun j=>getD_set _ _ _ _ _ hrl
 have hA':Ahead (s.st.reads.set n l):=by
  intro k y hy;rw [hrd] at hy;split at hy
  ·rename_i e;subst e;exact hlt y hy
  ·exact hA k y hy
 have hself:¬ Way (s.st.reads.set n l) n n:=fun w=>by have:=w.lt hA';omega
 by_cases hxv:x=valOf s n
 ·have hst:finishL s n x l=⟨⟨s.st.vals,s.st.reads.set n l,s.st.cols.set n 0⟩,s.ran++[(n:Int)]⟩:=by unfold finishL;rw [if_pos hxv]
  rw [hst];have hc0:∀ j,s.st.cols.getD j 0=0→(s.st.cols.set n 0).getD j 0=0:=fun j e=>by rw [hcol];split;rfl;exact e
  refine ⟨⟨validL_iff.2 ⟨⟨hs.1,hs.2.1,by simp [hs.2.2.1],by simp [hs.2.2.2.1],hs.2.2.2.2⟩,fun i m hm=>?_⟩,fun j hj hc=>?_,fun j hj hc=>?_,fun j hj h3=>?_,fun j hj h3 h4=>?_,fun j hj h3=>.inl ?_,[(n:Int)],rfl,by simp,fun y hy=>?_⟩,?_⟩
  ·have hk:=hC i m hm;refine ⟨fun h0=>⟨hc0 _ (hk.cell h0).1,?_⟩,fun h0=>?_⟩
   ·show (s.st.reads.set n l).getD i []=[];rw [hrd,if_neg (fun e=>by subst e;rw [hn] at hm;injection hm with hm;subst hm;exact hk0 h0)];exact (hk.cell h0).2
   ·show ((s.st.cols.set n 0).getD i 0=2∧(∀ x ∈ (s.st.reads.set n l).getD i [],x ∈ mayRead m.f)∧((s.st.reads.set n l).getD i []).Nodup)∨((s.st.cols.set n 0).getD i 0=1∧runF m.f s.st.vals=(s.st.vals.getD i 0,(s.st.reads.set n l).getD i [])) ∨
     ((s.st.cols.set n 0).getD i 0=0∧runF m.f s.st.vals=(s.st.vals.getD i 0,(s.st.reads.set n l).getD i [])∧∀ x ∈ (s.st.reads.set n l).getD i [],(s.st.cols.set n 0).getD x.toNat 0=0)
    rw [hcol,hrd];by_cases e:i=n
    ·subst e;rw [hn] at hm;injection hm with hm;subst hm;rw [if_pos rfl,if_pos rfl];exact .inr (.inr ⟨rfl,by rw [hrun,hxv];rfl,fun y hy=>hc0 _ (hr y hy)⟩)
    ·rw [if_neg e,if_neg e];rcases hk.form h0 with h3 | h3 | ⟨h3,hR,hx⟩
     ·exact .inl h3
     ·exact .inr (.inl h3)
     ·exact .inr (.inr ⟨h3,hR,fun y hy=>hc0 _ (hx y hy)⟩)
  ·unfold colOf at hc;have e:j≠n:=fun e=>by subst e;omega
   exact ⟨hc0 j hc,rfl,by show (s.st.reads.set n l).getD j []=s.st.reads.getD j [];rw [hrd,if_neg e]⟩
  ·have e:j≠n:=fun e=>by subst e;exact hc (by show (s.st.cols.set j 0).getD j 0=0;rw [hcol,if_pos rfl])
   exact ⟨rfl,by show (s.st.reads.set n l).getD j []=s.st.reads.getD j [];rw [hrd,if_neg e]⟩
  ·show (s.st.cols.set n 0).getD j 0=2∨(s.st.cols.set n 0).getD j 0=0;rw [hcol];split
   ·exact .inr rfl
   ·exact .inl h3
  ·have h5:(s.st.cols.set n 0).getD j 0=0:=h4;rw [hcol] at h5;split at h5
   ·assumption
   ·exact absurd h5 h3
  ·have h5:(s.st.cols.set n 0).getD j 0=2:=h3;rw [hcol] at h5;split at h5
   ·omega
   ·exact h5
  ·simp only [List.mem_singleton] at hy;subst hy;refine ⟨n,rfl,hil,rfl,by unfold colOf;omega,?_,.inl h2⟩;show (s.st.cols.set n 0).getD n 0=0;rw [hcol,if_pos rfl]
  ·show (s.st.cols.set n 0).getD n 0=0;rw [hcol,if_pos rfl]
 ·have hst:finishL s n x l=⟨⟨s.st.vals.set n x,s.st.reads.set n l,spoilC (s.st.reads.set n l) (s.st.cols.set n 0) n⟩,s.ran++[(n:Int)]⟩:=by unfold finishL;rw [if_neg hxv]
  rw [hst];have hval:∀ j,(s.st.vals.set n x).getD j 0=if j=n then x else s.st.vals.getD j 0:=fun j=>getD_set _ _ _ _ _ hvl
  have hsp:∀ j,j<g.length→(spoilC (s.st.reads.set n l) (s.st.cols.set n 0) n).getD j 0=open Classical in if Way s.st.reads n j then (if (n:Int) ∈ s.st.reads.getD j [] then 2 else if s.st.cols.getD j 0=0 then 1 else s.st.cols.getD j 0) else if j=n then 0 else s.st.cols.getD j 0:=by
   intro j hj;rw [spoilC_getD _ _ _ _ (by simp;omega)];have hw:=way_set (n:=n) (i:=j) hA' hA;by_cases w:Way s.st.reads n j
   ·have e:j≠n:=fun e=>by have:=w.lt hA;omega
    rw [if_pos (hw.2 w),if_pos w,hrd,if_neg e,hcol,if_neg e]
   ·rw [if_neg (fun h=>w (hw.1 h)),if_neg w,hcol]
  have hnn:¬ Way s.st.reads n n:=fun w=>by have:=w.lt hA;omega
  have hclean:∀ j,s.st.cols.getD j 0=0→¬ Way s.st.reads n j:=fun j hc w=>by have:=way_clean h w hc;omega
  have hkeepV:∀ (m:Node) (i:Nat),g[i]? = some m→m.kind≠0→(n:Int) ∉ (runF m.f s.st.vals).2→runF m.f (s.st.vals.set n x)=runF m.f s.st.vals:=by
   intro m i hm h0 hni;symm
   refine runF_same fun y hy=>?_;have hy2:=may_lt hs.1 hm h0 ((run_may hs.1 hm h0 s.st.vals).1 y hy);unfold rd;rw [hval,if_neg (fun e=>hni (by rw [← e,Int.toNat_of_nonneg hy2.1];exact hy))]
  refine ⟨⟨validL_iff.2 ⟨⟨hs.1,by simp [hs.2.1],by simp [hs.2.2.1],by simp [hs.2.2.2.1],?_⟩,fun i m hm=>?_⟩,fun j hj hc=>?_,fun j hj hc=>?_,fun j hj h3=>?_,fun j hj h3 h4=>?_,fun j hj h3=>?_,[(n:Int)],rfl,by simp,fun y hy=>?_⟩,?_⟩
  ·refine inR999_of fun y hy=>?_;rcases List.mem_or_eq_of_mem_set hy with hy | rfl
   ·exact inR999_range hs.2.2.2.2 y hy
   ·exact hx0
  ·have hk:=hC i m hm;have hig:=(List.getElem?_eq_some_iff.1 hm).1;refine ⟨fun h0=>?_,fun h0=>?_⟩
   ·have e:i≠n:=fun e=>by subst e;rw [hn] at hm;injection hm with hm;subst hm;exact hk0 h0
    have hc:=hk.cell h0;refine ⟨?_,?_⟩
    ·show (spoilC (s.st.reads.set n l) (s.st.cols.set n 0) n).getD i 0=0;rw [hsp i hig,if_neg (hclean i hc.1),if_neg e];exact hc.1
    ·show (s.st.reads.set n l).getD i []=[];rw [hrd,if_neg e];exact hc.2
   ·show ((spoilC (s.st.reads.set n l) (s.st.cols.set n 0) n).getD i 0=2∧(∀ x ∈ (s.st.reads.set n l).getD i [],x ∈ mayRead m.f)∧((s.st.reads.set n l).getD i []).Nodup) ∨
     ((spoilC (s.st.reads.set n l) (s.st.cols.set n 0) n).getD i 0=1∧runF m.f (s.st.vals.set n x)=((s.st.vals.set n x).getD i 0,(s.st.reads.set n l).getD i [])) ∨
     ((spoilC (s.st.reads.set n l) (s.st.cols.set n 0) n).getD i 0=0∧runF m.f (s.st.vals.set n x)=((s.st.vals.set n x).getD i 0,(s.st.reads.set n l).getD i [])∧∀ y ∈ (s.st.reads.set n l).getD i [],(spoilC (s.st.reads.set n l) (s.st.cols.set n 0) n).getD y.toNat 0=0)
    rw [hsp i hig,hrd,hval];by_cases e:i=n
    ·subst e;rw [hn] at hm;injection hm with hm;subst hm;rw [if_neg hnn,if_pos rfl,if_pos rfl,if_pos rfl];refine .inr (.inr ⟨rfl,?_,fun y hy=>?_⟩)
     ·rw [runF_congr hok (b:=s.st.vals) (fun j hj=>by rw [hval,if_neg (by omega)]),hrun]
     ·have hy2:=hlt y hy;have hyg:y.toNat<g.length:=by omega
      rw [hsp _ hyg,if_neg (fun w=>by have:=w.lt hA;omega),if_neg (by omega)];exact hr y hy
    ·simp only [if_neg e];by_cases hin:(n:Int) ∈ s.st.reads.getD i []
     ·rw [if_pos (.one hin),if_pos hin];exact .inl ⟨rfl,hk.may hs.1 hm h0⟩
     ·have hR2:runF m.f s.st.vals=(s.st.vals.getD i 0,s.st.reads.getD i [])→runF m.f (s.st.vals.set n x)=(s.st.vals.getD i 0,s.st.reads.getD i []):=fun hR=>by
       rw [hkeepV m i hm h0 (by rw [hR];exact hin),hR]
      by_cases w:Way s.st.reads n i
      ·rw [if_pos w,if_neg hin];rcases hk.form h0 with ⟨h3,h4⟩ | ⟨h3,hR⟩ | ⟨h3,hR,_⟩
       ·rw [if_neg (by omega)];exact .inl ⟨h3,h4⟩
       ·rw [if_neg (by omega)];exact .inr (.inl ⟨h3,hR2 hR⟩)
       ·rw [if_pos h3];exact .inr (.inl ⟨rfl,hR2 hR⟩)
      ·rw [if_neg w];rcases hk.form h0 with h3 | ⟨h3,hR⟩ | ⟨h3,hR,hx⟩
       ·exact .inl h3
       ·exact .inr (.inl ⟨h3,hR2 hR⟩)
       ·refine .inr (.inr ⟨h3,hR2 hR,fun y hy=>?_⟩);have hy2:=hA i y hy;have hyn:y.toNat≠n:=fun e2=>hin (by rw [← e2,Int.toNat_of_nonneg hy2.1];exact hy);rw [hsp _ (by omega),if_neg (fun w2=>w (.more w2 (by rw [Int.toNat_of_nonneg hy2.1];exact hy))),if_neg hyn];exact hx y hy
  ·unfold colOf at hc;have e:j≠n:=fun e=>by subst e;omega
   refine ⟨?_,?_,?_⟩
   ·show (spoilC (s.st.reads.set n l) (s.st.cols.set n 0) n).getD j 0=0;rw [hsp j hj,if_neg (hclean j hc),if_neg e];exact hc
   ·show (s.st.vals.set n x).getD j 0=s.st.vals.getD j 0;rw [hval,if_neg e]
   ·show (s.st.reads.set n l).getD j []=s.st.reads.getD j [];rw [hrd,if_neg e]
  ·have e:j≠n:=fun e=>by
    subst e;refine hc ?_;show (spoilC (s.st.reads.set j l) (s.st.cols.set j 0) j).getD j 0=0;rw [hsp j hj,if_neg hnn,if_pos rfl]
   refine ⟨?_,?_⟩
   ·show (s.st.vals.set n x).getD j 0=s.st.vals.getD j 0;rw [hval,if_neg e]
   ·show (s.st.reads.set n l).getD j []=s.st.reads.getD j [];rw [hrd,if_neg e]
  ·unfold colOf at h3;show (spoilC (s.st.reads.set n l) (s.st.cols.set n 0) n).getD j 0=2∨(spoilC (s.st.reads.set n l) (s.st.cols.set n 0) n).getD j 0=0;rw [hsp j hj];by_cases w:Way s.st.reads n j
   ·rw [if_pos w];split
    ·exact .inl rfl
    ·rw [if_neg (by omega)];exact .inl h3
   ·rw [if_neg w];split
    ·exact .inr rfl
    ·exact .inl h3
  ·have h5:(spoilC (s.st.reads.set n l) (s.st.cols.set n 0) n).getD j 0=0:=h4;rw [hsp j hj] at h5;unfold colOf at h3;by_cases w:Way s.st.reads n j
   ·rw [if_pos w] at h5;split at h5
    ·omega
    ·exact absurd h5 h3
   ·rw [if_neg w] at h5;split at h5
    ·assumption
    ·exact absurd h5 h3
  ·have h5:(spoilC (s.st.reads.set n l) (s.st.cols.set n 0) n).getD j 0=2:=h3;rw [hsp j hj] at h5;by_cases w:Way s.st.reads n j
   ·rw [if_pos w] at h5;split at h5
    ·rename_i hin
     refine .inr ⟨(n:Int),hin,?_⟩;show (s.st.vals.set n x).getD (n:Int).toNat 0≠s.st.vals.getD (n:Int).toNat 0;rw [Int.toNat_natCast,hval,if_pos rfl];exact hxv
    ·split at h5
     ·omega
     ·exact .inl h5
   ·rw [if_neg w] at h5;split at h5
    ·omega
    ·exact .inl h5
  ·simp only [List.mem_singleton] at hy;subst hy;refine ⟨n,rfl,hil,rfl,by unfold colOf;omega,?_,.inl h2⟩;show (spoilC (s.st.reads.set n l) (s.st.cols.set n 0) n).getD n 0=0;rw [hsp n hil,if_neg hnn,if_pos rfl]
  ·show (spoilC (s.st.reads.set n l) (s.st.cols.set n 0) n).getD n 0=0;rw [hsp n hil,if_neg hnn,if_pos rfl]
end Sg
namespace Sg
def Cleans (g:Graph) (c:Int→LR→LR) (b:Nat):Prop:=∀ (k:Nat) (s:LR),k<b→k<g.length→validL g s.st=true→Cleaned g (Need g k) s (c k s)∧colOf (c k s) k=0
theorem loopS_skip (c:Int→LR→LR) (n:Nat) (l:List Int) (s:LR) (h:colOf s n≠1):loopS c n l s=s:=by
 unfold loopS;induction l with
 | nil=>rfl
 | cons k l ih=>rw [List.foldl_cons,if_neg h];exact ih
theorem loopS_cons (c:Int→LR→LR) (n:Nat) (k:Int) (l:List Int) (s:LR) (h:colOf s n=1):loopS c n (k :: l) s=loopS c n l (c k s):=by
 unfold loopS;rw [List.foldl_cons,if_pos h]
theorem loopS_cleaned {g:Graph} {c:Int→LR→LR} {n:Nat} (hn:n<g.length) (hc:Cleans g c n) (l:List Int) (hl:∀ x ∈ l,0≤x∧x<(n:Int)) (s:LR) (hs:validL g s.st=true) (N:Nat→Prop) (hN:∀ (k j:Nat),(k:Int) ∈ l→Need g k j→N j) :
  Cleaned g N s (loopS c n l s)∧(colOf (loopS c n l s) n=1→∀ x ∈ l,colOf (loopS c n l s) x.toNat=0):=by
 induction l generalizing s with
 | nil=>exact ⟨Cleaned.refl hs,by simp⟩
 | cons x l ih =>
  by_cases h1:colOf s n=1
  ·rw [loopS_cons c n x l s h1];have hx:=hl x (by simp);obtain ⟨k,rfl⟩:=Int.eq_ofNat_of_zero_le hx.1;obtain ⟨a1,a2⟩:=hc k s (by omega) (by omega) hs;have a3:=a1.mono (fun j hj=>hN k j (by simp) hj);obtain ⟨b1,b2⟩:=ih (fun y hy=>hl y (by simp [hy])) (c k s) a1.ok (fun k' j hk hj=>hN k' j (by simp [hk]) hj);refine ⟨Cleaned.trans hs a3 b1,fun e y hy=>?_⟩;rcases List.mem_cons.1 hy with rfl | hy
   ·rw [Int.toNat_natCast];exact (b1.keep k (by omega) a2).1
   ·exact b2 e y hy
  ·rw [loopS_skip c n _ s h1];exact ⟨Cleaned.refl hs,fun e=>absurd e h1⟩
theorem checkS_cleaned {g:Graph} {c:Int→LR→LR} {n:Nat} {nd:Node} (hn:g[n]? = some nd) (hc:Cleans g c n) (s:LR) (hs:validL g s.st=true) :
  Cleaned g (Need g n) s (checkS c n s)∧(colOf (checkS c n s) n=0∨colOf (checkS c n s) n=2):=by
 have hil:=(List.getElem?_eq_some_iff.1 hn).1;obtain ⟨hsh,hC⟩:=validL_iff.1 hs
 have hrange:∀ t:LR,validL g t.st=true→colOf t n=0∨colOf t n=1∨colOf t n=2:=by
  intro t ht;have hk:=(validL_iff.1 ht).2 n nd hn;by_cases h0:nd.kind=0
  ·exact .inl (hk.cell h0).1
  ·rcases hk.form h0 with h | h | h
   ·exact .inr (.inr h.1)
   ·exact .inr (.inl h.1)
   ·exact .inl h.1
 unfold checkS;by_cases h1:colOf s n=1
 ·rw [if_pos h1];have hk:=hC n nd hn;have hk0:nd.kind≠0:=fun h0=>by have:=(hk.cell h0).1;unfold colOf at h1;omega
  have hmay:=hk.may hsh.1 hn hk0;have hd:=getD_of hn default;obtain ⟨a1,a2⟩:=loopS_cleaned hil hc (rdsOf s n) (fun x hx=>ahead_of hs n x hx) s hs (Need g n) (fun k j hk hj=>(Need.more .self (by rw [hd];exact hmay.1 _ hk)).trans hj);generalize ht:loopS c n (rdsOf s n) s=t at *;by_cases h2:colOf t n=1
  ·rw [if_pos h2];have hsame:=(a1.stay n hil (by omega)).2;have b:=cleaned_col a1.ok hn h2 (fun x hx=>a2 h2 x (by rw [← hsame];exact hx));refine ⟨Cleaned.trans hs a1 (b.mono (fun j e=>by subst e;exact .self)),.inl ?_⟩;have hcl:=(validL_shape a1.ok).2.2.2.1;show (t.st.cols.set n 0).getD n 0=0;rw [getD_set _ _ _ _ _ (by omega),if_pos rfl]
  ·rw [if_neg h2];refine ⟨a1,?_⟩;rcases hrange t a1.ok with h | h | h
   ·exact .inl h
   ·exact absurd h h2
   ·exact .inr h
 ·rw [if_neg h1];refine ⟨Cleaned.refl hs,?_⟩;rcases hrange s hs with h | h | h
  ·exact .inl h
  ·exact absurd h h1
  ·exact .inr h
theorem evalM_cleaned {g:Graph} {c:Int→LR→LR} {n:Nat} (hn:n<g.length) (hc:Cleans g c n) (N:Nat→Prop) {f:List Part} (hf:∀ p ∈ f,p.kind=1→(0≤p.n∧p.n<(n:Int))∧∀ j,Need g p.n.toNat j→N j) :
  ∀ (m:Nat) (i:Int) (l:List Int) (s:LR),validL g s.st=true →
   Cleaned g N s (evalM f (fun (t:List Int × LR) k=>valOf (c k t.2) k.toNat) (fun t k=>(once t.1 k,c k t.2)) m i (l,s)).2.2 ∧
   (evalM f (fun (t:List Int × LR) k=>valOf (c k t.2) k.toNat) (fun t k=>(once t.1 k,c k t.2)) m i (l,s)).1=(reck f (evalM f (fun (t:List Int × LR) k=>valOf (c k t.2) k.toNat) (fun t k=>(once t.1 k,c k t.2)) m i (l,s)).2.2.st.vals m i).1 ∧
   (evalM f (fun (t:List Int × LR) k=>valOf (c k t.2) k.toNat) (fun t k=>(once t.1 k,c k t.2)) m i (l,s)).2.1=(reck f (evalM f (fun (t:List Int × LR) k=>valOf (c k t.2) k.toNat) (fun t k=>(once t.1 k,c k t.2)) m i (l,s)).2.2.st.vals m i).2.foldl once l ∧
   ∀ x ∈ (reck f (evalM f (fun (t:List Int × LR) k=>valOf (c k t.2) k.toNat) (fun t k=>(once t.1 k,c k t.2)) m i (l,s)).2.2.st.vals m i).2,colOf (evalM f (fun (t:List Int × LR) k=>valOf (c k t.2) k.toNat) (fun t k=>(once t.1 k,c k t.2)) m i (l,s)).2.2 x.toNat=0:=by
 have hmem:∀ (v:List Int) (m:Nat) (i:Int) (x:Int),x ∈ (reck f v m i).2→0≤x∧x<(n:Int):=fun v m i x hx=>by
  obtain ⟨p,hp,h1,rfl⟩:=reck_mem f v m i x hx;exact (hf p hp h1).1
 have same:∀ (t u:LR) (m:Nat) (i:Int),Cleaned g N t u→(∀ x ∈ (reck f t.st.vals m i).2,colOf t x.toNat=0)→reck f t.st.vals m i=reck f u.st.vals m i:=fun t u m i h hcl=>by
  refine reck_same f _ _ m i fun x hx=>?_;have hx2:=hmem _ _ _ x hx;have:=(h.keep x.toNat (by omega) (hcl x hx)).2.1;unfold valOf at this;unfold rd;exact this.symm
 intro m;induction m with
 | zero=>intro i l s hs;exact ⟨Cleaned.refl hs,by first | rfl | trivial,by first | rfl | trivial,by intro x hx;cases hx⟩
 | succ m ih =>
  intro i l s hs;simp only [evalM,reck];by_cases h0:(f.getD i.toNat default).kind=0
  ·simp only [if_pos h0];exact ⟨Cleaned.refl hs,by first | rfl | trivial,by first | rfl | trivial,by intro x hx;cases hx⟩
  ·simp only [if_neg h0];by_cases h1:(f.getD i.toNat default).kind=1
   ·simp only [if_pos h1];obtain ⟨hr,hN⟩:=hf _ (getD_mem h1) h1;generalize (f.getD i.toNat default).n=x at *;obtain ⟨k,rfl⟩:=Int.eq_ofNat_of_zero_le hr.1;rw [Int.toNat_natCast] at hN;obtain ⟨a1,a2⟩:=hc k s (by omega) (by omega) hs;refine ⟨a1.mono hN,by first | rfl | trivial,by first | rfl | trivial,fun y hy=>?_⟩;simp only [List.mem_singleton] at hy;subst hy;exact a2
   ·simp only [if_neg h1];obtain ⟨a1,a2,a3,a4⟩:=ih (f.getD i.toNat default).a l s hs;generalize hR:evalM f (fun (t:List Int × LR) k=>valOf (c k t.2) k.toNat) (fun t k=>(once t.1 k,c k t.2)) m (f.getD i.toNat default).a (l,s)=R at *;obtain ⟨x,l1,t⟩:=R;dsimp only at a1 a2 a3 a4 ⊢;by_cases h8:(f.getD i.toNat default).kind=8
    ·simp only [if_pos h8];generalize hJ:(if x=0 then (f.getD i.toNat default).c else (f.getD i.toNat default).b)=j;obtain ⟨b1,b2,b3,b4⟩:=ih j l1 t a1.ok;generalize evalM f (fun (t:List Int × LR) k=>valOf (c k t.2) k.toNat) (fun t k=>(once t.1 k,c k t.2)) m j (l1,t)=U at *;obtain ⟨y,l2,u⟩:=U;dsimp only at b1 b2 b3 b4 ⊢;have e:=same t u m _ b1 a4;rw [← e,← a2,hJ];refine ⟨Cleaned.trans hs a1 b1,b2,?_,fun z hz=>?_⟩
     ·rw [List.foldl_append,← a3];exact b3
     ·rcases List.mem_append.1 hz with hz | hz
      ·have:=hmem _ _ _ z hz;exact (b1.keep z.toNat (by omega) (a4 z hz)).1
      ·exact b4 z hz
    ·simp only [if_neg h8];obtain ⟨b1,b2,b3,b4⟩:=ih (f.getD i.toNat default).b l1 t a1.ok;generalize evalM f (fun (t:List Int × LR) k=>valOf (c k t.2) k.toNat) (fun t k=>(once t.1 k,c k t.2)) m (f.getD i.toNat default).b (l1,t)=U at *;obtain ⟨y,l2,u⟩:=U;dsimp only at b1 b2 b3 b4 ⊢;have e:=same t u m _ b1 a4;rw [← e,← a2,b2];refine ⟨Cleaned.trans hs a1 b1,by first | rfl | trivial,?_,fun z hz=>?_⟩
     ·rw [List.foldl_append,← a3];exact b3
     ·rcases List.mem_append.1 hz with hz | hz
      ·have:=hmem _ _ _ z hz;exact (b1.keep z.toNat (by omega) (a4 z hz)).1
      ·exact b4 z hz
theorem runC_cleaned {g:Graph} {c:Int→LR→LR} {n:Nat} {nd:Node} (hG:validG g=true) (hn:g[n]? = some nd) (h0:nd.kind≠0) (hc:Cleans g c n) (s:LR) (hs:validL g s.st=true) :
  Cleaned g (fun j=>Need g n j∧j<n) s (runC g c n s).2.2∧(runC g c n s).1=(runF nd.f (runC g c n s).2.2.st.vals).1∧(runC g c n s).2.1=(runF nd.f (runC g c n s).2.2.st.vals).2∧∀ x ∈ (runF nd.f (runC g c n s).2.2.st.vals).2,colOf (runC g c n s).2.2 x.toNat=0:=by
 have hil:=(List.getElem?_eq_some_iff.1 hn).1;have hd:=getD_of hn default;have hgn:=validG_node hG n hil
 have hV:validF nd.f=true:=by
  unfold goodNode at hgn;rw [hd] at hgn;dsimp only at hgn;rw [if_neg h0] at hgn;split at hgn
  ·simp only [Bool.and_eq_true] at hgn;exact hgn.1
  ·cases hgn
 have:=evalM_cleaned hil hc (fun j=>Need g n j∧j<n) (f:=nd.f) (fun p hp h1=>by
  have hm:=mem_mayRead hV hp h1;have hr:=may_lt hG hn h0 hm;refine ⟨hr,fun j hj=>⟨(Need.more .self (by rw [hd,Int.toNat_of_nonneg hr.1];exact hm)).trans hj,?_⟩⟩;have:=Need.le hG (by omega) hj;omega) nd.f.length ((nd.f.length:Int) - 1) [] s hs
 unfold runC runM;rw [hd];obtain ⟨a1,a2,a3,a4⟩:=this;exact ⟨a1,a2,a3,fun x hx=>a4 x ((mem_firstOnly _ _).1 hx)⟩
theorem cleanS_cleaned {g:Graph} (hG:validG g=true) (f:Nat):Cleans g (cleanS g f) f:=by
 induction f with
 | zero=>intro k s hk;omega
 | succ f ih =>
  intro k s hk hkg hs;have hn:g[k]? = some g[k]:=List.getElem?_eq_getElem hkg;generalize g[k]=nd at hn;have hc:Cleans g (cleanS g f) k:=fun j t hj hjg ht=>ih j t (by omega) hjg ht;obtain ⟨a1,a2⟩:=checkS_cleaned hn hc s hs;simp only [cleanS,Int.toNat_natCast];generalize ht:checkS (cleanS g f) k s=t at *;by_cases h2:colOf t k=2
  ·rw [if_pos h2];have h0:nd.kind≠0:=fun h0=>by have:=(((validL_iff.1 a1.ok).2 k nd hn).cell h0).1;unfold colOf at h2;omega
   obtain ⟨b1,b2,b3,b4⟩:=runC_cleaned hG hn h0 hc t a1.ok;generalize runC g (cleanS g f) k t=R at *;obtain ⟨x,l,u⟩:=R;dsimp only at b1 b2 b3 b4 ⊢
   have hu2:colOf u k=2:=by
    rcases b1.two k hkg h2 with h | h
    ·exact h
    ·have:=(b1.fin k hkg (by omega) h).2;omega
   obtain ⟨c1,c2⟩:=cleaned_run b1.ok hn hu2 b4;rw [b2,b3];exact ⟨Cleaned.trans hs a1 (Cleaned.trans a1.ok (b1.mono (fun j hj=>hj.1)) (c1.mono (fun j e=>by subst e;exact .self))),c2⟩
  ·rw [if_neg h2];exact ⟨a1,a2.elim id (fun h=>absurd h h2)⟩
theorem Cleaned.ran_len {g:Graph} {N:Nat→Prop} {s s':LR} (h:Cleaned g N s s'):s'.ran.length≤s.ran.length + g.length:=by
 obtain ⟨l,h1,h2,h3⟩:=h.ran;rw [h1,List.length_append]
 have key:∀ (n:Nat) (l:List Int),l.Nodup→(∀ x ∈ l,0≤x∧x<(n:Int))→l.length≤n:=by
  intro n;induction n with
  | zero =>
   intro l _ hb;cases l with
   | nil=>simp
   | cons x l=>have:=hb x (by simp);omega
  | succ n ih =>
   intro l hn hb
   have h1:=ih (l.erase (n:Int)) (hn.erase _) (fun x hx=>by
    have hm:=(hn.mem_erase_iff).1 hx;have:=hb x hm.2;have:x≠(n:Int):=hm.1;omega)
   have:l.length≤(l.erase (n:Int)).length + 1:=by
    rw [List.length_erase];split <;> omega
   omega
 have:=key g.length l h2 (fun x hx=>by obtain ⟨j,rfl,hj,_⟩:=h3 x hx;omega);omega
end Sg
namespace Sg
structure WrIn (g:Graph) (r:List (List Int)):Prop where
 rd:∀ k,k<g.length→∀ x ∈ r.getD k [],0≤x∧x<(k:Int)
 le:∀ l ∈ r,l.length≤4096
theorem WrIn.of {g:Graph} {st:Eager} (h:validE g st=true):WrIn g st.reads:=by
 obtain ⟨hG,hv,hr,hn,hR⟩:=validE_parts h
 have key:∀ k,k<g.length→st.reads.getD k []=depAt g st.vals k:=by
  intro k hk;obtain ⟨n,hi⟩:∃ n,g[k]? = some n:=⟨_,List.getElem?_eq_getElem hk⟩;unfold depAt;rw [getD_of hi];by_cases h0:n.kind=0
  ·rw [if_pos h0,rightAt_cell hi h0 (hR k hk)]
  ·rw [if_neg h0,rightAt_run hi h0 (hR k hk)]
 refine ⟨fun k hk x hx=>?_,fun l hl=>?_⟩
 ·rw [key k hk] at hx;exact depAt_mem hG hk hx
 ·obtain ⟨i,hi⟩:=List.getElem?_of_mem hl;have hil:i<g.length:=by have:=(List.getElem?_eq_some_iff.1 hi).1;omega
  have h1:=key i hil;have h2:st.reads.getD i []=l:=by simp [hi]
  rw [← h2,h1];exact depAt_len hG _ hil
theorem WrIn.put {g:Graph} {r:List (List Int)} (hG:validG g=true) (h:WrIn g r) (v:List Int) {i:Nat} {n:Node} (hn:g[i]? = some n) (h0:n.kind≠0):WrIn g (r.set i (runF n.f v).2):=by
 have hi:=(List.getElem?_eq_some_iff.1 hn).1;have hd:depAt g v i=(runF n.f v).2:=by unfold depAt;rw [getD_of hn,if_neg h0]
 refine ⟨fun k hk x hx=>?_,fun l hl=>?_⟩
 ·by_cases hki:k=i
  ·subst hki;by_cases hkr:k<r.length
   ·rw [List.getD_eq_getElem?_getD,List.getElem?_set_self hkr] at hx;exact depAt_mem hG hk (by rw [hd];exact hx)
   ·rw [List.getD_eq_getElem?_getD,List.getElem?_eq_none (by simp;omega)] at hx;cases hx
  ·rw [List.getD_eq_getElem?_getD,List.getElem?_set_ne (fun e=>hki e.symm),← List.getD_eq_getElem?_getD] at hx;exact h.rd k hk x hx
 ·rcases List.mem_or_eq_of_mem_set hl with hl | rfl
  ·exact h.le l hl
  ·rw [← hd];exact depAt_len hG _ hi
theorem rstep_no {g:Graph} {s:WrS} {i:Nat} {n:Node} (hn:g[i]? = some n) (h:n.kind=0∨hit s (s.reads.getD i [])=false):rstep g s i=s:=by
 unfold rstep;rw [getD_of hn,if_neg];rcases h with h | h
 ·simp [h]
 ·rw [h];simp
theorem rstep_yes {g:Graph} {s:WrS} {i:Nat} {n:Node} (hn:g[i]? = some n) (h0:n.kind≠0) (h:hit s (s.reads.getD i [])=true) :
  rstep g s i=⟨s.vals.set i (runF n.f s.vals).1,s.reads.set i (runF n.f s.vals).2,s.ch.set i ((runF n.f s.vals).1 != s.vals.getD i 0),s.ran++[(i:Int)]⟩:=by
 unfold rstep;rw [getD_of hn,if_pos (by rw [h];simp [h0])]
end Sg
namespace Sg
def startL (g:Graph) (l:List Int):Lazy:=⟨l,List.replicate g.length [],g.map fun n=>if n.kind=0 then 0 else 2⟩
theorem startL_cols {g:Graph} {l:List Int} {i:Nat} {n:Node} (hn:g[i]? = some n):(startL g l).cols.getD i 0=if n.kind=0 then 0 else 2:=by
 unfold startL;rw [List.getD_eq_getElem?_getD,List.getElem?_map,hn];rfl
theorem startL_reads (g:Graph) (l:List Int) (i:Nat):(startL g l).reads.getD i []=[]:=by
 unfold startL;rw [List.getD_eq_getElem?_getD,List.getElem?_replicate];split <;> rfl
theorem validC_parts {g:Graph} {l:List Int} (h:validC g l=true):l.length=g.length∧inR999 l=true:=by
 have hl:=validC_len h;refine ⟨hl,inR999_of ?_⟩;exact validC_range h
theorem startL_valid {g:Graph} {l:List Int} (hG:validG g=true) (hC:validC g l=true):validL g (startL g l)=true:=by
 obtain ⟨hl,hr⟩:=validC_parts hC;refine validL_iff.2 ⟨⟨hG,hl,by simp [startL],by simp [startL],hr⟩,fun i n hn=>⟨fun h0=>⟨?_,startL_reads g l i⟩,fun h0=>.inl ⟨?_,?_,?_⟩⟩⟩
 ·rw [startL_cols hn,if_pos h0]
 ·rw [startL_cols hn,if_neg h0]
 ·rw [startL_reads];intro x hx;cases hx
 ·rw [startL_reads];exact List.nodup_nil
theorem inR999_set {l:List Int} (h:inR999 l=true) {n:Nat} {x:Int} (hx:0≤x∧x≤999):inR999 (l.set n x)=true:=by
 refine inR999_of fun y hy=>?_;rcases List.mem_or_eq_of_mem_set hy with hy | rfl
 ·exact inR999_range h y hy
 ·exact hx
theorem no_way_nil {r:List (List Int)} {n i:Nat} (h:r.getD i []=[]):¬ Way r n i:=by
 intro w;rcases w.last with h1 | ⟨m,_,h1⟩
 ·rw [h] at h1;cases h1
 ·rw [h] at h1;cases h1
theorem writeL_valid {g:Graph} {st:Lazy} {n:Nat} {x:Int} (h:validL g st=true) (hc:isCell g n=true) (hx:0≤x∧x≤999):validL g (writeL st n x)=true:=by
 unfold writeL;split
 ·exact h
 ·obtain ⟨⟨hG,hvl,hrl,hcl,hv⟩,hC⟩:=validL_iff.1 h;obtain ⟨k,nd,hk,hnd,hkd⟩:=isCell_at hc;obtain rfl:n=k:=by omega
  have hn:=(List.getElem?_eq_some_iff.1 hnd).1;have hA:=ahead_of h;have hn0:=((hC n nd hnd).cell hkd).1;refine validL_iff.2 ⟨⟨hG,by simpa using hvl,hrl,by simpa using hcl,inR999_set hv hx⟩,fun i m hi=>?_⟩;have hil:=(List.getElem?_eq_some_iff.1 hi).1;have hk:=hC i m hi;have hcol:=spoilC_getD st.reads st.cols n i (by omega);have hval:i≠n→(st.vals.set n x).getD i 0=st.vals.getD i 0:=fun e=>by rw [getD_set _ _ _ _ _ (by omega),if_neg e]
  refine ⟨fun h0=>?_,fun h0=>?_⟩
  ·obtain ⟨h1,h2⟩:=hk.cell h0;dsimp only;rw [hcol,if_neg (no_way_nil h2)];exact ⟨h1,h2⟩
  ·have hin:i≠n:=fun e=>by subst e;rw [hnd] at hi;injection hi with hi;subst hi;exact h0 hkd
   dsimp only;rw [hcol,hval hin]
   have run:(n:Int) ∉ st.reads.getD i []→runF m.f st.vals=(st.vals.getD i 0,st.reads.getD i [])→runF m.f (st.vals.set n x)=(st.vals.getD i 0,st.reads.getD i []):=fun hno hR=>by
    rw [← hR];refine (runF_same fun y hy=>?_).symm;rw [hR] at hy;have hya:=hA i y hy;unfold rd;rw [getD_set _ _ _ _ _ (by omega),if_neg];intro e;exact hno (by rw [show (n:Int)=y by omega];exact hy)
   by_cases hd:(n:Int) ∈ st.reads.getD i []
   ·rw [if_pos (.one hd),if_pos hd];have:=hk.may hG hi h0;exact .inl ⟨rfl,this.1,this.2⟩
   ·by_cases hw:Way st.reads n i
    ·rw [if_pos hw,if_neg hd];rcases hk.form h0 with ⟨h2,h3⟩ | ⟨h2,h3⟩ | ⟨h2,h3,_⟩
     ·rw [if_neg (by omega)];exact .inl ⟨h2,h3⟩
     ·rw [if_neg (by omega)];exact .inr (.inl ⟨h2,run hd h3⟩)
     ·rw [if_pos h2];exact .inr (.inl ⟨rfl,run hd h3⟩)
    ·rw [if_neg hw];rcases hk.form h0 with h2 | ⟨h2,h3⟩ | ⟨h2,h3,h4⟩
     ·exact .inl h2
     ·exact .inr (.inl ⟨h2,run hd h3⟩)
     ·refine .inr (.inr ⟨h2,run hd h3,fun y hy=>?_⟩);have hya:=hA i y hy;rw [spoilC_getD _ _ _ _ (by omega),if_neg]
      ·exact h4 y hy
      ·intro w;exact hw (.more w (by rw [show ((y.toNat:Nat):Int)=y by omega];exact hy))
end Sg
