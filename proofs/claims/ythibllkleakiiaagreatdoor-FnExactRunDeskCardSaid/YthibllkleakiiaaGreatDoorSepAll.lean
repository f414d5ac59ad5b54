/- Parts of one proof, joined. A block of the call's own that is known whole: laws, and more. Conditions: in the theorems. -/
import Derived.Test.YthibllkleakiiaaGreatDoorCore
namespace Go.Proofs.YthibllkleakiiaaGreatDoor
open Go.RowKit
def Bx (w:World)(b:Nat)(cs:List Value):Prop:=∃ e,w.heap[b]? = some (.cells cs.toArray e (0,0))
theorem Bx.new (w:World)(cs:Array Value)(e:Nat):Bx (w.alloc (.cells cs e)) w.heap.size cs.toList:=⟨e,by simpa using heap_alloc_new w (.cells cs e)⟩
theorem Bx.lt {w:World}{b:Nat}{cs:List Value}(h:Bx w b cs):b<w.heap.size:=by obtain⟨e,h⟩:=h;exact(Array.getElem?_eq_some_iff.1 h).1
theorem Bx.keep {w w':World}{b:Nat}{cs:List Value}(h:Bx w b cs)(hk:w'.heap[b]? = w.heap[b]?):Bx w' b cs:=by obtain⟨e,h⟩:=h;exact⟨e,hk.trans h⟩
theorem Bx.ext {w w':World}{b:Nat}{cs:List Value}(h:Bx w b cs)(e:Aa w w'):Bx w' b cs:=h.keep (e.block b h.lt)
theorem Bx.al {w:World}{b:Nat}{cs:List Value}(h:Bx w b cs)(o:Obj):Bx (w.alloc o) b cs:=h.ext ((Aa.rfl' w).al o)
theorem Bx.mod {F:Nat->Prop}{w w':World}{b:Nat}{cs:List Value}(h:Bx w b cs)(m:AH F w w')(hF:¬ F b):Bx w' b cs:=h.keep (m.block b h.lt hF)
theorem Bx.set {w:World}{b:Nat}{cs:List Value}(h:Bx w b cs)(j:Nat)(u:Value):Bx (w.setCell ⟨b,j,none⟩ u) b (cs.set j u):=by
 obtain⟨e,h⟩:=h;refine⟨e,?_⟩;simp[World.setCell,Array.getElem?_modify,h]
theorem Bx.oth {w:World}{b:Nat}{cs:List Value}(h:Bx w b cs){p:Addr}(hne:p.block≠b)(u:Value):Bx (w.setCell p u) b cs:=h.keep (Below.heap_setCell w p u b (fun e=>hne e.symm))
theorem Bx.cell {w:World}{b:Nat}{cs:List Value}(h:Bx w b cs){j:Nat}{u:Value}(hj:cs[j]? = some u):w.cell? ⟨b,j,none⟩=some u:=by
 obtain⟨e,h⟩:=h;rw[cell_of_row w b j _ e (0,0) h];simpa using hj
theorem Bx.free {w:World}{b:Nat}{cs:List Value}(h:Bx w b cs)(j:Nat):w.frozen? ⟨b,j,none⟩=false:=by
 obtain⟨e,h⟩:=h;simp[World.frozen?,h]
def Em (w:World)(A:Option Addr)(ll:List (List Int)):Prop :=
 ll.length<=1048576/\∀ (i:Nat) (l:List Int),ll[i]? = some l->∃ b o Al cl,A=some ⟨b,o,none⟩/\w.cell? ⟨b,o+i,none⟩=some (.slice Al l.length cl)/\Rd w 1 Al l.length (Ah l)/\l.length<=1048576/\l.length<=cl/\cl<=maxLen
theorem Em.ext {w w':World}{A:Option Addr}{ll:List (List Int)}(h:Em w A ll)(e:Aa w w'):Em w' A ll :=
 ⟨h.1,fun i l hl=>let ⟨b,o,Al,cl,ha,h1,h2,h3,h4⟩:=h.2 i l hl;⟨b,o,Al,cl,ha,e.cellE h1,h2.ext e,h3,h4⟩⟩
theorem Em.rdL {w:World}{A:Option Addr}{ll:List (List Int)}(h:Em w A ll):KO w A ll :=
 ⟨h.1,fun i l hl=>let ⟨b,o,Al,cl,ha,h1,h2,h3,_⟩:=h.2 i l hl;⟨b,o,Al,cl,ha,h1,h2,h3⟩⟩
theorem Em.at_ {w:World}{A:Option Addr}{ll:List (List Int)}(h:Em w A ll){i:Nat}(hi:i<ll.length):∃ l b o Al cl,ll[i]? = some l/\A=some ⟨b,o,none⟩/\w.cell? ⟨b,o+i,none⟩=some (.slice Al l.length cl)/\Rd w 1 Al l.length (Ah l)/\l.length<=1048576/\l.length<=cl/\cl<=maxLen:=by
 have hx:ll[i]? = some ll[i]:=List.getElem?_eq_getElem hi;obtain⟨b,o,Al,cl,r⟩:=h.2 i _ hx;exact⟨_,b,o,Al,cl,hx,r⟩
theorem L0 (its:List It):∀ (hs:List (Option Addr × Nat)) (i:Nat) (it:It) (A0:Option Addr) (c0:Nat),(∀ x ∈ its,x.pre=[])->it.pre=[]->hs.length=its.length->i<its.length ->
  (Bb its hs).set i (.slice A0 it.n c0)=Bb (its.set i it) (hs.set i (A0,c0)):=by
 induction its with
 | nil=>intro hs i it A0 c0 _ _ _ hi;simp at hi
 | cons x its ih =>
  intro hs i it A0 c0 ha hp hl hi;cases hs with
  | nil=>simp at hl
  | cons h hs =>
   have hx:=ha x (by simp);cases i with
   | zero=>simp[Bb,Mt,hx,hp]
   | succ i =>
    simp only[List.set_cons_succ,Bb];rw[<- ih hs i it A0 c0 (fun y hy=>ha y (by simp[hy])) hp (by simpa using hl) (by simpa using hi)];simp[Mt,hx]
theorem Cy.put {w w1:World}{B c:Nat}{A:Option Addr}{ll:List (List Int)}{hs:List (Option Addr × Nat)}(k:Cy w B A c ll hs)(e:Aa w w1)(hB:B<=w.heap.size){i:Nat}(hi:i<ll.length)(l:List Int){A0:Option Addr}{c0:Nat}(own:AA w1 w.heap.size 3 1 A0 l.length c0 (Ah l)){g:Nat}(hA:A=some ⟨g,0,none⟩):Cy (w1.setCell ⟨g,i,none⟩ (.slice A0 l.length c0)) B A c (ll.set i l) (hs.set i (A0,c0)):=by
 subst hA;have hlen:hs.length=ll.length:=by have:=k.len;simpa using this
 have hout:=k.out.ext e;have hgl:g<w.heap.size:=(k.out.lt (g:=g) rfl).2;have hits:AM (ll.set i l)=(AM ll).set i ⟨[],l.length,Ah l⟩:=by simp[AM,List.map_set]
 have hpre:∀ x ∈ AM ll,x.pre=[]:=by
  intro x hx;unfold AM at hx;rw[List.mem_map] at hx;obtain⟨y,_,rfl⟩:=hx;rfl
 have hother:∀ b,b≠g->(w1.setCell ⟨g,i,none⟩ (.slice A0 l.length c0)).heap[b]? = w1.heap[b]? := fun b hb=>Below.heap_setCell _ _ _ _ hb;refine⟨by simp[hlen],?_,?_,?_,?_⟩
 ·have h1:=hout.st i (.slice A0 l.length c0);rw[L0 (AM ll) hs i ⟨[],l.length,Ah l⟩ A0 c0 hpre rfl (by simpa using hlen) (by simpa using hi)] at h1;rw[hits];simpa using h1
 ·intro j it h hj hh;rw[hits] at hj;by_cases hij:j=i
  ·subst hij;rw[List.getElem?_set_self (by simpa using hi)] at hj;rw[List.getElem?_set_self (by omega)] at hh;injection hj with hj;injection hh with hh;subst hj;subst hh;refine(own.keep fun b hb=>hother b (fun e2=>?_)).mono hB;have:=(own.lt hb).1;omega
  ·rw[List.getElem?_set_ne (fun e=>hij e.symm)] at hj hh;have o1:=(k.inn j it h hj hh).ext e;refine o1.keep fun b hb=>hother b (fun e2=>?_);subst e2;exact k.dio j h hh b rfl hb
 ·intro a b h h' hab hh hh' x hx hx';by_cases h1:a=i
  ·subst h1;rw[List.getElem?_set_self (by omega)] at hh;injection hh with hh;subst hh;rw[List.getElem?_set_ne (by omega)] at hh';have h3:=(own.lt hx).1;have h4:=(Bn.lt k (.inr ⟨h',List.mem_of_getElem? hh',hx'⟩)).2;omega
  ·rw[List.getElem?_set_ne (fun e=>h1 e.symm)] at hh;by_cases h2:b=i
   ·subst h2;rw[List.getElem?_set_self (by omega)] at hh';injection hh' with hh';subst hh';have h3:=(own.lt hx').1;have h4:=(Bn.lt k (.inr ⟨h,List.mem_of_getElem? hh,hx⟩)).2;omega
   ·rw[List.getElem?_set_ne (fun e=>h2 e.symm)] at hh';exact k.dis a b h h' hab hh hh' x hx hx'
 ·intro a h hh b hb hb';by_cases h1:a=i
  ·subst h1;rw[List.getElem?_set_self (by omega)] at hh;injection hh with hh;subst hh;have h3:=(own.lt hb').1;simp[AD] at hb
   omega
  ·rw[List.getElem?_set_ne (fun e=>h1 e.symm)] at hh;exact k.dio a h hh b hb hb'
structure Th (B:Nat) where
 fp:Nat->Prop
 ok:World->Prop
 fr:∀ W W',ok W->(∀ b,fp b->W'.heap[b]? = W.heap[b]?)->ok W'
 lt:∀ W b,ok W->fp b->B<=b/\b<W.heap.size
def Th.own (B e size:Nat)(A:Option Addr)(n c:Nat)(xs:List Value):Th B:=⟨fun b=>AD A=some b,fun W=>AA W B e size A n c xs,fun _ _ h hk=>h.keep hk,fun _ _ h hb=>h.lt hb⟩
def Th.ownL (B:Nat)(A:Option Addr)(c:Nat)(ll:List (List Int))(hs:List (Option Addr × Nat)):Th B:=⟨FR A hs,fun W=>Cy W B A c ll hs,fun _ _ h hk=>Bn.fr h hk,fun _ _ h hb=>Bn.lt h hb⟩
def Th.box (B b:Nat)(cs:List Value):Th B:=⟨fun x=>x=b,fun W=>Bx W b cs/\B<=b,fun _ _ h hk=>⟨h.1.keep (hk b rfl),h.2⟩,fun _ _ h hb=>by subst hb;exact⟨h.2,h.1.lt⟩⟩
def Ai {B:Nat}:List (Th B)->World->Prop
 | [],_=>True
 | t :: ts,W=>t.ok W/\(∀ s ∈ ts,∀ b,t.fp b->¬ s.fp b)/\Ai ts W
section
variable {B:Nat} {ts:List (Th B)} {W W':World}
theorem Ai.mem (h:Ai ts W){t:Th B}(ht:t ∈ ts):t.ok W:=by
 induction ts with
 | nil=>cases ht
 | cons s ts ih =>
  rcases List.mem_cons.1 ht with rfl | ht
  ·exact h.1
  ·exact ih h.2.2 ht
theorem Ai.get (h:Ai ts W)(i:Nat){t:Th B}(ht:ts[i]? = some t):t.ok W:=h.mem (List.mem_of_getElem? ht)
theorem Ai.fr (h:Ai ts W)(hk:∀ t ∈ ts,∀ b,t.fp b->W'.heap[b]? = W.heap[b]?):Ai ts W':=by
 induction ts with
 | nil=>trivial
 | cons s ts ih=>exact⟨s.fr _ _ h.1 (hk s (by simp)),h.2.1,ih h.2.2 (fun t ht=>hk t (by simp[ht]))⟩
theorem Ai.lt (h:Ai ts W){t:Th B}(ht:t ∈ ts){b:Nat}(hb:t.fp b):B<=b/\b<W.heap.size:=t.lt _ _ (h.mem ht) hb
theorem Ai.ext (h:Ai ts W)(e:Aa W W'):Ai ts W':=h.fr fun _ ht b hb=>e.block b (h.lt ht hb).2
theorem Ai.mod {F:Nat->Prop}(h:Ai ts W)(m:AH F W W')(hF:∀ b,F b->b<B):Ai ts W':=h.fr fun _ ht b hb=>m.block b (h.lt ht hb).2 (fun e=>by have:=hF b e;have:=(h.lt ht hb).1;omega)
theorem Ai.add (h:Ai ts W)(e:Aa W W')(t:Th B)(ht:t.ok W')(hn:∀ b,t.fp b->W.heap.size<=b):Ai (t :: ts) W' :=
 ⟨ht,fun _ hs b hb hb'=>by have:=hn b hb;have:=(h.lt hs hb').2;omega,h.ext e⟩
theorem Ai.set {F:Nat->Prop}(h:Ai ts W)(i:Nat){t:Th B}(ht:ts[i]? = some t)(m:AH F W W')(t':Th B)(hF:∀ b,F b->t.fp b\/W.heap.size<=b)(hok:t'.ok W')(hfp:∀ b,t'.fp b->t.fp b\/W.heap.size<=b):Ai (ts.set i t') W':=by
 induction ts generalizing i with
 | nil=>simp at ht
 | cons s ts ih =>
  cases i with
  | zero =>
   simp at ht
   subst ht;simp only[List.set_cons_zero];refine⟨hok,fun u hu b hb hb'=>?_,h.2.2.fr fun u hu b hb=>m.block b (h.2.2.lt hu hb).2 (fun e=>?_)⟩
   ·rcases hfp b hb with hb | hb
    ·exact h.2.1 u hu b hb hb'
    ·have:=(h.2.2.lt hu hb').2;omega
   ·rcases hF b e with hb2 | hb2
    ·exact h.2.1 u hu b hb2 hb
    ·have:=(h.2.2.lt hu hb).2;omega
  | succ i =>
   simp at ht
   simp only[List.set_cons_succ];have htm:=List.mem_of_getElem? ht;refine⟨s.fr _ _ h.1 fun b hb=>m.block b (s.lt _ _ h.1 hb).2 (fun e=>?_),fun u hu b hb hb'=>?_,ih h.2.2 i ht⟩
   ·rcases hF b e with hb2 | hb2
    ·exact h.2.1 t htm b hb hb2
    ·have:=(s.lt _ _ h.1 hb).2;omega
   ·rcases List.mem_or_eq_of_mem_set hu with hu | rfl
    ·exact h.2.1 u hu b hb hb'
    ·rcases hfp b hb' with hb2 | hb2
     ·exact h.2.1 t htm b hb hb2
     ·have:=(s.lt _ _ h.1 hb).2;omega
theorem Ai.tail {t:Th B}(h:Ai (t :: ts) W):Ai ts W:=h.2.2
theorem Ai.st (h:Ai ts W)(i:Nat){t:Th B}(ht:ts[i]? = some t)(p:Addr)(u:Value)(hp:t.fp p.block)(t':Th B)(hok:t'.ok (W.setCell p u))(hfp:∀ b,t'.fp b->t.fp b):Ai (ts.set i t') (W.setCell p u) :=
 h.set i ht (AH.set (F:=fun b=>b=p.block) (AH.rfl' _ W) (.inl rfl) u) t' (fun b e=>.inl (by rw[e];exact hp)) hok (fun b e=>.inl (hfp b e))
theorem Ai.app (h:Ai ts W)(i:Nat){e size n c n' c':Nat}{A A':Option Addr}{xs xs':List Value}(ht:ts[i]? = some (Th.own B e size A n c xs))(ho:AA W' B e size A' n' c' xs')(hg:W.grownBy W' (AD A))(hat:AD A'=AD A\/∃ g,AD A'=some g/\W.heap.size<=g) :
  Ai (ts.set i (Th.own B e size A' n' c' xs')) W':=by
 refine h.set (F:=fun b=>AD A=some b) i ht ⟨hg.os,hg.tape,hg.output,hg.size,fun b hb hn=>hg.block b hb (fun e=>hn e.symm)⟩ _ (fun b e=>.inl e) ho (fun b hb=>?_);rcases hat with hat | ⟨g,hg',hle⟩
 ·exact .inl (by show AD A=some b;rw[<- hat];exact hb)
 ·right
  have hb':AD A'=some b:=hb;rw[hg'] at hb';injection hb' with hb';omega
theorem Ai.old {a:World}{F:Nat->Prop}(h:Aa a W)(hB:a.heap.size<=B){t:Th B}(ht:t.ok W)(m:AH F W W')(hF:∀ b,F b->t.fp b\/W.heap.size<=b):Aa a W' :=
 Aa.md h m fun b hb=>by
  rcases hF b hb with h1 | h1
  ·have:=(t.lt _ _ ht h1).1;omega
  ·have:=h.size;omega
end
def WS (B N N1 N2:Nat)(k0 k1 k2:List Value)(Av:Option Addr)(cv:Nat)(v:List Int)(Ar:Option Addr)(cr:Nat)(r:List (List Int))(hs:List (Option Addr × Nat))(ec:Nat)(Ac:Option Addr)(nc cc:Nat)(xs:List Value)(Ad:Option Addr)(cd:Nat)(rn:List Int)(ts:List (Th B))(W:World):Prop :=
 Ai (Th.own B 3 1 Ad rn.length cd (Ah rn) :: Th.own B ec 1 Ac nc cc xs :: Th.box B N2 k2 :: Th.box B N1 k1 :: Th.box B N k0 :: Th.own B 3 1 Av v.length cv (Ah v) :: Th.ownL B Ar cr r hs :: ts) W
section
variable {B N N1 N2 cv cr ec nc cc cd:Nat} {k0 k1 k2 xs:List Value} {Av Ar Ac Ad:Option Addr} {v rn:List Int} {r:List (List Int)} {hs:List (Option Addr × Nat)} {W W':World} {ts:List (Th B)}
theorem WS.d (h:WS B N N1 N2 k0 k1 k2 Av cv v Ar cr r hs ec Ac nc cc xs Ad cd rn ts W):AA W B 3 1 Ad rn.length cd (Ah rn):=Ai.get h 0 rfl
theorem WS.c (h:WS B N N1 N2 k0 k1 k2 Av cv v Ar cr r hs ec Ac nc cc xs Ad cd rn ts W):AA W B ec 1 Ac nc cc xs:=Ai.get h 1 rfl
theorem WS.b2 (h:WS B N N1 N2 k0 k1 k2 Av cv v Ar cr r hs ec Ac nc cc xs Ad cd rn ts W):Bx W N2 k2:=(Ai.get h 2 rfl).1
theorem WS.b1 (h:WS B N N1 N2 k0 k1 k2 Av cv v Ar cr r hs ec Ac nc cc xs Ad cd rn ts W):Bx W N1 k1:=(Ai.get h 3 rfl).1
theorem WS.b0 (h:WS B N N1 N2 k0 k1 k2 Av cv v Ar cr r hs ec Ac nc cc xs Ad cd rn ts W):Bx W N k0:=(Ai.get h 4 rfl).1
theorem WS.vv (h:WS B N N1 N2 k0 k1 k2 Av cv v Ar cr r hs ec Ac nc cc xs Ad cd rn ts W):AA W B 3 1 Av v.length cv (Ah v):=Ai.get h 5 rfl
theorem WS.rr (h:WS B N N1 N2 k0 k1 k2 Av cv v Ar cr r hs ec Ac nc cc xs Ad cd rn ts W):Cy W B Ar cr r hs:=Ai.get h 6 rfl
theorem WS.ext (h:WS B N N1 N2 k0 k1 k2 Av cv v Ar cr r hs ec Ac nc cc xs Ad cd rn ts W)(e:Aa W W'):WS B N N1 N2 k0 k1 k2 Av cv v Ar cr r hs ec Ac nc cc xs Ad cd rn ts W':=Ai.ext h e
theorem WS.setV {g:Nat}(h:WS B N N1 N2 k0 k1 k2 (some ⟨g,0,none⟩) cv v Ar cr r hs ec Ac nc cc xs Ad cd rn ts W)(j:Nat)(x:Int):WS B N N1 N2 k0 k1 k2 (some ⟨g,0,none⟩) cv (v.set j x) Ar cr r hs ec Ac nc cc xs Ad cd rn ts (W.setCell ⟨g,j,none⟩ (.int .i64 x)):=by
 have o:=h.vv.st j (.int .i64 x);rw[Do] at o;exact Ai.st h 5 rfl ⟨g,j,none⟩ (.int .i64 x) rfl (Th.own B 3 1 (some ⟨g,0,none⟩) (v.set j x).length cv (Ah (v.set j x))) (by show AA _ _ _ _ _ _ _ _;rw[List.length_set];exact o) (fun b e=>e)
theorem WS.setC {g:Nat}(h:WS B N N1 N2 k0 k1 k2 Av cv v Ar cr r hs ec (some ⟨g,0,none⟩) nc cc xs Ad cd rn ts W)(j:Nat)(u:Value):WS B N N1 N2 k0 k1 k2 Av cv v Ar cr r hs ec (some ⟨g,0,none⟩) nc cc (xs.set j u) Ad cd rn ts (W.setCell ⟨g,j,none⟩ u) :=
 Ai.st h 1 rfl ⟨g,j,none⟩ u rfl (Th.own B ec 1 (some ⟨g,0,none⟩) nc cc (xs.set j u)) (h.c.st j u) (fun _ e=>e)
theorem WS.pushC {n' c':Nat}{A':Option Addr}{xs':List Value}(h:WS B N N1 N2 k0 k1 k2 Av cv v Ar cr r hs ec Ac nc cc xs Ad cd rn ts W)(ho:AA W' B ec 1 A' n' c' xs')(hg:W.grownBy W' (AD Ac))(hat:AD A'=AD Ac\/∃ g,AD A'=some g/\W.heap.size<=g) :
  WS B N N1 N2 k0 k1 k2 Av cv v Ar cr r hs ec A' n' c' xs' Ad cd rn ts W':=Ai.app h 1 rfl ho hg hat
theorem WS.pushD {c':Nat}{A':Option Addr}{rn':List Int}(h:WS B N N1 N2 k0 k1 k2 Av cv v Ar cr r hs ec Ac nc cc xs Ad cd rn ts W)(ho:AA W' B 3 1 A' rn'.length c' (Ah rn'))(hg:W.grownBy W' (AD Ad))(hat:AD A'=AD Ad\/∃ g,AD A'=some g/\W.heap.size<=g) :
  WS B N N1 N2 k0 k1 k2 Av cv v Ar cr r hs ec Ac nc cc xs A' c' rn' ts W':=Ai.app h 0 rfl ho hg hat
theorem WS.newD {c':Nat}{A':Option Addr}{rn':List Int}(h:WS B N N1 N2 k0 k1 k2 Av cv v Ar cr r hs ec Ac nc cc xs Ad cd rn ts W)(e:Aa W W')(ho:AA W' B 3 1 A' rn'.length c' (Ah rn'))(hn:∀ b,AD A'=some b->W.heap.size<=b) :
  WS B N N1 N2 k0 k1 k2 Av cv v Ar cr r hs ec Ac nc cc xs A' c' rn' ts W' :=
 Ai.set h 0 rfl (F:=fun _=>False) (AH.of e) (Th.own B 3 1 A' rn'.length c' (Ah rn')) (fun _=>False.elim) ho (fun b hb=>.inr (hn b hb))
theorem WS.newC {n' c':Nat}{A':Option Addr}{xs':List Value}(h:WS B N N1 N2 k0 k1 k2 Av cv v Ar cr r hs ec Ac nc cc xs Ad cd rn ts W)(e:Aa W W')(ho:AA W' B ec 1 A' n' c' xs')(hn:∀ b,AD A'=some b->W.heap.size<=b) :
  WS B N N1 N2 k0 k1 k2 Av cv v Ar cr r hs ec A' n' c' xs' Ad cd rn ts W' :=
 Ai.set h 1 rfl (F:=fun _=>False) (AH.of e) (Th.own B ec 1 A' n' c' xs') (fun _=>False.elim) ho (fun b hb=>.inr (hn b hb))
theorem WS.putR {g i:Nat}(h:WS B N N1 N2 k0 k1 k2 Av cv v (some ⟨g,0,none⟩) cr r hs ec Ac nc cc xs Ad cd rn ts W)(hB:B<=W.heap.size){W1:World}(e:Aa W W1)(hi:i<r.length)(l:List Int){A0:Option Addr}{c0:Nat}(own:AA W1 W.heap.size 3 1 A0 l.length c0 (Ah l)) :
  WS B N N1 N2 k0 k1 k2 Av cv v (some ⟨g,0,none⟩) cr (r.set i l) (hs.set i (A0,c0)) ec Ac nc cc xs Ad cd rn ts (W1.setCell ⟨g,i,none⟩ (.slice A0 l.length c0)):=by
 have hr:=h.rr;refine Ai.set h 6 rfl (F:=fun b=>b=g) (AH.set (F:=fun b=>b=g) (AH.of (F:=fun b=>b=g) e) (p:=⟨g,i,none⟩) (.inl rfl) (.slice A0 l.length c0)) (Th.ownL B (some ⟨g,0,none⟩) cr (r.set i l) (hs.set i (A0,c0))) (fun b hb=>.inl (.inl (by rw[hb];rfl))) (Cy.put hr e hB hi l own rfl) (fun b hb=>?_);rcases hb with hb | ⟨x,hx,hb⟩
 ·exact .inl (.inl hb)
 ·rcases List.mem_or_eq_of_mem_set hx with hx | rfl
  ·exact .inl (.inr ⟨x,hx,hb⟩)
  ·exact .inr (own.lt hb).1
theorem WS.start {A1:Option Addr}{c1:Nat}{hs1:List (Option Addr × Nat)}(h:Ai (Th.own B 3 1 Av v.length cv (Ah v) :: Th.ownL B A1 c1 r hs1 :: ts) W)(hB:B<=W.heap.size)(k0 k1 k2:Array Value)(t0 t1 t2 ec:Nat) :
  WS B W.heap.size (W.heap.size+1) (W.heap.size+2) k0.toList k1.toList k2.toList Av cv v A1 c1 r hs1 ec none 0 0 [] none 0 [] ts (((W.alloc (.cells k0 t0)).alloc (.cells k1 t1)).alloc (.cells k2 t2)):=by
 have b0:=Bx.new W k0 t0;have b1:=Bx.new (W.alloc (.cells k0 t0)) k1 t1;have b2:=Bx.new ((W.alloc (.cells k0 t0)).alloc (.cells k1 t1)) k2 t2;simp only[World.size_alloc] at b1 b2;have s0:=Ai.add h ((Aa.rfl' W).al (.cells k0 t0)) (Th.box B W.heap.size k0.toList) ⟨b0,hB⟩ (fun b e=>by subst e;exact Nat.le_refl _);have s1:=Ai.add s0 ((Aa.rfl' _).al (.cells k1 t1)) (Th.box B (W.heap.size+1) k1.toList) ⟨b1,by omega⟩ (fun b e=>by subst e;simp);have s2:=Ai.add s1 ((Aa.rfl' _).al (.cells k2 t2)) (Th.box B (W.heap.size+2) k2.toList) ⟨b2,by omega⟩ (fun b e=>by subst e;simp);have s3:=Ai.add s2 (Aa.rfl' _) (Th.own B ec 1 none 0 0 []) (AA.nil _ _ _ _) (fun b e=>by cases e);exact Ai.add s3 (Aa.rfl' _) (Th.own B 3 1 none ([]:List Int).length 0 (Ah [])) (by show AA _ _ _ _ _ _ _ _;simpa[Ah] using AA.nil _ B 3 1) (fun b e=>by cases e)
theorem Ai.swap {x y:Th B}{ts:List (Th B)}(h:Ai (x :: y :: ts) W):Ai (y :: x :: ts) W :=
 ⟨h.2.2.1,fun s hs b hb hb'=>by
  rcases List.mem_cons.1 hs with rfl | hs
  ·exact h.2.1 y (by simp) b hb' hb
  ·exact h.2.2.2.1 s hs b hb hb',h.1,fun s hs b hb=>h.2.1 s (by simp[hs]) b hb,h.2.2.2.2⟩
theorem WS.startI {A1:Option Addr}{c1 n:Nat}{hs1:List (Option Addr × Nat)}(h:Ai (Th.own B 3 1 Av v.length cv (Ah v) :: Th.ownL B A1 c1 r hs1 :: ts) W)(hB:B<=W.heap.size)(k0 k1:Array Value)(t0 t1 t2 ec:Nat){W3 W4:World}(e3:Aa ((W.alloc (.cells k0 t0)).alloc (.cells k1 t1)) W3)(e4:Aa W3 W4)(ho:AA W4 W3.heap.size ec 1 Ac n cc xs)(k2:Array Value) :
  WS B W.heap.size (W.heap.size+1) W4.heap.size k0.toList k1.toList k2.toList Av cv v A1 c1 r hs1 ec Ac n cc xs none 0 [] ts (W4.alloc (.cells k2 t2)):=by
 have b0:=Bx.new W k0 t0;have b1:=Bx.new (W.alloc (.cells k0 t0)) k1 t1;have b2:=Bx.new W4 k2 t2;simp only[World.size_alloc] at b1;have hs3:=e3.size;simp only[World.size_alloc] at hs3;have hs4:=e4.size;have s0:=Ai.add h ((Aa.rfl' W).al (.cells k0 t0)) (Th.box B W.heap.size k0.toList) ⟨b0,hB⟩ (fun b e=>by subst e;exact Nat.le_refl _);have s1:=Ai.add s0 ((Aa.rfl' _).al (.cells k1 t1)) (Th.box B (W.heap.size+1) k1.toList) ⟨b1,by omega⟩ (fun b e=>by subst e;simp);have s2:=Ai.add (Ai.ext s1 e3) e4 (Th.own B ec 1 Ac n cc xs) (ho.mono (by omega)) (fun b e=>(ho.lt e).1);have s3:=Ai.add s2 ((Aa.rfl' _).al (.cells k2 t2)) (Th.box B W4.heap.size k2.toList) ⟨b2,by omega⟩ (fun b e=>by subst e;exact Nat.le_refl _);exact Ai.add (Ai.swap s3) (Aa.rfl' _) (Th.own B 3 1 none ([]:List Int).length 0 (Ah [])) (by show AA _ _ _ _ _ _ _ _;simpa[Ah] using AA.nil _ B 3 1) (fun b e=>by cases e)
theorem WS.vr (h:WS B N N1 N2 k0 k1 k2 Av cv v Ar cr r hs ec Ac nc cc xs Ad cd rn ts W):∀ b,AD Av=some b->¬ FR Ar hs b:=fun b hb hb'=>h.2.2.2.2.2.2.2.2.2.2.2.1 (Th.ownL B Ar cr r hs) (by simp) b hb hb'
theorem WS.cv_ (h:WS B N N1 N2 k0 k1 k2 Av cv v Ar cr r hs ec Ac nc cc xs Ad cd rn ts W):∀ b,AD Ac=some b->AD Av≠some b:=fun b hb=>h.2.2.2.1 (Th.own B 3 1 Av v.length cv (Ah v)) (by simp) b hb
theorem WS.cN2 (h:WS B N N1 N2 k0 k1 k2 Av cv v Ar cr r hs ec Ac nc cc xs Ad cd rn ts W):∀ b,AD Ac=some b->N2≠b:=fun b hb e=>h.2.2.2.1 (Th.box B N2 k2) (by simp) b hb e.symm
theorem WS.cN1 (h:WS B N N1 N2 k0 k1 k2 Av cv v Ar cr r hs ec Ac nc cc xs Ad cd rn ts W):∀ b,AD Ac=some b->N1≠b:=fun b hb e=>h.2.2.2.1 (Th.box B N1 k1) (by simp) b hb e.symm
theorem WS.cN (h:WS B N N1 N2 k0 k1 k2 Av cv v Ar cr r hs ec Ac nc cc xs Ad cd rn ts W):∀ b,AD Ac=some b->N≠b:=fun b hb e=>h.2.2.2.1 (Th.box B N k0) (by simp) b hb e.symm
theorem WS.vN2 (h:WS B N N1 N2 k0 k1 k2 Av cv v Ar cr r hs ec Ac nc cc xs Ad cd rn ts W):∀ b,AD Av=some b->N2≠b:=fun b hb e=>h.2.2.2.2.2.1 (Th.own B 3 1 Av v.length cv (Ah v)) (by simp) b e.symm hb
theorem WS.vN1 (h:WS B N N1 N2 k0 k1 k2 Av cv v Ar cr r hs ec Ac nc cc xs Ad cd rn ts W):∀ b,AD Av=some b->N1≠b:=fun b hb e=>h.2.2.2.2.2.2.2.1 (Th.own B 3 1 Av v.length cv (Ah v)) (by simp) b e.symm hb
theorem WS.vN (h:WS B N N1 N2 k0 k1 k2 Av cv v Ar cr r hs ec Ac nc cc xs Ad cd rn ts W):∀ b,AD Av=some b->N≠b:=fun b hb e=>h.2.2.2.2.2.2.2.2.2.1 (Th.own B 3 1 Av v.length cv (Ah v)) (by simp) b e.symm hb
theorem WS.rN2 (h:WS B N N1 N2 k0 k1 k2 Av cv v Ar cr r hs ec Ac nc cc xs Ad cd rn ts W):∀ b,FR Ar hs b->N2≠b:=fun b hb e=>h.2.2.2.2.2.1 (Th.ownL B Ar cr r hs) (by simp) b e.symm hb
theorem WS.rN1 (h:WS B N N1 N2 k0 k1 k2 Av cv v Ar cr r hs ec Ac nc cc xs Ad cd rn ts W):∀ b,FR Ar hs b->N1≠b:=fun b hb e=>h.2.2.2.2.2.2.2.1 (Th.ownL B Ar cr r hs) (by simp) b e.symm hb
theorem WS.rN (h:WS B N N1 N2 k0 k1 k2 Av cv v Ar cr r hs ec Ac nc cc xs Ad cd rn ts W):∀ b,FR Ar hs b->N≠b:=fun b hb e=>h.2.2.2.2.2.2.2.2.2.1 (Th.ownL B Ar cr r hs) (by simp) b e.symm hb
theorem WS.dN2 (h:WS B N N1 N2 k0 k1 k2 Av cv v Ar cr r hs ec Ac nc cc xs Ad cd rn ts W):∀ b,AD Ad=some b->N2≠b:=fun b hb e=>h.2.1 (Th.box B N2 k2) (by simp) b hb e.symm
theorem WS.dN1 (h:WS B N N1 N2 k0 k1 k2 Av cv v Ar cr r hs ec Ac nc cc xs Ad cd rn ts W):∀ b,AD Ad=some b->N1≠b:=fun b hb e=>h.2.1 (Th.box B N1 k1) (by simp) b hb e.symm
theorem WS.dN (h:WS B N N1 N2 k0 k1 k2 Av cv v Ar cr r hs ec Ac nc cc xs Ad cd rn ts W):∀ b,AD Ad=some b->N≠b:=fun b hb e=>h.2.1 (Th.box B N k0) (by simp) b hb e.symm
theorem WS.dc_ (h:WS B N N1 N2 k0 k1 k2 Av cv v Ar cr r hs ec Ac nc cc xs Ad cd rn ts W):∀ b,AD Ad=some b->AD Ac≠some b:=fun b hb=>h.2.1 (Th.own B ec 1 Ac nc cc xs) (by simp) b hb
theorem WS.dr_ (h:WS B N N1 N2 k0 k1 k2 Av cv v Ar cr r hs ec Ac nc cc xs Ad cd rn ts W):∀ b,AD Ad=some b->¬ FR Ar hs b:=fun b hb=>h.2.1 (Th.ownL B Ar cr r hs) (by simp) b hb
theorem WS.cr_ (h:WS B N N1 N2 k0 k1 k2 Av cv v Ar cr r hs ec Ac nc cc xs Ad cd rn ts W):∀ b,AD Ac=some b->¬ FR Ar hs b:=fun b hb=>h.2.2.2.1 (Th.ownL B Ar cr r hs) (by simp) b hb
theorem WS.tN2 (h:WS B N N1 N2 k0 k1 k2 Av cv v Ar cr r hs ec Ac nc cc xs Ad cd rn ts W):∀ x ∈ ts,∀ b,x.fp b->N2≠b:=fun x hx b hb e=>h.2.2.2.2.2.1 x (by simp[hx]) b e.symm hb
theorem WS.fin (h:WS B N N1 N2 k0 k1 k2 Av cv v Ar cr r hs ec Ac nc cc xs Ad cd rn ts W):Ai (Th.own B 3 1 Ad rn.length cd (Ah rn) :: Th.own B 3 1 Av v.length cv (Ah v) :: Th.ownL B Ar cr r hs :: ts) W :=
 ⟨h.1,fun s hs b hb=>h.2.1 s (by simp at hs ⊢;rcases hs with rfl | rfl | hs <;> simp[*]) b hb,h.2.2.2.2.2.2.2.2.2.2⟩
theorem WS.set2 (h:WS B N N1 N2 k0 k1 k2 Av cv v Ar cr r hs ec Ac nc cc xs Ad cd rn ts W)(j:Nat)(u:Value):WS B N N1 N2 k0 k1 (k2.set j u) Av cv v Ar cr r hs ec Ac nc cc xs Ad cd rn ts (W.setCell ⟨N2,j,none⟩ u) :=
 Ai.st h 2 rfl ⟨N2,j,none⟩ u rfl (Th.box B N2 (k2.set j u)) ⟨h.b2.set j u,(Ai.get h 2 rfl).2⟩ (fun _ e=>e)
theorem OV (w:World){b c:Nat}(i j:Nat)(u v:Value)(h:b≠c):(w.setCell ⟨b,i,none⟩ u).setCell ⟨c,j,none⟩ v=(w.setCell ⟨c,j,none⟩ v).setCell ⟨b,i,none⟩ u:=by
 unfold World.setCell;congr 1
 apply Array.ext_getElem?;intro k;simp only[Array.getElem?_modify];by_cases h1:c=k
 ·subst h1;simp[h]
 ·by_cases h2:b=k
  ·subst h2;simp[h1]
  ·simp[h1,h2]
theorem WS.clipD (h:WS B N N1 N2 k0 k1 k2 Av cv v Ar cr r hs ec Ac nc cc xs Ad cd rn ts W)(ho:AA W B 3 1 Ad rn.length rn.length (Ah rn)):WS B N N1 N2 k0 k1 k2 Av cv v Ar cr r hs ec Ac nc cc xs Ad rn.length rn ts W :=
 Ai.set h 0 rfl (F:=fun _=>False) (AH.of (Aa.rfl' W)) (Th.own B 3 1 Ad rn.length rn.length (Ah rn)) (fun _=>False.elim) ho (fun _ hb=>.inl hb)
end
end Go.Proofs.YthibllkleakiiaaGreatDoor
