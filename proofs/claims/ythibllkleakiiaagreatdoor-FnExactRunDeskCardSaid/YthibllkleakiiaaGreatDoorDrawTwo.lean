/- Parts of one proof, joined. What goodGraph keeps in memory, and how its steps turn it, and more. Conditions: in the theorems. -/
import Derived.Deep.DeepCutAuto
import Derived.Test.YthibllkleakiiaaGreatDoorFactsAll
namespace Go.Proofs.YthibllkleakiiaaGreatDoor
open Go.RowKit
theorem Bn.gr {w w':World}{B eo so ei si c:Nat}{A:Option Addr}{its:List It}{hs:List (Option Addr × Nat)}{row:Option Nat}(k:Bn w B eo so ei si A c its hs)(hg:w.grownBy w' row)(hr:∀ b,row=some b->¬ FR A hs b):Bn w' B eo so ei si A c its hs :=
 k.fr fun b hb=>hg.block b (k.lt hb).2 (fun e=>hr b e.symm hb)
theorem Bn.snocM {w1 w2:World}{B S eo so ei si c c':Nat}{A A':Option Addr}{its:List It}{hs:List (Option Addr × Nat)}(k:Bn w1 B eo so ei si A c its hs)(hS:∀ b,FR A hs b->b<S)(hB:B<=S){it:It}{A0:Option Addr}{c0:Nat}(own:AA w1 S ei si A0 it.n c0 it.xs)(out:AA w2 B eo so A' (its.length+1) c' (Bb its hs++Mt it (A0,c0)))(hg:w1.grownBy w2 (AD A))(hat:AD A'=AD A\/∃ g,AD A'=some g/\w1.heap.size<=g) :
  Bn w2 B eo so ei si A' c' (its++[it]) (hs++[(A0,c0)]):=by
 have key:∀ (i:Nat) (h:Option Addr × Nat),(hs++[(A0,c0)])[i]? = some h->(i<hs.length/\hs[i]? = some h)\/(i=hs.length/\h=(A0,c0)):=by
  intro i h hh;by_cases hik:i<hs.length
  ·rw[List.getElem?_append_left hik] at hh;exact .inl ⟨hik,hh⟩
  ·have h1:=(List.getElem?_eq_some_iff.1 hh).1;simp at h1
   obtain rfl:i=hs.length:=by omega
   rw[List.getElem?_append_right (Nat.le_refl _)] at hh;simp at hh
   exact .inr ⟨rfl,hh.symm⟩
 have old:∀ (i:Nat) (h:Option Addr × Nat),hs[i]? = some h->∀ b,AD h.1=some b->b<S:=fun i h hh b hb=>hS b (.inr ⟨h,List.mem_of_getElem? hh,hb⟩);refine⟨by simp[k.len],by simpa[JF _ _ k.len] using out,?_,?_,?_⟩
 ·intro i it' h hi hh;rcases key i h hh with ⟨hik,hh⟩ | ⟨rfl,rfl⟩
  ·rw[List.getElem?_append_left (by rw[<- k.len];exact hik)] at hi;have o1:=k.inn i it' h hi hh;exact o1.keep fun b hb=>hg.block b (o1.lt hb).2 (fun e=>k.dio i h hh b e.symm hb)
  ·rw[List.getElem?_append_right (by rw[k.len];exact Nat.le_refl _),k.len,Nat.sub_self] at hi;simp at hi
   subst hi;refine(own.keep fun b hb=>hg.block b (own.lt hb).2 (fun e=>?_)).mono hB;have h1:=(own.lt hb).1;have h2:=hS b (.inl e.symm);omega
 ·intro i j h h' hij hh hh' b hb hb';rcases key i h hh with ⟨_,hh⟩ | ⟨rfl,rfl⟩
  ·rcases key j h' hh' with ⟨_,hh'⟩ | ⟨rfl,rfl⟩
   ·exact k.dis i j h h' hij hh hh' b hb hb'
   ·have h1:=old i h hh b hb;have h2:=(own.lt hb').1;omega
  ·have:=(List.getElem?_eq_some_iff.1 hh').1;simp at this
   omega
 ·intro i h hh b hb hb';rcases hat with hat | ⟨g,hg',hle⟩
  ·rw[hat] at hb;rcases key i h hh with ⟨_,hh⟩ | ⟨rfl,rfl⟩
   ·exact k.dio i h hh b hb hb'
   ·have h1:=hS b (.inl hb);have h2:=(own.lt hb').1;omega
  ·rw[hg'] at hb;injection hb with hb;subst hb;rcases key i h hh with ⟨_,hh⟩ | ⟨rfl,rfl⟩
   ·have h1:=(k.lt (.inr ⟨h,List.mem_of_getElem? hh,hb'⟩)).2;omega
   ·have h1:=(own.lt hb').2;omega
structure GS (L R m:Nat) (w:World) (g:Sg.Ae) (Ag:Option Addr) (cg:Nat) (hs:List (Option Addr × Nat)) (n4:Nat) (A4:Option Addr) (c4:Nat) (W:World):Prop where
 nf:∀ n ∈ g,n.f.length<=30
 base:L=w.heap.size
 rl:R<L
 res:Bx W L [.slice none 0 0]
 box:Bx W (L+1) [.slice Ag g.length cg]
 own:GE W (L+2) Ag cg g hs
 fr:∃ l:List Int,l.length=n4/\AA W (L+2) 3 1 A4 n4 c4 (Ah l)
 dis:∀ b,AD A4=some b->¬ FR Ag hs b
 rdr:Lf W R m
 md:AH (fun b=>b=R) w W
section
variable {L R m n4 cg c4:Nat} {w W W':World} {g:Sg.Ae} {Ag A4:Option Addr} {hs:List (Option Addr × Nat)}
theorem GS.size (h:GS L R m w g Ag cg hs n4 A4 c4 W):L+2<=W.heap.size:=h.box.lt
theorem GS.pick {m':Nat}(h:GS L R m w g Ag cg hs n4 A4 c4 W)(hm:AH (fun b=>b=R) W W')(hr:Lf W' R m'):GS L R m' w g Ag cg hs n4 A4 c4 W':=by
 have hrl:=h.rl;obtain⟨l,h1,h2⟩:=h.fr
 exact⟨h.nf,h.base,h.rl,h.res.mod hm (by omega),h.box.mod hm (by omega),h.own.mod hm (fun b hb e=>by have:=(h.own.lt hb).1;omega),
  ⟨l,h1,h2.mod hm (fun b hb e=>by have:=(h2.lt hb).1;omega)⟩,h.dis,hr,h.md.tr' hm⟩
theorem GS.ext (h:GS L R m w g Ag cg hs n4 A4 c4 W)(e:Aa W W'):GS L R m w g Ag cg hs n4 A4 c4 W':=h.pick (AH.of e) (h.rdr.ext e)
theorem GS.more {m':Nat}(h:GS L R m w g Ag cg hs n4 A4 c4 W)(hm:m<=m'):GS L R m' w g Ag cg hs n4 A4 c4 W:=⟨h.nf,h.base,h.rl,h.res,h.box,h.own,h.fr,h.dis,h.rdr.more hm,h.md⟩
theorem GS.oth {F:Nat->Prop}(h:GS L R m w g Ag cg hs n4 A4 c4 W)(hm:AH F W W')(h0:∀ b,F b->L+2<=b)(h4:∀ b,F b->AD A4≠some b)(hf:∀ b,F b->¬ FR Ag hs b):GS L R m w g Ag cg hs n4 A4 c4 W':=by
 have hrl:=h.rl;have hba:=h.base;obtain⟨l,h1,h2⟩:=h.fr
 exact⟨h.nf,h.base,h.rl,h.res.mod hm (fun e=>by have:=h0 _ e;omega),h.box.mod hm (fun e=>by have:=h0 _ e;omega),h.own.mod hm (fun b hb e=>hf b e hb),
  ⟨l,h1,h2.mod hm (fun b hb e=>h4 b e hb)⟩,h.dis,h.rdr.mod hm (fun b e=>by have:=h0 b e;omega),h.md.tr hm (fun b e=>.inr (by have:=h0 b e;omega))⟩
theorem GS.lt4 (h:GS L R m w g Ag cg hs n4 A4 c4 W){b:Nat}(hb:AD A4=some b):L+2<=b/\b<W.heap.size:=by
 obtain⟨l,h1,h2⟩:=h.fr;exact h2.lt hb
theorem GS.room (h:GS L R m w g Ag cg hs n4 A4 c4 W):n4<=c4/\c4<=maxLen:=by
 obtain⟨l,h1,h2⟩:=h.fr;exact⟨h2.2.1,h2.2.2.1⟩
theorem GS.free {A':Option Addr}{c':Nat}{l:List Int}(h:GS L R m w g Ag cg hs n4 A4 c4 W)(x:Int)(ho:AA W' (L+2) 3 1 A' (n4+1) c' (Ah l++[.int .i64 x]))(hl:l.length=n4)(hg:W.grownBy W' (AD A4))(hat:AD A'=AD A4\/∃ g,AD A'=some g/\W.heap.size<=g):GS L R m w g Ag cg hs (n4+1) A' c' W':=by
 have hlt:=fun b hb=>h.lt4 (b:=b) hb;have hrl:=h.rl;have hba:=h.base;rw[ints_snoc] at ho
 refine⟨h.nf,h.base,h.rl,h.res.gr hg (fun e=>by have:=(hlt _ e).1;omega),h.box.gr hg (fun e=>by have:=(hlt _ e).1;omega),h.own.gr hg (fun b e=>h.dis b e),⟨l++[x],by simp[hl],ho⟩,?_,
  h.rdr.gr hg (fun b hb=>by have:=(hlt b hb).1;omega),h.md.gr hg (fun b hb=>.inr (by have:=(hlt b hb).1;omega))⟩
 intro b hb hb';rcases hat with hat | ⟨g,hg',hle⟩
 ·rw[hat] at hb;exact h.dis b hb hb'
 ·rw[hg'] at hb;injection hb with hb;subst hb;have:=(h.own.lt hb').2;omega
structure GP (L N:Nat) (kd:Int) (f:List Sg.At) (Af:Option Addr) (cf:Nat) (Ag:Option Addr) (hs:List (Option Addr × Nat)) (A4:Option Addr) (W:World):Prop where
 n1:∀ b,FR Ag hs b->b<N
 n2:∀ b,AD A4=some b->b<N
 n3:L+2<=N
 bx:Bx W N [.int .i64 kd,.slice Af f.length cf]
 own:AA W (N+1) 111 5 Af f.length cf (AL f)
 le:f.length<=30
theorem GS.node {N c' cf:Nat}{A' Af:Option Addr}{kd:Int}{f:List Sg.At}(h:GS L R m w g Ag cg hs n4 A4 c4 W)(hP:GP L N kd f Af cf Ag hs A4 W)(ho:AA W' (L+2) 70 2 A' (g.length+1) c' (Bb (Dg g) hs++[.int .i64 kd,.slice Af f.length cf]))(hg:W.grownBy W' (AD Ag))(hat:AD A'=AD Ag\/∃ g,AD A'=some g/\W.heap.size<=g) :
  GS L R m w (g++[⟨kd,f⟩]) A' c' (hs++[(Af,cf)]) n4 A4 c4 (W'.setCell ⟨L+1,0,none⟩ (.slice A' (g.length+1) c'))/\Bx (W'.setCell ⟨L+1,0,none⟩ (.slice A' (g.length+1) c')) N [.int .i64 kd,.slice Af f.length cf]:=by
 have hlt:=fun b hb=>h.own.out.lt (g:=b) hb;have hn3:=hP.n3;have hrl:=h.rl;have hba:=h.base;have hAg:∀ b,AD Ag=some b->b<N:=fun b hb=>hP.n1 b (.inl hb);have g5:=h.res.gr hg (fun e=>by have:=(hlt _ e).1;omega);have g6:=h.box.gr hg (fun e=>by have:=(hlt _ e).1;omega);have gN:=hP.bx.gr hg (fun e=>by have:=hAg _ e;omega);obtain⟨l,h1,h2⟩:=h.fr;have g8:=Nj h2 hg (fun b hb e=>h.dis b e (.inl hb));have g10:=h.rdr.gr hg (fun b hb=>by have:=(hlt b hb).1;omega);have g11:=h.md.gr hg (fun b hb=>.inr (by have:=(hlt b hb).1;omega));have hsn:=h.own.snocM (S:=N+1) (it:=⟨[.int .i64 kd],f.length,AL f⟩) (fun b hb=>by have:=hP.n1 b hb;omega) (by omega) hP.own (by simpa[Mt] using ho) hg hat;have hits:Dg (g++[⟨kd,f⟩])=Dg g++[⟨[.int .i64 kd],f.length,AL f⟩]:=by simp[Dg]
 rw[<- hits] at hsn;have hbel:GE (W'.setCell ⟨L+1,0,none⟩ (.slice A' (g.length+1) c')) (L+2) A' c' (g++[⟨kd,f⟩]) (hs++[(Af,cf)]):=Bn.below hsn (by show L+1<L+2;omega) _;refine⟨⟨?_,h.base,h.rl,g5.oth (show L+1≠L by omega) _,?_,hbel,⟨l,h1,g8.set (fun e=>by have:=(g8.lt e).1;simp at this) _⟩,?_,?_,?_⟩,gN.oth (show L+1≠N by omega) _⟩
 ·intro n hn;rcases List.mem_append.1 hn with hn | hn
  ·exact h.nf n hn
  ·simp at hn;subst hn;exact hP.le
 ·have:=g6.set 0 (.slice A' (g.length+1) c');simpa using this
 ·intro b hb hb';have hbN:=hP.n2 b hb;have hbW:=(h2.lt hb).2;rcases hb' with hb' | ⟨x,hx,hb'⟩
  ·rcases hat with hat | ⟨q,hq,hle⟩
   ·rw[hat] at hb';exact h.dis b hb (.inl hb')
   ·rw[hq] at hb';injection hb' with hb';omega
  ·rcases List.mem_append.1 hx with hx | hx
   ·exact h.dis b hb (.inr ⟨x,hx,hb'⟩)
   ·simp at hx
    subst hx;have:=(hP.own.lt hb').1;omega
 ·exact g10.mod (F:=fun b=>b=L+1) (AH.set (F:=fun b=>b=L+1) (AH.rfl' (fun b=>b=L+1) W') (p:=⟨L+1,0,none⟩) (.inl rfl) _) (fun b e=>by omega)
 ·exact g11.set (p:=⟨L+1,0,none⟩) (.inr (show w.heap.size<=L+1 by omega)) _
end
def GG (L R m:Nat)(w:World)(k n4:Nat)(A4:Option Addr)(c4:Nat)(W:World):Prop:=∃ (g:Sg.Ae) (Ag:Option Addr) (cg:Nat) (hs:List (Option Addr × Nat)),g.length=k/\GS L R m w g Ag cg hs n4 A4 c4 W
def GN (L R m:Nat)(w:World)(N k n4:Nat)(A4:Option Addr)(c4:Nat)(kd:Int)(fin:Bool)(W:World):Prop :=
 ∃ (g:Sg.Ae) (Ag:Option Addr) (cg:Nat) (hs:List (Option Addr × Nat)) (f:List Sg.At) (Af:Option Addr) (cf:Nat),g.length=k/\GS L R m w g Ag cg hs n4 A4 c4 W/\GP L N kd f Af cf Ag hs A4 W/\(fin=false->f=[]/\Af=none/\cf=0)
section
variable {L R m N k n4 c4:Nat} {w W W':World} {A4:Option Addr} {kd:Int} {fin:Bool}
theorem GG.size (h:GG L R m w k n4 A4 c4 W):L+2<=W.heap.size:=by obtain⟨_,_,_,_,_,h⟩:=h;exact h.size
theorem GG.rl (h:GG L R m w k n4 A4 c4 W):R<L:=by obtain⟨_,_,_,_,_,h⟩:=h;exact h.rl
theorem GG.more {m':Nat}(h:GG L R m w k n4 A4 c4 W)(hm:m<=m'):GG L R m' w k n4 A4 c4 W:=by obtain⟨a,b,c,d,e,h⟩:=h;exact⟨a,b,c,d,e,h.more hm⟩
theorem GN.start (h:GG L R m w k n4 A4 c4 W)(t:Nat):GN L R m w W.heap.size k n4 A4 c4 0 false (W.alloc (.cells #[.int .i64 0,.slice none 0 0] t)):=by
 obtain⟨g,Ag,cg,hs,h1,h⟩:=h;exact⟨g,Ag,cg,hs,[],none,0,h1,h.ext ((Aa.rfl' _).al _),⟨fun b hb=>(h.own.lt hb).2,fun b hb=>(h.lt4 hb).2,h.size,Bx.new W _ t,AA.nil _ _ _ _,by simp⟩,fun _=>⟨rfl,rfl,rfl⟩⟩
theorem GN.pick {m':Nat}(h:GN L R m w N k n4 A4 c4 kd fin W)(hm:AH (fun b=>b=R) W W')(hr:Lf W' R m'):GN L R m' w N k n4 A4 c4 kd fin W':=by
 obtain⟨g,Ag,cg,hs,f,Af,cf,h1,h,hP,hz⟩:=h;have:=h.rl;have:=hP.n3;exact⟨g,Ag,cg,hs,f,Af,cf,h1,h.pick hm hr,⟨hP.n1,hP.n2,hP.n3,hP.bx.mod hm (by omega),hP.own.mod hm (fun b hb e=>by have:=(hP.own.lt hb).1;omega),hP.le⟩,hz⟩
theorem GN.ext (h:GN L R m w N k n4 A4 c4 kd fin W)(e:Aa W W'):GN L R m w N k n4 A4 c4 kd fin W':=h.pick (AH.of e) (by obtain⟨_,_,_,_,_,_,_,_,h,_⟩:=h;exact h.rdr.ext e)
theorem GN.rdr (h:GN L R m w N k n4 A4 c4 kd fin W):Lf W R m:=by obtain⟨_,_,_,_,_,_,_,_,h,_⟩:=h;exact h.rdr
theorem GN.md (h:GN L R m w N k n4 A4 c4 kd fin W):AH (fun b=>b=R) w W:=by obtain⟨_,_,_,_,_,_,_,_,h,_⟩:=h;exact h.md
theorem GN.rl (h:GN L R m w N k n4 A4 c4 kd fin W):R<L/\L+2<=N/\N<W.heap.size:=by obtain⟨_,_,_,_,_,_,_,_,h,hP,_⟩:=h;exact⟨h.rl,hP.n3,hP.bx.lt⟩
theorem GN.whole (h:GN L R m w N k n4 A4 c4 kd fin W):GN L R m w N k n4 A4 c4 kd true W:=by
 obtain⟨g,Ag,cg,hs,f,Af,cf,h1,h,hP,hz⟩:=h;exact⟨g,Ag,cg,hs,f,Af,cf,h1,h,hP,by simp⟩
theorem GN.more {m':Nat}(h:GN L R m w N k n4 A4 c4 kd fin W)(hm:m<=m'):GN L R m' w N k n4 A4 c4 kd fin W:=by
 obtain⟨g,Ag,cg,hs,f,Af,cf,h1,h,hP,hz⟩:=h;exact⟨g,Ag,cg,hs,f,Af,cf,h1,h.more hm,hP,hz⟩
theorem GN.c0 (h:GN L R m w N k n4 A4 c4 kd fin W):W.cell? ⟨N,0,none⟩=some (.int .i64 kd)/\∀ j,W.frozen? ⟨N,j,none⟩=false:=by
 obtain⟨_,_,_,_,_,_,_,_,h,hP,_⟩:=h;exact⟨hP.bx.cell (j:=0) rfl,fun j=>hP.bx.free j⟩
theorem GN.c1 (h:GN L R m w N k n4 A4 c4 kd false W):W.cell? ⟨N,1,none⟩=some (.slice none 0 0):=by
 obtain⟨_,_,_,_,f,Af,cf,_,h,hP,hz⟩:=h;obtain⟨rfl,rfl,rfl⟩:=hz rfl;exact hP.bx.cell (j:=1) rfl
theorem GN.kind (h:GN L R m w N k n4 A4 c4 kd false W)(x:Int):GN L R m w N k n4 A4 c4 x false (W.setCell ⟨N,0,none⟩ (.int .i64 x)):=by
 obtain⟨g,Ag,cg,hs,f,Af,cf,h1,h,hP,hz⟩:=h;have hn:=hP.n3;have hm:AH (fun b=>b=N) W (W.setCell ⟨N,0,none⟩ (.int .i64 x)):=AH.set (F:=fun b=>b=N) (AH.rfl' (fun b=>b=N) W) (p:=⟨N,0,none⟩) (.inl rfl) _;have hb:=hP.bx.set 0 (.int .i64 x);simp only[List.set_cons_zero] at hb;exact⟨g,Ag,cg,hs,f,Af,cf,h1,h.oth hm (fun b e=>by omega) (fun b e e'=>by have:=hP.n2 b e';omega) (fun b e e'=>by have:=hP.n1 b e';omega),⟨hP.n1,hP.n2,hP.n3,hb,hP.own.set (fun e=>absurd (hP.own.lt e).1 (show ¬ (N+1<=N) by omega)) _,hP.le⟩,hz⟩
theorem GN.form {W1:World}{m':Nat}(h:GN L R m w N k n4 A4 c4 kd false W)(hm:AH (fun b=>b=R) W W1)(hr:Lf W1 R m'){f:List Sg.At}{Af:Option Addr}{cf:Nat}(ho:AA W1 W.heap.size 111 5 Af f.length cf (AL f))(hf:f.length<=30) :
  GN L R m' w N k n4 A4 c4 kd true (W1.setCell ⟨N,1,none⟩ (.slice Af f.length cf)):=by
 have hN:=h.rl.2.2;obtain⟨g,Ag,cg,hs,f0,Af0,cf0,h1,h,hP,hz⟩:=h.pick hm hr;have hn:=hP.n3;have hm:AH (fun b=>b=N) W1 (W1.setCell ⟨N,1,none⟩ (.slice Af f.length cf)):=AH.set (F:=fun b=>b=N) (AH.rfl' (fun b=>b=N) W1) (p:=⟨N,1,none⟩) (.inl rfl) _;have hb:=hP.bx.set 1 (.slice Af f.length cf);simp only[List.set_cons_succ,List.set_cons_zero] at hb;have ho2:=ho.mono (B':=N+1) hN;exact⟨g,Ag,cg,hs,f,Af,cf,h1,h.oth hm (fun b e=>by omega) (fun b e e'=>by have:=hP.n2 b e';omega) (fun b e e'=>by have:=hP.n1 b e';omega),⟨hP.n1,hP.n2,hP.n3,hb,ho2.set (fun e=>absurd (ho2.lt e).1 (show ¬ (N+1<=N) by omega)) _,hf⟩,by simp⟩
theorem GN.free (h:GN L R m w N k n4 A4 c4 kd fin W):∃ l:List Int,l.length=n4/\AA W (L+2) 3 1 A4 n4 c4 (Ah l):=by obtain⟨_,_,_,_,_,_,_,_,h,_⟩:=h;exact h.fr
end
theorem Rd.tail {w:World}{b o n:Nat}{l:List Int}(h:Rd w 1 (some ⟨b,o,none⟩) n (Ah l))(i:Nat)(hi:i<=n):Rd w 1 (some ⟨b,o+i,none⟩) (n - i) (Ah (l.drop i)):=by
 have hl:=h.len;refine⟨by simp;omega,by have:=h.2.1;omega,fun h0=>?_⟩;obtain⟨b0,o0,ha,hc⟩:=h.2.2 (by omega);simp only[Option.some.injEq,Addr.mk.injEq,and_true] at ha;obtain⟨rfl,rfl⟩:=ha;refine⟨b,o+i,rfl,fun j u hu=>?_⟩;rw[<- SF,List.getElem?_drop] at hu;rw[Nat.add_assoc];exact hc (i+j) u hu
theorem GG.start {R m:Nat}{w:World}(h:Lf w R m):GG w.heap.size R m w 0 0 (some ⟨w.heap.size+1+1,0,none⟩) 0 (World.alloc (World.alloc (World.alloc (World.alloc w (.cells #[.slice none 0 0] 35)) (.cells #[.slice none 0 0] 35)) (.cells #[] 3)) (.cells #[.int .i64 6,.int .i64 5,.int .i64 7,.int .i64 8,.int .i64 4,.int .i64 10,.int .i64 2] 3)):=by
 have hR:=h.lt;have b0:=((Bx.new w #[.slice none 0 0] 35).al (.cells #[.slice none 0 0] 35)).al (.cells #[] 3) |>.al (.cells #[.int .i64 6,.int .i64 5,.int .i64 7,.int .i64 8,.int .i64 4,.int .i64 10,.int .i64 2] 3);have b1:=((Bx.new (World.alloc w (.cells #[.slice none 0 0] 35)) #[.slice none 0 0] 35).al (.cells #[] 3)).al (.cells #[.int .i64 6,.int .i64 5,.int .i64 7,.int .i64 8,.int .i64 4,.int .i64 10,.int .i64 2] 3);have o1:=(AA.new (World.alloc (World.alloc w (.cells #[.slice none 0 0] 35)) (.cells #[.slice none 0 0] 35)) (B:=w.heap.size+2) 3 1 #[] 0 (by simp) (by unfold maxLen;omega) rfl).al (.cells #[.int .i64 6,.int .i64 5,.int .i64 7,.int .i64 8,.int .i64 4,.int .i64 10,.int .i64 2] 3);simp only[World.size_alloc] at b1 o1;have e1:Aa w (World.alloc (World.alloc (World.alloc (World.alloc w (.cells #[.slice none 0 0] 35)) (.cells #[.slice none 0 0] 35)) (.cells #[] 3)) (.cells #[.int .i64 6,.int .i64 5,.int .i64 7,.int .i64 8,.int .i64 4,.int .i64 10,.int .i64 2] 3)):=((((Aa.rfl' w).al _).al _).al _).al _;exact⟨[],none,0,[],rfl,by simp,rfl,hR,b0,b1,Bn.nil _ _ _ _ _ _,⟨[],rfl,o1⟩,(by intro b hb hb';rcases hb' with hb' | ⟨x,hx,_⟩ <;> simp_all [AD]),h.ext e1,AH.of e1⟩
section
variable {w w1:World} {B c b S:Nat} {g:Sg.Ae} {hs:List (Option Addr × Nat)}
end
structure T7 (B R:Nat) (A:Option Addr) (c:Nat) (g:Sg.Ae) (hs:List (Option Addr × Nat)) (W:World):Prop where
 own:GE W B A c g hs
 lo:2<=g.length
 hi:g.length<=10
 nf:∀ n ∈ g,n.f.length<=30
theorem T7.mod {B R c:Nat}{A:Option Addr}{g:Sg.Ae}{hs:List (Option Addr × Nat)}{F:Nat->Prop}{W W':World}(h:T7 B R A c g hs W)(hm:AH F W W')(hF:∀ b,F b->b<B):T7 B R A c g hs W' :=
 ⟨h.own.mod hm (fun b hb e=>by have:=(h.own.lt hb).1;have:=hF b e;omega),h.lo,h.hi,h.nf⟩
theorem T7.ext {B R c:Nat}{A:Option Addr}{g:Sg.Ae}{hs:List (Option Addr × Nat)}{W W':World}(h:T7 B R A c g hs W)(e:Aa W W'):T7 B R A c g hs W':=h.mod (F:=fun _=>False) (AH.of e) (fun _=>False.elim)
theorem T7.rd {B R c:Nat}{A:Option Addr}{g:Sg.Ae}{hs:List (Option Addr × Nat)}{W:World}(h:T7 B R A c g hs W):Eg W A g:=h.own.rdN (by have:=h.hi;omega) (fun n hn=>by have:=h.nf n hn;omega)
theorem T7.mono {B B' R c:Nat}{A:Option Addr}{g:Sg.Ae}{hs:List (Option Addr × Nat)}{W:World}(h:T7 B R A c g hs W)(hB:B'<=B):T7 B' R A c g hs W:=⟨h.own.mono hB,h.lo,h.hi,h.nf⟩
end Go.Proofs.YthibllkleakiiaaGreatDoor
