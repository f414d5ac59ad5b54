/- Parts of one proof, joined. What the arguments of the laws read as: graphs, states, lists, and more. Conditions: in the theorems. -/
import Derived.Deep.Slices
import Derived.Deep.Fields
import Derived.ChangeSame
import Derived.KernelRfl
import Derived.Test.YthibllkleakiiaaGreatDoorRows
import Derived.JoinedOf
import Derived.ProofKit
import Derived.Test.YthibllkleakiiaaGreatDoorImplA1
namespace Go.Proofs.YthibllkleakiiaaGreatDoor
open Go.RowKit Go.ChangeShapes Go.WideShapes Go.Deep
theorem Ig {α:Type}(n:Nat)(Q:Nat->α->Prop)(h:∀ i,i<n->∃ x,Q i x):∃ l:List α,l.length=n/\∀ i x,l[i]? = some x->Q i x:=by
 induction n with
 | zero=>exact⟨[],rfl,by simp⟩
 | succ n ih =>
  obtain⟨l,hl,hQ⟩:=ih (fun i hi=>h i (by omega));obtain⟨x,hx⟩:=h n (by omega);refine⟨l++[x],by simp[hl],fun i y hy=>?_⟩;by_cases hi:i<n
  ·rw[List.getElem?_append_left (by omega)] at hy;exact hQ i y hy
  ·have h1:=(ge_.1 hy).1;simp at h1
   obtain rfl:i=n:=by omega
   rw[List.getElem?_append_right (by omega),hl] at hy;simp at hy
   subst hy;exact hx
section
variable {H:Type} {enc:TypeId × Value->H} {P:Program} {w:World} {base:Nat} {spare:Nat->Bool} {held:Bool}
theorem Yu {t:TypeId}{fs:Array Field}{fuel:Nat}{cs:List Value}{x:DataW H × List MemPlace}(hs:P.underlying t=some (.struct fs))(hone:oneCellFields P fs=true)(hC:P.cellsOf t=fs.size)(h:DataW.trod enc P w base spare held fuel t cs=some x) :
  cs.length=fs.size/\∃ n,∀ (j:Nat) (f:Field),fs[j]? = some f->∃ v y,cs[j]? = some v/\DataW.trod enc P w base spare held n f.type [v]=some y:=by
 obtain⟨ys,n,_,_,hcl,hyl,hf⟩:=DataW.trod_struct hs h;refine⟨by rw[hcl,hC],n,fun j f hj=>?_⟩;obtain⟨ho,hk⟩:=hone_of hone j f hj;have hjl:j<fs.size:=(Array.getElem?_eq_some_iff.1 hj).1;have hv:cs[j]? = some (cs[j]'(by omega)):=gg (by omega);have h1:=hf j f hj;rw[ho,hk] at h1
 have hone':(cs.drop j).take 1=[cs[j]'(by omega)]:=by
  rw[List.drop_eq_getElem_cons (by omega)];rfl
 rw[hone'] at h1;have hys:ys[j]? = some (ys[j]'(by omega)):=gg (by omega);exact⟨_,_,hv,h1.trans hys⟩
theorem Kx {t e:TypeId}{s fuel:Nat}{cs:List Value}{x:DataW H × List MemPlace}(ht:P.underlying t=some (.slice e))(hc:P.cellsOf e=s)(h0:0<s)(h:DataW.trod enc P w base spare held fuel t cs=some x) :
  ∃ (A:Option Addr) (len cap n:Nat),cs=[.slice A len cap]/\len<=maxLen/\∀ i,i<len->∃ b o cs' y,A=some ⟨b,o,none⟩/\cs'.length=s/\(∀ j u,cs'[j]? = some u->w.cell? ⟨b,o+(i * s+j),none⟩=some u)/\DataW.trod enc P w base spare held n e cs'=some y:=by
 rcases open_slice ht h with ⟨rfl,_⟩ | ⟨a,len,cap,m,n,D,Pl,rfl,_,hl,hm,hmm,_,hi⟩
 ·exact⟨none,0,0,0,rfl,by unfold maxLen;omega,fun i hi=>by omega⟩
 ·refine⟨some a,len,cap,n,rfl,Nat.le_trans hl hm,fun i hil=>?_⟩;have him:i<m:=by rw[hmm];split <;> omega
  obtain⟨cs',hcs,ht'⟩:=hi i him;rw[hc] at hcs;obtain⟨_,hlen,hat⟩:=World.cells?_some hcs
  have hat':∀ j u,cs'[j]? = some u->w.cell? (a.add (i * s+j))=some u:=by
   intro j u hu;have hj:j<s:=by rw[<- hlen];exact(ge_.1 hu).1
   have:=hat j hj;rw[hu] at this;rw[<- this];congr 1
   unfold Addr.add;by_cases h1:i * s=0 <;> by_cases h2:j=0 <;> simp[h1,h2,Nat.add_assoc]
  have hsp:a.spot=none:=by
   obtain⟨cs0,hcs0,_⟩:=hi 0 (by omega);rw[hc] at hcs0;obtain⟨_,hlen0,hat0⟩:=World.cells?_some hcs0;have hu0:cs0[0]? = some (cs0[0]'(by omega)):=gg (by omega);have:=hat0 0 h0;rw[hu0] at this;have e:(a.add (0 * s)).add 0=a:=by unfold Addr.add;simp
   rw[e] at this;exact World.cell?_spot this
  obtain⟨b,o,sp⟩:=a;simp only at hsp;subst hsp;exact⟨b,o,cs',_,rfl,hlen,fun j u hu=>by have:=hat' j u hu;rwa [Xq] at this,ht'⟩
end
section
variable {H:Type} {enc:TypeId × Value->H} {w:World} {base:Nat} {spare:Nat->Bool} {held:Bool}
theorem Xz {n:Nat}{cs:List Value}{x:DataW H × List MemPlace}(h:DataW.trod enc Tryz.prog w base spare held n 3 cs=some x):∃ z:Int,cs=[.int .i64 z]:=by
 obtain⟨z,hz,_⟩:=DataW.trod_int Tryz.underlying3 h;exact⟨z,hz⟩
theorem Tc {n:Nat}{cs:List Value}{x:DataW H × List MemPlace}(h:DataW.trod enc Tryz.prog w base spare held n 36 cs=some x):∃ (A:Option Addr) (c:Nat) (l:List Int),cs=[.slice A l.length c]/\Rd w 1 A l.length (Ah l):=by
 obtain⟨A,len,cap,m,rfl,hm,hi⟩:=Kx Tryz.underlying36 (show Tryz.prog.cellsOf 3=1 by kernel_rfl) (by omega) h
 obtain⟨l,hl,hQ⟩:=Ig len (fun i z=>∃ b o,A=some ⟨b,o,none⟩/\w.cell? ⟨b,o+i,none⟩=some (.int .i64 z)) (fun i hil=>by
  obtain⟨b,o,cs',y,ha,_,hat,ht⟩:=hi i hil;obtain⟨z,rfl⟩:=Xz ht;exact⟨z,b,o,ha,by have:=hat 0 _ rfl;simpa using this⟩)
 subst hl;refine⟨A,cap,l,rfl,by simp,hm,fun h0=>?_⟩;have hp:0<l.length:=by omega
 obtain⟨b,o,ha,_⟩:=hQ 0 _ (gg hp);refine⟨b,o,ha,fun j u hu=>?_⟩;rw[CB] at hu;cases hj:l[j]? with
 | none=>simp[hj] at hu
 | some z =>
  simp[hj] at hu
  subst hu;obtain⟨b',o',ha',hc⟩:=hQ j z hj;rw[ha] at ha';simp only[Option.some.injEq,Addr.mk.injEq,and_true] at ha';obtain⟨rfl,rfl⟩:=ha';exact hc
theorem YJ {n:Nat}{cs:List Value}{x:DataW H × List MemPlace}(h:DataW.trod enc Tryz.prog w base spare held n 39 cs=some x):∃ (A:Option Addr) (c:Nat) (ll:List (List Int)),cs=[.slice A ll.length c]/\T7 w A ll:=by
 obtain⟨A,len,cap,m,rfl,hm,hi⟩:=Kx Tryz.underlying39 (show Tryz.prog.cellsOf 36=1 by kernel_rfl) (by omega) h
 obtain⟨l,hl,hQ⟩:=Ig len (fun i (l:List Int)=>∃ b o Al cl,A=some ⟨b,o,none⟩/\w.cell? ⟨b,o+i,none⟩=some (.slice Al l.length cl)/\Rd w 1 Al l.length (Ah l)) (fun i hil=>by
  obtain⟨b,o,cs',y,ha,hlen,hat,ht⟩:=hi i hil;obtain⟨Al,cl,l,rfl,hr⟩:=Tc ht;refine⟨l,b,o,Al,cl,ha,?_,hr⟩;have:=hat 0 _ rfl;simpa using this)
 subst hl;exact⟨A,cap,l,rfl,hm,hQ⟩
variable {r:Reach} {b0:Nat} {v:Value} {d:DataW H} {ps:List MemPlace}
set_option maxRecDepth 100000 in
theorem YK (hw:Value.okWide Tryz.prog w r b0 36 v)(h:DataW.Trod enc Tryz.prog w base spare held 36 v d ps):∃ (A:Option Addr) (c:Nat) (l:List Int),v= .slice A l.length c/\Rd w 1 A l.length (Ah l):=by
 obtain⟨A0,n0,c0,rfl⟩:=okWide_slice Tryz.underlying36 hw;obtain⟨fuel,hf⟩:=h;obtain⟨A,c,l,hc,hr⟩:=Tc hf;simp only[Value.cells,List.cons.injEq,Value.slice.injEq,and_true] at hc;obtain⟨rfl,rfl,rfl⟩:=hc;exact⟨_,_,l,rfl,hr⟩
end
open Go.RowKit Go.ChangeShapes Go.WideShapes Go.Deep
section
variable {H:Type} {enc:TypeId × Value->H} {w:World} {base:Nat} {spare:Nat->Bool} {held:Bool}
theorem YL {n:Nat}{cs:List Value}{x:DataW H × List MemPlace}(h:DataW.trod enc Tryz.prog w base spare held n 5 cs=some x):∃ z:Int,cs=[.int .u8 z]/\0<=z/\z<=255:=by
 obtain⟨z,hz,_,hw⟩:=DataW.trod_int Tryz.underlying5 h;refine⟨z,hz,?_⟩;simp only[Lit.wf,Bool.and_eq_true,decide_eq_true_eq] at hw;simp[IntKind.min,IntKind.max,IntKind.signed,IntKind.bits] at hw
 omega
theorem Vf {n:Nat}{cs:List Value}{x:DataW H × List MemPlace}(h:DataW.trod enc Tryz.prog w base spare held n 28 cs=some x):∃ (A:Option Addr) (c:Nat) (l:List Int),cs=[.slice A l.length c]/\Rd w 1 A l.length (Vc l)/\(∀ x ∈ l,0<=x/\x<=255)/\l.length<=c/\c<=maxLen:=by
 have hcap:∃ A len cap,cs=[.slice A len cap]/\len<=cap/\cap<=maxLen:=by
  rcases open_slice Tryz.underlying28 h with ⟨rfl,_⟩ | ⟨a,len,cap,m,n,D,Pl,rfl,_,hl,hm,hmm,_,hi⟩
  ·exact⟨none,0,0,rfl,Nat.le_refl _,by unfold maxLen;omega⟩
  ·exact⟨some a,len,cap,rfl,hl,hm⟩
 obtain⟨A,len,cap,m,rfl,hm,hi⟩:=Kx Tryz.underlying28 (show Tryz.prog.cellsOf 5=1 by kernel_rfl) (by omega) h;obtain⟨A1,len1,cap1,he,h1,h2⟩:=hcap;simp only[List.cons.injEq,Value.slice.injEq,and_true] at he;obtain⟨rfl,rfl,rfl⟩:=he
 obtain⟨l,hl,hQ⟩:=Ig len (fun i z=>(∃ b o,A=some ⟨b,o,none⟩/\w.cell? ⟨b,o+i,none⟩=some (.int .u8 z))/\0<=z/\z<=255) (fun i hil=>by
  obtain⟨b,o,cs',y,ha,_,hat,ht⟩:=hi i hil;obtain⟨z,rfl,hz⟩:=YL ht;exact⟨z,⟨b,o,ha,by have:=hat 0 _ rfl;simpa using this⟩,hz⟩)
 subst hl;refine⟨A,cap,l,rfl,⟨by simp,hm,fun h0=>?_⟩,fun x hx=>?_,h1,h2⟩
 ·have hp:0<l.length:=by omega
  obtain⟨⟨b,o,ha,_⟩,_⟩:=hQ 0 _ (gg hp);refine⟨b,o,ha,fun j u hu=>?_⟩;rw[K3] at hu;cases hj:l[j]? with
  | none=>simp[hj] at hu
  | some z =>
   simp[hj] at hu
   subst hu;obtain⟨⟨b',o',ha',hc⟩,_⟩:=hQ j z hj;rw[ha] at ha';simp only[Option.some.injEq,Addr.mk.injEq,and_true] at ha';obtain⟨rfl,rfl⟩:=ha';exact hc
 ·obtain⟨i,hx⟩:=List.getElem?_of_mem hx;exact(hQ i x hx).2
variable {r:Reach} {b0:Nat} {v:Value} {d:DataW H} {ps:List MemPlace}
set_option maxRecDepth 100000 in
theorem Ue (hw:Value.okWide Tryz.prog w r b0 28 v)(h:DataW.Trod enc Tryz.prog w base spare held 28 v d ps):∃ (A:Option Addr) (c:Nat) (l:List Int),v= .slice A l.length c/\Rd w 1 A l.length (Vc l)/\(∀ x ∈ l,0<=x/\x<=255)/\l.length<=c/\c<=maxLen:=by
 obtain⟨A0,n0,c0,rfl⟩:=okWide_slice Tryz.underlying28 hw;obtain⟨fuel,hf⟩:=h;obtain⟨A,c,l,hc,hr⟩:=Vf hf;simp only[Value.cells,List.cons.injEq,Value.slice.injEq,and_true] at hc;obtain⟨rfl,rfl,rfl⟩:=hc;exact⟨_,_,l,rfl,hr⟩
end
open Go.ChangeShapes Go.WideShapes Go.ChangeAt Go.RowKit
theorem p2:(laidOutB Tryz.prog)=true:=by kernel_rfl
theorem p3:(mapsRowed Tryz.prog)=true:=by kernel_rfl
theorem p7:((Tryz.prog.stops == []))=true:=by kernel_rfl
theorem p9:((Tryz.prog.stopKnobs == []))=true:=by kernel_rfl
theorem Zy:((Rows.fnExactRunDeskRow.plainKeys == Tryz.prog.plainKeys))=true:=by kernel_rfl
theorem Zz:(Tryz.prog.stopsHeard)=true:=by kernel_rfl
theorem ZA:(Tryz.prog.mayEnter)=true:=by kernel_rfl
theorem ZB:((Rows.fnExactRunDeskRow.lifted == Tryz.prog.liftsFinal))=true:=by kernel_rfl
theorem ZC:((Tryz.prog.make == some Rows.fnExactRunDeskRow.make))=true:=by kernel_rfl
end Go.Proofs.YthibllkleakiiaaGreatDoor
