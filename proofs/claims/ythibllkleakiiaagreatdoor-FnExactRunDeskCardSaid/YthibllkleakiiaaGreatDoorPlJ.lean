/- Parts of one proof, joined. Own graphs among own things: a node more. Conditions: none. -/
import Derived.Laws.Strings3
import Derived.Test.YthibllkleakiiaaGreatDoorPlX
import Derived.Test.YthibllkleakiiaaGreatDoorSepAll
import Derived.Test.YthibllkleakiiaaGreatDoorModelsA
namespace Go.Proofs.YthibllkleakiiaaGreatDoor
open Go.RowKit
abbrev tx (s:ByteArray):Sg.AR:=s.data.toList
abbrev ts (l:Sg.AR):ByteArray:=⟨l.toArray⟩
theorem FU (l:Sg.AR):tx (ts l)=l:=rfl
theorem RG (s:ByteArray):ts (tx s)=s:=by cases s;rfl
theorem L1 {a b:ByteArray}(h:tx a=tx b):a=b:=by rw[<- RG a,<- RG b,h]
theorem DR (s:ByteArray):s.size=(tx s).length:=by cases s;rfl
theorem B9 (l:Sg.AR):(ts l).size=l.length:=rfl
theorem Wb (a b:ByteArray):tx (a++b)=tx a++tx b:=by simp[tx,ByteArray.data_append]
theorem QN (s:ByteArray)(i j:Nat):tx (s.extract i j)=((tx s).drop i).take (j - i):=by simp[tx,ByteArray.data_extract]
theorem Rv (s:ByteArray)(i:Nat):s[i]? = (tx s)[i]? := by
 by_cases h:i<s.size
 ·rw[ByteArray.getElem?_lt' s i h];have h2:i<(tx s).length:=by rw[<- DR];exact h
  rw[List.getElem?_eq_getElem h2];rfl
 ·rw[ByteArray.getElem?_ge' s i h,List.getElem?_eq_none (by rw[<- DR];omega)]
theorem WX (s:ByteArray):s.toList=tx s:=ByteArray.toList_eq s
theorem D7 (a b:Sg.AR):ts a++ts b=ts (a++b):=L1 (Wb _ _)
theorem Kt {a b:Sg.AR}:ts a=ts b↔a=b:=⟨fun h=>by rw[<- FU a,<- FU b,h],fun h=>by rw[h]⟩
def BE (ls:List ByteArray):List Value:=ls.map Value.string
@[simp] theorem length_strs (ls:List ByteArray):(BE ls).length=ls.length:=by simp[BE]
theorem NV (ls:List ByteArray)(i:Nat):(BE ls)[i]? = ls[i]?.map Value.string:=by simp[BE]
theorem Gj (ls:List ByteArray)(s:ByteArray):BE ls++[.string s]=BE (ls++[s]):=by simp[BE]
theorem Jd (s:ByteArray):∀ u ∈ [Value.string s],u.oneCell'=true:=by intro u hu;rw[List.mem_singleton] at hu;subst hu;rfl
theorem Rd.lenT {w:World}{A:Option Addr}{n:Nat}{l:List ByteArray}(h:Rd w 1 A n (BE l)):l.length=n:=by have:=h.1;simp at this;omega
theorem Rd.atT {w:World}{A:Option Addr}{n:Nat}{l:List ByteArray}(h:Rd w 1 A n (BE l)){k:Nat}(hk:k<n) :
  ∃ b o s,A=some ⟨b,o,none⟩/\l[k]? = some s/\w.cell? ⟨b,o+k,none⟩=some (.string s):=by
 have hl:=h.lenT;obtain⟨h1,_,h2⟩:=h;obtain⟨b,o,rfl,h3⟩:=h2 (by omega);have hx:l[k]? = some l[k]:=List.getElem?_eq_getElem (by omega);exact⟨b,o,_,rfl,hx,h3 k _ (by rw[NV,hx];rfl)⟩
theorem L2:EI Tryz.prog 22 9 1 16 (.string ByteArray.empty):=⟨Tryz.underlying22,by kernel_rfl,rfl,by decide⟩
theorem Xn (s:ByteArray)(i j:Int)(h0:0<=i)(h1:i<=j)(h2:j<=s.size)(w:World):(Instr.slice 9 (.string s) (some (.int .i64 i)) (some (.int .i64 j)) none).run Tryz.prog w= .ok (.string (s.extract i.toNat j.toNat)) w :=
 run_slice_string w 9 s .i64 .i64 i j Tryz.underlying9 h0 h1 h2
end Go.Proofs.YthibllkleakiiaaGreatDoor
namespace Sg
open Go
def DC:AR:=[99,101,108,108]
def Gp:AR:=[100,101,114,105,118,101,100]
def Gq:AR:=[101,102,102,101,99,116]
def FS (n:BQ)(x:Int):AR:=if n.kind=0 then DC++32 :: BB x.toNat else if n.kind=1 then Gp++32 :: FM n.f else Gq++32 :: FM n.f
def GY:Ae->List Int->AR
 | n :: g,x :: c=>FS n x++10 :: GY g c
 | _,_=>[]
def Jg (g:Ae)(c:List Int):AR:=if AG g=true/\AT g c=true then GY g c else []
def Dq (l:AR):Option (BQ × Int):=match AB 32 l with
 | []=>none
 | w :: ws =>
  if w=DC/\ws.length=1 then (if AW (ws.getD 0 []) = -1 then none else some (⟨0,[]⟩,AW (ws.getD 0 [])))
  else if w=Gp then (Cw ws).map fun f=>(⟨1,f⟩,0)
  else if w=Gq then (Cw ws).map fun f=>(⟨2,f⟩,0)
  else none
def DE (l:AR):Option (BQ × Int) :=
 let w:=(Lib.cut l [32]).1
 let t:=(Lib.cut l [32]).2.1
 if w=DC then (CR t).map fun (n:Nat)=>((⟨0,[]⟩:BQ),(n:Int))
 else if w=Gp then (Cr t).map fun f=>(⟨1,f⟩,0)
 else if w=Gq then (Cr t).map fun f=>(⟨2,f⟩,0)
 else none
def DX (f:AR->Option (BQ × Int)):List AR->Option (Ae × List Int)
 | []=>some ([],[])
 | l :: ls=>match f l with
  | none=>none
  | some (n,x)=>match DX f ls with
   | none=>none
   | some (g,c)=>some (n :: g,x :: c)
def DA (s:AR):Option (Ae × List Int):=match DX Dq (AB 10 s).dropLast with
 | some (g,c)=>if (AB 10 s).getLastD []=[]/\AG g=true/\AT g c=true then some (g,c) else none
 | none=>none
def C0 (s:AR):Option (Ae × List Int):=match DX DE (AB 10 s).dropLast with
 | some (g,c)=>if (AB 10 s).getLastD []=[]/\AG g=true/\AT g c=true/\Jg g c=s then some (g,c) else none
 | none=>none
theorem To (n:Nat):(32:UInt8) ∉ BB n/\(10:UInt8) ∉ BB n:=by
 have hd:=Es n;exact⟨fun e=>by have:=hd _ e;revert this;decide,fun e=>by have:=hd _ e;revert this;decide⟩
theorem N8:CR []=none:=by
 cases h:CR [] with
 | none=>rfl
 | some n=>exact absurd (Ga h).1.symm (JL n)
theorem PN {l:AR}(h:(32:UInt8) ∈ l):CR l=none:=by
 cases hd:CR l with
 | none=>rfl
 | some n=>rw[(Ga hd).1] at h;exact absurd h (To n).1
theorem RV:AW [] = -1:=by decide
theorem Lh:Ej []=none:=by
 unfold Ej Cw
 have:Et Ku []=none:=by
  unfold Et;rw[RW,if_neg (by simp),if_neg (by simp)];unfold Ku;rw[RV,if_pos rfl];rfl
 show (match D9 Ku [[]] ([],[]) with | some (f,o)=>if o.length=1/\AU f=true then some f else none | none=>none)=none;unfold D9 Dx;rw[this]
theorem PO:Cw []=none:=rfl
theorem Uu (l:AR):Dq l=match DE l with
  | some (n,x)=>if x<=999 then some (n,x) else none
  | none=>none:=by
 by_cases h:(32:UInt8) ∈ l
 ·obtain⟨p,r,rfl,hp⟩:=Gr l h;unfold Dq DE;rw[Ei p r hp,K_ p r hp];simp only;by_cases hc:p=DC
  ·rw[if_pos hc];by_cases hr:(32:UInt8) ∈ r
   ·rw[PN hr];obtain⟨q,t,rfl,hq⟩:=Gr r hr;have hne:=Cv 32 t
    have hlen:1<=(AB 32 t).length:=by cases hs:AB 32 t with
     | nil=>exact absurd hs hne
     | cons a b=>simp
    rw[Ei q t hq,if_neg (by simp only[List.length_cons];omega),if_neg (by rw[hc];decide),if_neg (by rw[hc];decide)];rfl
   ·rw[DJ r hr,if_pos ⟨hc,rfl⟩];simp only[List.getD_cons_zero];rw[MA];cases hd:CR r with
    | none=>rfl
    | some n =>
     simp only[Option.map_some];by_cases hn:n<=999
     ·rw[if_pos hn,if_neg (by omega),if_pos (by omega)]
     ·rw[if_neg hn,if_pos rfl,if_neg (by omega)]
  ·rw[if_neg (fun e=>hc e.1),if_neg hc];by_cases hd:p=Gp
   ·rw[if_pos hd,if_pos hd,Gb];unfold Ej;cases Cw (AB 32 r) <;> rfl
   ·rw[if_neg hd,if_neg hd];by_cases he:p=Gq
    ·rw[if_pos he,if_pos he,Gb];unfold Ej;cases Cw (AB 32 r) <;> rfl
    ·rw[if_neg he,if_neg he]
 ·unfold Dq DE;rw[DJ l h,JM l h];simp only;rw[if_neg (by simp),N8,Gb,Lh,PO];by_cases hc:l=DC
  ·rw[if_pos hc,if_neg (by rw[hc];decide),if_neg (by rw[hc];decide)];rfl
  ·rw[if_neg hc];by_cases hd:l=Gp
   ·rw[if_pos hd];rfl
   ·rw[if_neg hd];by_cases he:l=Gq
    ·rw[if_pos he];rfl
    ·rw[if_neg he]
theorem RX {l:AR}{n:BQ}{x:Int}(h:DE l=some (n,x)):FS n x=l/\0<=x/\((n.kind=0/\n.f=[])\/((n.kind=1\/n.kind=2)/\x=0/\AU n.f=true/\BY n.f=n.f)):=by
 have hcut:(32:UInt8) ∈ l/\∃ p r,l=p++32 :: r/\(32:UInt8) ∉ p:=by
  by_cases hm:(32:UInt8) ∈ l
  ·exact⟨hm,Gr l hm⟩
  ·exfalso
   unfold DE at h;rw[JM l hm] at h;simp only at h;rw[N8,Gb,Lh] at h;split at h
   ·cases h
   ·split at h
    ·cases h
    ·split at h <;> cases h
 obtain⟨-,p,r,rfl,hp⟩:=hcut;unfold DE at h;rw[K_ p r hp] at h;simp only at h;by_cases hc:p=DC
 ·rw[if_pos hc] at h;cases hd:CR r with
  | none=>rw[hd] at h;cases h
  | some k =>
   rw[hd] at h;simp only[Option.map_some,Option.some.injEq,Prod.mk.injEq] at h;obtain⟨rfl,rfl⟩:=h;refine⟨?_,by omega,.inl ⟨rfl,rfl⟩⟩;unfold FS;rw[if_pos rfl,hc,(Ga hd).1];simp
 ·rw[if_neg hc,Gb] at h;by_cases hd:p=Gp
  ·rw[if_pos hd] at h;cases hf:Ej r with
   | none=>rw[hf] at h;cases h
   | some f =>
    rw[hf] at h;simp only[Option.map_some,Option.some.injEq,Prod.mk.injEq] at h;obtain⟨rfl,rfl⟩:=h;obtain⟨h1,h2,h3,-⟩:=Ig hf;refine⟨?_,by omega,.inr ⟨.inl rfl,rfl,h1,h2⟩⟩;unfold FS;rw[if_neg (by simp),if_pos rfl,hd,h3]
  ·rw[if_neg hd] at h;by_cases he:p=Gq
   ·rw[if_pos he] at h;cases hf:Ej r with
    | none=>rw[hf] at h;cases h
    | some f =>
     rw[hf] at h;simp only[Option.map_some,Option.some.injEq,Prod.mk.injEq] at h;obtain⟨rfl,rfl⟩:=h;obtain⟨h1,h2,h3,-⟩:=Ig hf;refine⟨?_,by omega,.inr ⟨.inr rfl,rfl,h1,h2⟩⟩;unfold FS;rw[if_neg (by simp),if_neg (by simp),he,h3]
   ·rw[if_neg he] at h;cases h
theorem Li:∀ (ls:List AR){g:Ae}{c:List Int},DX DE ls=some (g,c)->GY g c=DG 10 (ls++[[]])
 | [],g,c,h=>by
  simp only[DX,Option.some.injEq,Prod.mk.injEq] at h;obtain⟨rfl,rfl⟩:=h;rw[List.nil_append,DM];rfl
 | l :: ls,g,c,h=>by
  unfold DX at h;split at h
  ·cases h
  ·rename_i n x hl
   split at h
   ·cases h
   ·rename_i g' c' hm
    simp only[Option.some.injEq,Prod.mk.injEq] at h;obtain⟨rfl,rfl⟩:=h;have hb:=(RX hl).1;have ih:=Li ls hm;show FS n x++10 :: GY g' c'=DG 10 (l :: (ls++[[]]));rw[hb,ih];cases ls with
    | nil=>exact(Dt 10 l [] []).symm
    | cons a t=>exact(Dt 10 l a (t++[[]])).symm
theorem JN:∀ (ls:List AR){g:Ae}{c:List Int},DX Dq ls=some (g,c)↔(DX DE ls=some (g,c)/\∀ x ∈ c,x<=999)
 | [],g,c=>by
  simp only[DX,Option.some.injEq,Prod.mk.injEq];refine⟨fun h=>⟨h,fun x hx=>by rw[<- h.2] at hx;cases hx⟩,And.left⟩
 | l :: ls,g,c=>by
  unfold DX;rw[Uu l];cases hl:DE l with
  | none=>simp
  | some y =>
   obtain⟨n,x⟩:=y;simp only;by_cases hx:x<=999
   ·rw[if_pos hx];simp only;constructor
    ·intro h;split at h
     ·cases h
     ·rename_i g' c' hm
      simp only[Option.some.injEq,Prod.mk.injEq] at h;obtain⟨rfl,rfl⟩:=h;obtain⟨h1,h2⟩:=(JN ls).1 hm;rw[h1];exact⟨rfl,fun y hy=>(List.mem_cons.1 hy).elim (fun e=>e ▸ hx) (h2 y)⟩
    ·rintro ⟨h,h2⟩;split at h
     ·cases h
     ·rename_i g' c' hm
      simp only[Option.some.injEq,Prod.mk.injEq] at h;obtain⟨rfl,rfl⟩:=h;rw[(JN ls).2 ⟨hm,fun y hy=>h2 y (List.mem_cons_of_mem _ hy)⟩]
   ·rw[if_neg hx];simp only;refine⟨fun h=>(by cases h),fun ⟨h,h2⟩=>?_⟩;exfalso
    split at h
    ·cases h
    ·simp only[Option.some.injEq,Prod.mk.injEq] at h;obtain⟨-,rfl⟩:=h;exact hx (h2 x (by simp))
theorem RY {g:Ae}{c:List Int}(h:AT g c=true):∀ x ∈ c,0<=x/\x<=999:=by
 intro x hx;obtain⟨i,hi,rfl⟩:=List.getElem_of_mem hx;unfold AT at h;rw[Bool.and_eq_true,List.all_eq_true] at h;have:=h.2 i (List.mem_range.2 hi);unfold FN at this;simp only[Bool.and_eq_true,BZ,decide_eq_true_eq,List.getD_eq_getElem?_getD,List.getElem?_eq_getElem hi,Option.getD_some] at this;exact this.1
theorem PQ (s:AR)(h:(AB 10 s).getLastD []=[]):AB 10 s=(AB 10 s).dropLast++[[]]:=by
 have hne:=Cv 10 s;have:=List.dropLast_concat_getLast hne;rw[List.getLastD_eq_getLast?,List.getLast?_eq_some_getLast hne,Option.getD_some] at h;rw[<- this,h];simp
theorem MB (s:AR):C0 s=DA s:=by
 have key:∀ g c,C0 s=some (g,c)↔DA s=some (g,c):=fun g c=>by
  unfold C0 DA;constructor
  ·intro h;split at h
   ·rename_i g' c' hm
    split at h
    ·rename_i hc
     simp only[Option.some.injEq,Prod.mk.injEq] at h;obtain⟨rfl,rfl⟩:=h;rw[(JN _).2 ⟨hm,fun x hx=>(RY hc.2.2.1 x hx).2⟩];simp only;rw[if_pos ⟨hc.1,hc.2.1,hc.2.2.1⟩]
    ·cases h
   ·cases h
  ·intro h;split at h
   ·rename_i g' c' hm
    split at h
    ·rename_i hc
     simp only[Option.some.injEq,Prod.mk.injEq] at h;obtain⟨rfl,rfl⟩:=h;have hm':=((JN _).1 hm).1;have hb:=Li _ hm'
     have hfm:Jg g' c'=s:=by
      unfold Jg;rw[if_pos hc.2,hb,<- PQ s hc.1,GM]
     rw[hm'];simp only;rw[if_pos ⟨hc.1,hc.2.1,hc.2.2,hfm⟩]
    ·cases h
   ·cases h
 cases h1:C0 s with
 | some y=>rw[(key y.1 y.2).1 h1]
 | none =>
  cases h2:DA s with
  | none=>rfl
  | some y=>rw[(key y.1 y.2).2 h2] at h1;cases h1
theorem Kv {s:AR}{g:Ae}{c:List Int}(h:DA s=some (g,c)):AG g=true/\AT g c=true/\Jg g c=s:=by
 rw[<- MB] at h;unfold C0 at h;split at h
 ·split at h
  ·rename_i hc
   simp only[Option.some.injEq,Prod.mk.injEq] at h;obtain⟨rfl,rfl⟩:=h;exact hc.2
  ·cases h
 ·cases h
open Go
def Cg (l:List Int):AR:=DG 32 (l.map fun n=>BB n.toNat)
structure IC (σ:Type) where
 vals:σ->List Int
 stale:σ->List Int
 set:σ->Nat->Int->σ × List Int
 get:σ->Nat->σ × List Int
def De:AR:=[118,97,108,117,101,115]
def FL:AR:=[115,116,97,108,101]
def K1:AR:=[115,101,116]
def Jf:AR:=[103,101,116]
def Eq:AR:=[119,104,97,116]
def VJ:AR:=[119,114,111,110,103]
def C4 {σ:Type}(M:IC σ)(g:Ae)(st:σ)(line:AR):σ × AR :=
 if line=De then (st,Cg (M.vals st))
 else if line=FL then (st,Cg (M.stale st))
 else match AB 32 line with
  | [w,a,b]=>if w=K1/\Bt g (AW a)=true/\0<=AW b then ((M.set st (AW a).toNat (AW b)).1,Cg (M.set st (AW a).toNat (AW b)).2) else (st,Eq)
  | [w,a]=>if w=Jf/\0<=AW a/\AW a<(g.length:Int) then ((M.get st (AW a).toNat).1,Cg (M.get st (AW a).toNat).2) else (st,Eq)
  | _=>(st,Eq)
def Ff:List AR->Option (List Int)
 | []=>some []
 | a :: aq=>match CR a with
  | none=>none
  | some n=>(Ff aq).map fun l=>(n:Int) :: l
def J_ {σ:Type}(M:IC σ)(g:Ae)(st:σ)(line:AR):σ × AR :=
 if line=De then (st,Cg (M.vals st))
 else if line=FL then (st,Cg (M.stale st))
 else match Ff (AB 32 line).tail with
  | none=>(st,Eq)
  | some ns=>if (AB 32 line).headD []=K1/\ns.length=2/\Bt g (ns.getD 0 0)=true/\ns.getD 1 0<=999 then ((M.set st (ns.getD 0 0).toNat (ns.getD 1 0)).1,Cg (M.set st (ns.getD 0 0).toNat (ns.getD 1 0)).2)
   else if (AB 32 line).headD []=Jf/\ns.length=1/\ns.getD 0 0<(g.length:Int) then ((M.get st (ns.getD 0 0).toNat).1,Cg (M.get st (ns.getD 0 0).toNat).2) else (st,Eq)
theorem JK:∀ (aq:List AR){l:List Int},Ff aq=some l->l.length=aq.length/\∀ x ∈ l,0<=x
 | [],l,h=>by
  simp only[Ff,Option.some.injEq] at h;subst h;exact⟨rfl,fun x hx=>by cases hx⟩
 | a :: aq,l,h=>by
  unfold Ff at h;cases hd:CR a with
  | none=>rw[hd] at h;cases h
  | some n =>
   rw[hd] at h;cases hs:Ff aq with
   | none=>rw[hs] at h;cases h
   | some m =>
    rw[hs] at h;simp only[Option.map_some,Option.some.injEq] at h;subst h;obtain⟨h1,h2⟩:=JK aq hs;refine⟨by simp[h1],fun x hx=>?_⟩;rcases List.mem_cons.1 hx with rfl | hx
    ·omega
    ·exact h2 x hx
theorem LZ (a:AR):(CR a=none/\AW a = -1)\/∃ n:Nat,CR a=some n/\((n<=999/\AW a=n)\/(999<n/\AW a = -1)):=by
 have h:=MA a;cases hd:CR a with
 | none=>rw[hd] at h;exact .inl ⟨rfl,h⟩
 | some n =>
  rw[hd] at h;simp only at h;refine .inr ⟨n,rfl,?_⟩;by_cases hn:n<=999
  ·rw[if_pos hn] at h;exact .inl ⟨hn,h⟩
  ·rw[if_neg hn] at h;exact .inr ⟨by omega,h⟩
theorem Iq {g:Ae}{n:Int}(h:Bt g n=true):0<=n/\n<(g.length:Int):=by
 unfold Bt at h;simp only[Bool.and_eq_true,BZ,decide_eq_true_eq] at h;omega
theorem VF {σ:Type}(M:IC σ){g:Ae}(hg:g.length<=10)(st:σ)(line:AR):J_ M g st line=C4 M g st line:=by
 unfold J_ C4;split
 ·rfl
 ·split
  ·rfl
  ·have hne:=Cv 32 line;match hs:AB 32 line with
   | []=>exact absurd hs hne
   | [w] =>
    show (if _/\(0:Nat)=2/\_ then _ else if _/\(0:Nat)=1/\_ then _ else (st,Eq))=(st,Eq);rw[if_neg (fun h=>by cases h.2.1),if_neg (fun h=>by cases h.2.1)]
   | [w,a] =>
    simp only[List.tail_cons,Ff,List.headD_cons];rcases LZ a with ⟨h1,h2⟩ | ⟨n,h1,h2⟩
    ·rw[h1,h2];simp only;rw[if_neg (by omega)]
    ·rw[h1];simp only[Option.map_some,List.length_cons,List.length_nil,List.getD_cons_zero];rw[if_neg (fun h=>by cases h.2.1)];rcases h2 with ⟨h3,h4⟩ | ⟨h3,h4⟩
     ·rw[h4];have e:(w=Jf/\True/\(n:Int)<(g.length:Int))↔(w=Jf/\0<=(n:Int)/\(n:Int)<(g.length:Int)):=⟨fun h=>⟨h.1,by omega,h.2.2⟩,fun h=>⟨h.1,trivial,h.2.2⟩⟩;simp only[e]
     ·rw[h4,if_neg (fun h=>by have:=h.2.2;omega),if_neg (fun h=>by have:=h.2.1;omega)]
   | [w,a,b] =>
    simp only[List.tail_cons,Ff,List.headD_cons];have hno:∀ x:Int,x = -1->Bt g x=true->False:=fun x hx h=>by have:=Iq h;omega
    rcases LZ a with ⟨h1,h2⟩ | ⟨n,h1,h2⟩
    ·rw[h1,h2];simp only;rw[if_neg (fun h=>hno _ rfl h.2.1)]
    ·rw[h1];rcases LZ b with ⟨k1,k2⟩ | ⟨m,k1,k2⟩
     ·rw[k1,k2];simp only[Option.map_none];rw[if_neg (fun h=>by have:=h.2.2;omega)]
     ·rw[k1];simp only[Option.map_some,List.length_cons,List.length_nil,List.getD_cons_zero,List.getD_cons_succ]
      have hng:∀ (x y z:σ × AR) (P Q:Prop) [Decidable P] [Decidable (w=Jf/\0+1+1=1/\Q)],(if P then x else if w=Jf/\0+1+1=1/\Q then y else z)=if P then x else z:=fun x y z P Q _ _=>by
       have:¬ (w=Jf/\0+1+1=1/\Q):=fun h=>by cases h.2.1
       rw[if_neg this]
      rw[hng];rcases h2 with ⟨h3,h4⟩ | ⟨h3,h4⟩
      ·rcases k2 with ⟨k3,k4⟩ | ⟨k3,k4⟩
       ·rw[h4,k4];have e:(w=K1/\True/\Bt g (n:Int)=true/\(m:Int)<=999)↔(w=K1/\Bt g (n:Int)=true/\0<=(m:Int)):=⟨fun h=>⟨h.1,h.2.2.1,by omega⟩,fun h=>⟨h.1,trivial,h.2.1,by omega⟩⟩;simp only[e]
       ·rw[k4,if_neg (fun h=>by have:=h.2.2.2;omega),if_neg (fun h=>by have:=h.2.2;omega)]
      ·rw[h4,if_neg (fun h=>by have:=Iq h.2.2.1;omega),if_neg (fun h=>hno _ rfl h.2.1)]
   | w :: a :: b :: c :: ws =>
    simp only[List.tail_cons,List.headD_cons];cases hd:Ff (a :: b :: c :: ws) with
    | none=>rfl
    | some l =>
     have:=(JK _ hd).1;simp only[List.length_cons] at this;have e2:¬ l.length=2:=by omega
     have e1:¬ l.length=1:=by omega
     simp only[e1,e2,false_and,and_false,if_false]
def OQ {σ:Type}(M:IC σ)(g:Ae):σ->List AR->AR
 | _,[]=>[]
 | st,l :: ls=>(C4 M g st l).2++10 :: OQ M g (C4 M g st l).1 ls
def Dl:List AR->AR
 | []=>[]
 | _ :: ls=>VJ++10 :: Dl ls
open Go
theorem Qg {g:Ae}(h:AG g=true){i:Nat}{n:BQ}(hn:g[i]? = some n):(n.kind=0/\n.f=[])\/((n.kind=1\/n.kind=2)/\AU n.f=true):=by
 have hi:=(List.getElem?_eq_some_iff.1 hn).1;have hgn:=C7 h i hi;unfold Ce at hgn;rw[List.getD_eq_getElem?_getD,hn] at hgn;simp only[Option.getD_some] at hgn;split at hgn
 ·rename_i h0
  exact .inl ⟨h0,by simpa using hgn⟩
 ·split at hgn
  ·rename_i h12
   rw[Bool.and_eq_true] at hgn;exact .inr ⟨h12,hgn.1⟩
  ·cases hgn
def WD (p:At):Prop:=(p.kind=0\/p.kind=1)/\0<=p.n/\p.n<=999\/2<=p.kind/\p.kind<=8
theorem Jz (c:UInt8):∀ (ls:List AR) (p:AR),ls≠[]->DG c (ls++[p])=DG c ls++c :: p
 | [],_,h=>absurd rfl h
 | [q],p,_=>by rw[List.singleton_append,Dt,DM,DM]
 | q :: r :: t,p,_=>by
  have:=Jz c (r :: t) p (by simp);rw[List.cons_append,List.cons_append,Dt,<- List.cons_append,this,Dt,List.append_assoc];rfl
theorem UB {f:List At}(h:IO f){p:At}(hp:p ∈ f):WD p:=by
 obtain⟨i,hi⟩:=List.getElem?_of_mem hp;rcases Fm h hi with ⟨h8,-⟩ | ⟨h2,h7,-⟩ | ⟨h0,-⟩
 ·exact .inr ⟨by omega,by omega⟩
 ·exact .inr ⟨h2,by omega⟩
 ·rcases h0 with ⟨h1,h2,h3⟩ | ⟨h1,h2,h3⟩
  ·exact .inl ⟨.inl h1,h2,by omega⟩
  ·exact .inl ⟨.inr h1,h2,by omega⟩
theorem Ou {f:List At}(h:AU f=true):AU (BY f)=true:=by
 rw[JA h];exact In (Qn h) (by rw[Kl h];exact(Cn h).2)
theorem Km {f:List At}(h:AU f=true):(BY f).length=f.length:=by
 rw[JA h,flat_len,Kl h]
theorem Ov {f:List At}(h:AU f=true):∀ p ∈ BY f,WD p:=fun _ hp=>UB (Da (Ou h)) hp
theorem Ib {n:Nat}(h:n<=999):(BB n).length<=3:=by
 by_cases h1:n<10
 ·rw[CG h1];simp
 ·rw[EL h1];by_cases h2:n / 10<10
  ·rw[CG h2];simp
  ·rw[EL h2,CG (n:=n / 10 / 10) (by omega)];simp
theorem Si (k:Int):(CE k).length<=4:=by
 unfold CE;repeat' split
 all_goals decide
theorem MO {p:At}(h:WD p):(CB p).length<=5:=by
 unfold CB;rcases h with ⟨hk,h0,h9⟩ | ⟨h2,h8⟩
 ·have:=Ib (n:=p.n.toNat) (by omega);rcases hk with hk | hk <;> simp[hk] <;> omega
 ·rw[if_neg (by omega),if_neg (by omega)];have:=Si p.kind;omega
def IA (f:List At)(j:Nat):AR:=DG 32 ((f.take j).map CB)
theorem Qo (f:List At):IA f 0=[]:=rfl
theorem Sj {f:List At}{p:At}(h:f[0]? = some p):IA f 1=CB p:=by
 cases f with
 | nil=>simp at h
 | cons q t =>
  simp at h
  subst h;unfold IA;simp[DM]
theorem Qp {f:List At}{j:Nat}{p:At}(h:f[j]? = some p)(h0:0<j):IA f (j+1)=IA f j++[32]++CB p:=by
 have hj:=(List.getElem?_eq_some_iff.1 h).1;unfold IA;rw[List.take_add_one,h,List.map_append];simp only[Option.toList,List.map_cons,List.map_nil];rw[Jz _ _ _ (by intro e;have:=congrArg List.length e;rw[List.length_map,List.length_take,List.length_nil] at this;omega)];simp
theorem MP {f:List At}(h:∀ p ∈ f,WD p):∀ j,(IA f j).length<=6 * j
 | 0=>by simp[Qo]
 | j+1=>by
  have ih:=MP h j;cases hp:f[j]? with
  | none =>
   have e:IA f (j+1)=IA f j:=by unfold IA;rw[List.take_add_one,hp];simp
   rw[e];omega
  | some p =>
   have hl:=MO (h p (List.mem_of_getElem? hp));by_cases h0:0<j
   ·rw[Qp hp h0];simp;omega
   ·obtain rfl:j=0:=by omega
    rw[Sj hp];omega
theorem UC {f:List At}(h:AU f=true):FM f=IA (BY f) (BY f).length:=by
 unfold FM IA;rw[if_pos h,List.take_length]
theorem LF (f:List At):(FM f).length<=72:=by
 by_cases h:AU f=true
 ·rw[UC h];have:=MP (Ov h) (BY f).length;have:=(Cn h).2;have:=Km h;omega
 ·unfold FM;rw[if_neg h];simp
def DO (g:Ae)(c:List Int)(j:Nat):AR:=GY (g.take j) (c.take j)
theorem Nu (g:Ae)(c:List Int):DO g c 0=[]:=rfl
theorem KD:∀ (g:Ae)(c:List Int)(n:BQ)(x:Int),g.length=c.length->GY (g++[n]) (c++[x])=GY g c++FS n x++[10]
 | [],[],n,x,_=>by simp[GY]
 | _ :: _,[],_,_,h=>by simp at h
 | [],_ :: _,_,_,h=>by simp at h
 | m :: g,y :: c,n,x,h=>by
  simp only[List.cons_append,GY];rw[KD g c n x (by simpa using h)];simp
theorem JS {g:Ae}{c:List Int}(hl:c.length=g.length){j:Nat}{n:BQ}{x:Int}(hn:g[j]? = some n)(hx:c[j]? = some x):DO g c (j+1)=DO g c j++FS n x++[10]:=by
 unfold DO;rw[List.take_add_one,hn,List.take_add_one,hx];exact KD _ _ _ _ (by simp[hl])
theorem Sk (n:BQ){x:Int}(h:x<=999):(FS n x).length<=90:=by
 have h1:=Ib (n:=x.toNat) (by omega);have h2:=LF n.f;unfold FS;repeat' split
 all_goals simp[DC,Gp,Gq];omega
theorem KA {g:Ae}{c:List Int}(hl:c.length=g.length)(hr:∀ x ∈ c,x<=999):∀ j,(DO g c j).length<=91 * j
 | 0=>by simp[Nu]
 | j+1=>by
  have ih:=KA hl hr j;cases hn:g[j]? with
  | none =>
   have hc:c[j]? = none:=by rw[List.getElem?_eq_none_iff] at hn ⊢;omega
   have e:DO g c (j+1)=DO g c j:=by unfold DO;rw[List.take_add_one,hn,List.take_add_one,hc];simp
   rw[e];omega
  | some n =>
   have hj:=(List.getElem?_eq_some_iff.1 hn).1;have hx:c[j]? = some c[j]:=List.getElem?_eq_getElem (by omega);have:=Sk n (hr _ (List.mem_of_getElem? hx));rw[JS hl hn hx];simp;omega
theorem Ow {g:Ae}{c:List Int}(hl:c.length=g.length):DO g c g.length=GY g c:=by
 unfold DO;rw[List.take_length,<- hl,List.take_length]
theorem TF {g:Ae}{c:List Int}(h:AG g=true)(hc:AT g c=true):Jg g c=DO g c g.length:=by
 unfold Jg;rw[if_pos ⟨h,hc⟩,Ow (CH hc)]
theorem Uz {g:Ae}{c:List Int}(h:(AG g && AT g c)=false):Jg g c=[]:=by
 unfold Jg;rw[if_neg];rintro ⟨h1,h2⟩;rw[h1,h2] at h;cases h
theorem Io {g:Ae}(h:AG g=true):g.length<=10:=by
 unfold AG at h;simp only[Bool.and_eq_true,decide_eq_true_eq] at h;exact h.2
theorem Qh {n:BQ}(h:n.kind=0)(x:Int):FS n x=DC++[32]++BB x.toNat:=by simp[FS,h]
theorem Sd {n:BQ}(h:n.kind=1)(x:Int):FS n x=Gp++[32]++FM n.f:=by simp[FS,h]
theorem Se {n:BQ}(h:n.kind=2)(x:Int):FS n x=Gq++[32]++FM n.f:=by simp[FS,h]
open Go
def Fd (s:AR):Option (Ae × List Int):=match DX DE (AB 10 s).dropLast with
 | some (g,c)=>if (AB 10 s).getLastD []=[] then some (g,c) else none
 | none=>none
theorem So:Fd []=some ([],[]):=rfl
theorem Qs {l:AR}(h:(10:UInt8) ∉ l)(h0:l≠[]):Fd l=none:=by
 unfold Fd;rw[DJ l h];show (if l=[] then _ else none)=none;rw[if_neg h0]
theorem MV {p r:AR}(h:(10:UInt8) ∉ p):Fd (p++10 :: r)=match DE p with
  | none=>none
  | some (n,x)=>(Fd r).map fun y=>(n :: y.1,x :: y.2):=by
 unfold Fd;rw[Ei p r h];have hne:=Cv 10 r
 have e1:(p :: AB 10 r).dropLast=p :: (AB 10 r).dropLast:=by
  cases hs:AB 10 r with
  | nil=>exact absurd hs hne
  | cons a t=>rfl
 have e2:(p :: AB 10 r).getLastD []=(AB 10 r).getLastD []:=by
  cases hs:AB 10 r with
  | nil=>exact absurd hs hne
  | cons a t=>rfl
 rw[e1,e2,DX];cases DE p with
 | none=>rfl
 | some nx =>
  obtain⟨n,x⟩:=nx;simp only;cases DX DE (AB 10 r).dropLast with
  | none=>rfl
  | some gc =>
   obtain⟨g,c⟩:=gc;simp only;split <;> rfl
theorem LP {p r:AR}(h:(10:UInt8) ∉ p)(hn:DE p=none):Fd (p++10 :: r)=none:=by rw[MV h,hn]
theorem JW (s:AR):C0 s=match Fd s with
  | some (g,c)=>if AG g=true/\AT g c=true/\Jg g c=s then some (g,c) else none
  | none=>none:=by
 unfold C0 Fd;cases DX DE (AB 10 s).dropLast with
 | none=>rfl
 | some gc =>
  obtain⟨g,c⟩:=gc;simp only;by_cases h:(AB 10 s).getLastD []=[]
  ·rw[if_pos h];simp only;by_cases h2:AG g=true/\AT g c=true/\Jg g c=s
   ·rw[if_pos h2,if_pos ⟨h,h2⟩]
   ·rw[if_neg h2,if_neg (fun e=>h2 e.2)]
  ·rw[if_neg h,if_neg (fun e=>h e.1)]
theorem Sp {s p r:AR}{g:Ae}{c:List Int}{n:BQ}{x:Int}(h:(10:UInt8) ∉ p)(hn:DE p=some (n,x))(hi:Fd s=(Fd (p++10 :: r)).map fun y=>(g++y.1,c++y.2)) :
  Fd s=(Fd r).map fun y=>((g++[n])++y.1,(c++[x])++y.2):=by
 rw[hi,MV h,hn];simp only[Option.map_map];congr 1
 funext y
 simp
theorem Rq (l:AR):((10:UInt8) ∉ l/\Lib.cut l [10]=(l,[],false))\/∃ p r,(10:UInt8) ∉ p/\l=p++10 :: r/\Lib.cut l [10]=(p,r,true):=by
 by_cases h:(10:UInt8) ∈ l
 ·obtain⟨p,r,rfl,hp⟩:=Gr l h;exact .inr ⟨p,r,hp,rfl,K_ p r hp⟩
 ·exact .inl ⟨h,JM l h⟩
theorem Rr {f:AR->Option (BQ × Int)}{ls:List AR}{i:Nat}{l:AR}(h:ls[i]? = some l):DX f (ls.drop i)=match f l with
  | none=>none
  | some (n,x)=>(DX f (ls.drop (i+1))).map fun y=>(n :: y.1,x :: y.2):=by
 obtain⟨hl,he⟩:=List.getElem?_eq_some_iff.1 h;rw[List.drop_eq_getElem_cons hl,he,DX];cases f l with
 | none=>rfl
 | some nx =>
  obtain⟨n,x⟩:=nx;simp only;cases DX f (ls.drop (i+1)) with
  | none=>rfl
  | some gc=>obtain⟨g,c⟩:=gc;rfl
theorem Sq {f:AR->Option (BQ × Int)}{ls:List AR}{i:Nat}{l:AR}{g:Ae}{c:List Int}{n:BQ}{x:Int}(h:ls[i]? = some l)(hn:f l=some (n,x))(hi:DX f ls=(DX f (ls.drop i)).map fun y=>(g++y.1,c++y.2)) :
  DX f ls=(DX f (ls.drop (i+1))).map fun y=>((g++[n])++y.1,(c++[x])++y.2):=by
 rw[hi,Rr h,hn];simp only[Option.map_map];congr 1
 funext y
 simp
theorem TI {f:AR->Option (BQ × Int)}{ls:List AR}{i:Nat}{l:AR}{g:Ae}{c:List Int}(h:ls[i]? = some l)(hn:f l=none)(hi:DX f ls=(DX f (ls.drop i)).map fun y=>(g++y.1,c++y.2)):DX f ls=none:=by
 rw[hi,Rr h,hn];rfl
def ES (o:Option (Ae × List Int)):Ae × List Int × Bool:=match o with
 | none=>([],[],false)
 | some (g,c)=>(g,c,true)
end Sg
namespace Go.Proofs.YthibllkleakiiaaGreatDoor
open Go.RowKit
def Th.ownN (B:Nat)(A:Option Addr)(c:Nat)(g:Sg.Ae)(hs:List (Option Addr × Nat)):Th B:=⟨FR A hs,fun W=>GE W B A c g hs,fun _ _ h hk=>Bn.fr h hk,fun _ _ h hb=>Bn.lt h hb⟩
def Th.both {B:Nat}(s t:Th B):Th B:=⟨fun b=>s.fp b\/t.fp b,fun W=>s.ok W/\t.ok W,fun _ _ h hk=>⟨s.fr _ _ h.1 fun b hb=>hk b (.inl hb),t.fr _ _ h.2 fun b hb=>hk b (.inr hb)⟩,
 fun _ _ h hb=>hb.elim (fun hb=>s.lt _ _ h.1 hb) (fun hb=>t.lt _ _ h.2 hb)⟩
theorem Ai.both {B:Nat}{s t:Th B}{ts:List (Th B)}{W:World}(h:Ai (s :: ts) W){i:Nat}(ht:ts[i]? = some t):Ai (ts.set i (Th.both s t)) W:=by
 induction ts generalizing i with
 | nil=>simp at ht
 | cons x ts ih =>
  obtain⟨hs,hd,hx,hxd,hr⟩:=h;cases i with
  | zero =>
   simp at ht
   subst ht;simp only[List.set_cons_zero];exact⟨⟨hs,hx⟩,fun u hu b hb hb'=>hb.elim (fun hb=>hd u (by simp[hu]) b hb hb') (fun hb=>hxd u hu b hb hb'),hr⟩
  | succ i =>
   simp at ht
   simp only[List.set_cons_succ];refine⟨hx,fun u hu b hb hb'=>?_,ih ⟨hs,fun u hu=>hd u (by simp[hu]),hr⟩ ht⟩;rcases List.mem_or_eq_of_mem_set hu with hu | rfl
   ·exact hxd u hu b hb hb'
   ·rcases hb' with hb' | hb'
    ·exact hd x (by simp) b hb' hb
    ·exact hxd t (List.mem_of_getElem? ht) b hb hb'
theorem Bn.snocD {w1 w2:World}{B eo so ei si c c':Nat}{A A':Option Addr}{its:List It}{hs:List (Option Addr × Nat)}(k:Bn w1 B eo so ei si A c its hs){it:It}{A0:Option Addr}{c0:Nat}(hS:∀ b,AD A0=some b->¬ FR A hs b)(own:AA w1 B ei si A0 it.n c0 it.xs)(out:AA w2 B eo so A' (its.length+1) c' (Bb its hs++Mt it (A0,c0)))(hg:w1.grownBy w2 (AD A))(hat:AD A'=AD A\/∃ g,AD A'=some g/\w1.heap.size<=g) :
  Bn w2 B eo so ei si A' c' (its++[it]) (hs++[(A0,c0)]):=by
 have key:∀ (i:Nat) (h:Option Addr × Nat),(hs++[(A0,c0)])[i]? = some h->(i<hs.length/\hs[i]? = some h)\/(i=hs.length/\h=(A0,c0)):=by
  intro i h hh;by_cases hik:i<hs.length
  ·rw[List.getElem?_append_left hik] at hh;exact .inl ⟨hik,hh⟩
  ·have h1:=(List.getElem?_eq_some_iff.1 hh).1;simp at h1
   obtain rfl:i=hs.length:=by omega
   rw[List.getElem?_append_right (Nat.le_refl _)] at hh;simp at hh
   exact .inr ⟨rfl,hh.symm⟩
 refine⟨by simp[k.len],by simpa[JF _ _ k.len] using out,?_,?_,?_⟩
 ·intro i it' h hi hh;rcases key i h hh with ⟨hik,hh⟩ | ⟨rfl,rfl⟩
  ·rw[List.getElem?_append_left (by rw[<- k.len];exact hik)] at hi;have o1:=k.inn i it' h hi hh;exact o1.keep fun b hb=>hg.block b (o1.lt hb).2 (fun e=>k.dio i h hh b e.symm hb)
  ·rw[List.getElem?_append_right (by rw[k.len];exact Nat.le_refl _),k.len,Nat.sub_self] at hi;simp at hi
   subst hi;exact own.keep fun b hb=>hg.block b (own.lt hb).2 (fun e=>hS b hb (.inl e.symm))
 ·intro i j h h' hij hh hh' b hb hb';rcases key i h hh with ⟨_,hh⟩ | ⟨rfl,rfl⟩
  ·rcases key j h' hh' with ⟨_,hh'⟩ | ⟨rfl,rfl⟩
   ·exact k.dis i j h h' hij hh hh' b hb hb'
   ·exact hS b hb' (.inr ⟨h,List.mem_of_getElem? hh,hb⟩)
  ·have:=(List.getElem?_eq_some_iff.1 hh').1;simp at this
   omega
 ·intro i h hh b hb hb';rcases hat with hat | ⟨g,hg',hle⟩
  ·rw[hat] at hb;rcases key i h hh with ⟨_,hh⟩ | ⟨rfl,rfl⟩
   ·exact k.dio i h hh b hb hb'
   ·exact hS b hb' (.inl hb)
  ·rw[hg'] at hb;injection hb with hb;subst hb;rcases key i h hh with ⟨_,hh⟩ | ⟨rfl,rfl⟩
   ·have h1:=(k.lt (.inr ⟨h,List.mem_of_getElem? hh,hb'⟩)).2;omega
   ·have h1:=(own.lt hb').2;omega
theorem Ai.node {B:Nat}{ts:List (Th B)}{W W':World}{A A' Af:Option Addr}{c c' cf:Nat}{g:Sg.Ae}{hs:List (Option Addr × Nat)}{f:List Sg.At}(kd:Int)(h:Ai (Th.own B 111 5 Af f.length cf (AL f) :: ts) W)(i:Nat)(ht:ts[i]? = some (Th.ownN B A c g hs))(ho:AA W' B 70 2 A' (g.length+1) c' (Bb (Dg g) hs++[.int .i64 kd,.slice Af f.length cf]))(hg:W.grownBy W' (AD A))(hat:AD A'=AD A\/∃ g,AD A'=some g/\W.heap.size<=g) :
  Ai (ts.set i (Th.ownN B A' c' (g++[⟨kd,f⟩]) (hs++[(Af,cf)]))) W':=by
 have k:GE W B A c g hs:=Ai.get h (i+1) (show (Th.own B 111 5 Af f.length cf (AL f) :: ts)[i+1]? = _ from ht);have own:AA W B 111 5 Af f.length cf (AL f):=h.1;have hS:∀ b,AD Af=some b->¬ FR A hs b:=fun b hb=>h.2.1 _ (List.mem_of_getElem? ht) b hb;have hsn:=Bn.snocD (it:=⟨[.int .i64 kd],f.length,AL f⟩) k hS own (by simpa[Mt] using ho) hg hat;have hits:Dg (g++[⟨kd,f⟩])=Dg g++[⟨[.int .i64 kd],f.length,AL f⟩]:=by simp[Dg]
 rw[<- hits] at hsn;have h1:=Ai.both h ht;have hil:=(List.getElem?_eq_some_iff.1 ht).1
 have h2:=Ai.set (F:=fun b=>AD A=some b) h1 i (t:=Th.both (Th.own B 111 5 Af f.length cf (AL f)) (Th.ownN B A c g hs)) (by rw[List.getElem?_set_self hil]) ⟨hg.os,hg.tape,hg.output,hg.size,fun b hb hn=>hg.block b hb (fun e=>hn e.symm)⟩ (Th.ownN B A' c' (g++[(⟨kd,f⟩:Sg.BQ)]) (hs++[(Af,cf)]))
  (fun b e=>Or.inl (Or.inr (Or.inl e))) hsn (fun b hb=>by
   rcases hb with hb | ⟨x,hx,hb⟩
   ·rcases hat with hat | ⟨q,hq,hle⟩
    ·rw[hat] at hb;exact Or.inl (Or.inr (Or.inl hb))
    ·rw[hq] at hb;injection hb with hb;exact Or.inr (by omega)
   ·rcases List.mem_append.1 hx with hx | hx
    ·exact Or.inl (Or.inr (Or.inr ⟨x,hx,hb⟩))
    ·simp at hx;subst hx;exact Or.inl (Or.inl hb))
 rwa [List.set_set] at h2
theorem Ai.addT {B:Nat}{ts:List (Th B)}{W W':World}(h:Ai ts W)(e:Aa W W')(s t:Th B)(hs:s.ok W')(ht:t.ok W')(hn:∀ b,s.fp b->W.heap.size<=b)(hn':∀ b,t.fp b->W.heap.size<=b)(hd:∀ b,s.fp b->¬ t.fp b):Ai (s :: t :: ts) W' :=
 ⟨hs,fun u hu b hb hb'=>by
  rcases List.mem_cons.1 hu with rfl | hu
  ·exact hd b hb hb'
  ·have h1:=hn b hb;have h2:=(h.lt hu hb').2;omega,ht,fun u hu b hb hb'=>by
  have h1:=hn' b hb;have h2:=(h.lt hu hb').2;omega,h.ext e⟩
theorem GE.nil (w:World)(B:Nat):GE w B none 0 [] []:=⟨rfl,AA.nil _ _ _ _,fun i it h hi=>by simp[Dg] at hi,fun i j h h' _ hh=>by simp at hh,fun i h hh=>by simp at hh⟩
end Go.Proofs.YthibllkleakiiaaGreatDoor
