/- Parts of one proof, joined. A strings.Builder among own things, and its WriteString: contracts. Conditions: short texts. -/
import Derived.Test.YthibllkleakiiaaGreatDoorTxH
import Derived.Test.YthibllkleakiiaaGreatDoorSesQI
namespace Sg
open Go
noncomputable def BJ (g:Ae):Ii (BZ × BC) where
 vals st:=st.1.vals
 stale st:=BP g st.2
 set st n x:=(((Bi g st.1 [(n:Int)] [x]).1,Ca st.2 n x),(Bi g st.1 [(n:Int)] [x]).2)
 get st n:=((st.1,(AS g st.2 (n:Int)).1),(AS g st.2 (n:Int)).2.1 :: (AS g st.2 (n:Int)).2.2)
structure DV (g:Ae) (st:BZ × BC):Prop where
 e:Dv g st.1=true
 l:AM g st.2=true
theorem DV.start {g:Ae}{c:List Int}(hG:AG g=true)(hC:AT g c=true):DV g (BQ g c,Cs g c):=⟨Fg hG hC,Kh hG hC⟩
theorem Gs {g:Ae}{st:BZ}{n:Nat}{x:Int}(h:Dv g st=true)(hc:BA g (n:Int)=true)(hx:0<=x/\x<=999):GU g st [(n:Int)] [x]=true:=by
 unfold GU
 have h1:B_ g [(n:Int)]=true:=by
  unfold B_;simp[hc]
 have h2:C8 [x]=true:=by
  unfold C8;simp[Cb,hx.1,hx.2]
 rw[h,h1,h2];rfl
theorem DV.set {g:Ae}{st:BZ × BC}(h:DV g st){n:Nat}{x:Int}(hc:BA g (n:Int)=true)(hx:0<=x/\x<=999):DV g ((BJ g).set st n x).1:=by
 have hm:=Gs h.e hc hx;refine⟨?_,Ki h.l hc hx⟩;show Dv g (Bi g st.1 [(n:Int)] [x]).1=true;rw[If hm];exact Fg (Bb h.e).1 (FQ hm)
theorem DV.get {g:Ae}{st:BZ × BC}(h:DV g st){n:Nat}(hn:n<g.length):DV g ((BJ g).get st n).1:=by
 refine⟨h.e,?_⟩;show AM g (AS g st.2 (n:Int)).1=true;rw[Ir h.l hn];exact(Ei h.l hn).1.ok
def DW (l:List Int):Prop:=l.length<=11/\∀ x ∈ l,0<=x/\x<=999
theorem DV.g10 {g:Ae}{st:BZ × BC}(h:DV g st):g.length<=10:=FE (Bb h.e).1
theorem DV.vals {g:Ae}{st:BZ × BC}(h:DV g st):DW ((BJ g).vals st):=by
 obtain⟨_,h2,_,h4,_⟩:=Bb h.e;have:=h.g10;exact⟨by show st.1.vals.length<=11;omega,Cc h4⟩
theorem Ll (p:Nat->Bool)(k:Nat)(hk:k<=10):DW (Cm p k):=by
 refine⟨by have:=FI p k;omega,fun x hx=>?_⟩;obtain⟨i,rfl,hi,_⟩:=Fy.1 hx;omega
theorem DV.stale {g:Ae}{st:BZ × BC}(h:DV g st):DW ((BJ g).stale st):=by
 show DW (BP g st.2);unfold BP;rw[if_pos h.l];exact Ll _ _ h.g10
theorem DV.ran {g:Ae}{st:BZ × BC}(h:DV g st){n:Nat}{x:Int}(hc:BA g (n:Int)=true)(hx:0<=x/\x<=999):DW ((BJ g).set st n x).2:=by
 show DW (Bi g st.1 [(n:Int)] [x]).2;rw[If (Gs h.e hc hx)];show DW (OH g _ _);unfold OH;split
 ·exact Ll _ _ h.g10
 ·exact⟨by simp,by simp⟩
theorem DV.got {g:Ae}{st:BZ × BC}(h:DV g st){n:Nat}(hn:n<g.length):DW ((BJ g).get st n).2:=by
 have h10:=h.g10;have hr:=UN h.l hn;have hcl:=(Ei h.l hn).1;have hlen:=hcl.ran_len;have hsh:=AN hcl.ok;show DW ((AS g st.2 (n:Int)).2.1 :: (AS g st.2 (n:Int)).2.2);rw[Ir h.l hn] at hr ⊢;refine⟨by simp at hlen ⊢;omega,fun x hx=>?_⟩;rcases List.mem_cons.1 hx with rfl | hx
 ·have h5:=Cc hsh.2.2.2.2;show 0<=(Eb g st.2 (n:Int)).st.vals.getD n 0/\(Eb g st.2 (n:Int)).st.vals.getD n 0<=999;have hv:n<(Eb g st.2 (n:Int)).st.vals.length:=by rw[hsh.2.1];exact hn
  rw[List.getD_eq_getElem?_getD,List.getElem?_eq_getElem hv,Option.getD_some];exact h5 _ (List.getElem_mem hv)
 ·obtain⟨j,rfl,hj,_⟩:=hr.2 x hx;omega
theorem Qa (c:UInt8):∀ ls:List AO,(DT c ls).length<=(ls.map fun p=>p.length+1).sum
 | []=>by simp[DT,Lib.join]
 | [p]=>by rw[DN];simp
 | p :: q :: t=>by
  have ih:=Qa c (q :: t);rw[Dp];simp only[List.map_cons,List.sum_cons,List.length_append,List.length_cons] at ih ⊢;omega
theorem EP {l:List Int}(h:DW l):(Cj l).length<=44:=by
 have h1:=Qa 32 (l.map fun n=>BE n.toNat)
 have h2:∀ m:List Int,(∀ x ∈ m,0<=x/\x<=999)->((m.map fun n=>BE n.toNat).map fun p=>p.length+1).sum<=4 * m.length:=by
  intro m hm;induction m with
  | nil=>simp
  | cons x m ih =>
   have h3:=ih fun y hy=>hm y (by simp[hy]);have h4:=hm x (by simp);have h5:=GQ (n:=x.toNat) (by omega);simp only[List.map_cons,List.sum_cons,List.length_cons] at h3 ⊢;omega
 have:=h2 l h.2;have:=h.1;show (DT 32 (l.map fun n=>BE n.toNat)).length<=44;omega
theorem KI {g:Ae}{n:Int}(h:BA g n=true):∃ k:Nat,n=k/\k<g.length:=by
 obtain⟨h1,h2⟩:=IU h;exact⟨n.toNat,by omega,by omega⟩
theorem J5:Eh.length<=44:=by decide
theorem RA {g:Ae}{st:BZ × BC}(h:DV g st)(line:AO):DV g (CZ (BJ g) g st line).1/\(CZ (BJ g) g st line).2.length<=44:=by
 unfold CZ;split
 ·exact⟨h,EP h.vals⟩
 split
 ·exact⟨h,EP h.stale⟩
 split
 ·rename_i w a b _
  split
  ·rename_i hc
   obtain⟨_,h1,h2⟩:=hc;obtain⟨k,hk,hkl⟩:=KI h1
   have hb:AV b<=999:=by
    rcases FV b with e | ⟨n,e,hn⟩
    ·omega
    ·omega
   rw[hk] at h1 ⊢;exact⟨h.set (by simpa using h1) ⟨h2,hb⟩,EP (h.ran (by simpa using h1) ⟨h2,hb⟩)⟩
  ·exact⟨h,J5⟩
 ·rename_i w a _
  split
  ·rename_i hc
   obtain⟨_,h1,h2⟩:=hc;exact⟨h.get (by omega),EP (h.got (by omega))⟩
  ·exact⟨h,J5⟩
 ·exact⟨h,J5⟩
noncomputable def Dx (g:Ae):List AO->(BZ × BC) × AO->(BZ × BC) × AO
 | [],y=>y
 | l :: ls,y=>Dx g ls ((CZ (BJ g) g y.1 l).1,y.2++((CZ (BJ g) g y.1 l).2++[10]))
theorem JG (g:Ae):∀ (ls:List AO) (y:(BZ × BC) × AO),(Dx g ls y).2=y.2++JP (BJ g) g y.1 ls
 | [],y=>by simp[Dx,JP]
 | l :: ls,y=>by
  rw[Dx,JG g ls,JP];simp
theorem Mq (g:Ae):∀ (a:List AO) (l:AO) (y:(BZ × BC) × AO),Dx g (a++[l]) y=((CZ (BJ g) g (Dx g a y).1 l).1,(Dx g a y).2++((CZ (BJ g) g (Dx g a y).1 l).2++[10]))
 | [],l,y=>rfl
 | b :: a,l,y=>by
  rw[List.cons_append,Dx,Dx,Mq g a l]
theorem Kl {g:Ae}:∀ (ls:List AO) (y:(BZ × BC) × AO),DV g y.1->DV g (Dx g ls y).1/\(Dx g ls y).2.length<=y.2.length+45 * ls.length
 | [],y,h=>⟨h,by simp[Dx]⟩
 | l :: ls,y,h=>by
  obtain⟨h1,h2⟩:=RA h l;obtain⟨h3,h4⟩:=Kl ls ((CZ (BJ g) g y.1 l).1,y.2++((CZ (BJ g) g y.1 l).2++[10])) h1;rw[Dx];refine⟨h3,?_⟩;simp only[List.length_append,List.length_cons,List.length_nil] at h4 ⊢;omega
noncomputable def FD (s:AO)(ls:List AO):AO:=if 20<ls.length then [] else match Do s with
 | none=>CR ls
 | some (g,c)=>JP (BJ g) g (BQ g c,Cs g c) ls
theorem Rx {s:AO}{ls:List AO}(h:ls.length<=20)(k:Nat):FD s (ls.take k) <+: FD s ls:=by
 unfold FD;rw[if_neg (by rw[List.length_take];omega),if_neg (by omega)];cases Do s with
 | none=>exact Lm ls k
 | some y=>obtain⟨g,c⟩:=y;exact ME _ _ ls k _
theorem Ry {s:AO}{ls:List AO}(h:ls.length<=20):(FD s ls).count 10=ls.length:=by
 unfold FD;rw[if_neg (by omega)];cases Do s with
 | none=>exact Ln ls
 | some y=>obtain⟨g,c⟩:=y;exact MF _ _ ls _
theorem IS:∀ ls:List AO,(CR ls).length=6 * ls.length
 | []=>rfl
 | _ :: ls=>by
  have ih:=IS ls;simp only[CR,List.length_append,List.length_cons,ih];show 5+_=_;omega
theorem PR (s:AO)(ls:List AO):(FD s ls).length<=1000:=by
 unfold FD;split
 ·simp
 ·rename_i h
  cases hp:Do s with
  | none =>
   simp only;rw[IS];omega
  | some y =>
   obtain⟨g,c⟩:=y;simp only;obtain⟨h1,h2,_⟩:=Jb hp;have h3:=(Kl ls ((BQ g c,Cs g c),[]) (DV.start h1 h2)).2;rw[JG] at h3;simp only[List.nil_append,List.length_nil] at h3;omega
def Ee (l:List Int)(j:Nat):AO:=Cj (l.take j)
theorem R6 {l:List Int}{x:Int}(h:l[0]? = some x):Ee l 1=BE x.toNat:=by
 unfold Ee Cj;cases l with
 | nil=>simp at h
 | cons y r =>
  simp at h
  subst h;simp[DN]
theorem Qb {l:List Int}{j:Nat}{x:Int}(h:l[j]? = some x)(h0:0<j):Ee l (j+1)=Ee l j++[32]++BE x.toNat:=by
 unfold Ee Cj;rw[List.take_add_one,h,List.map_append];show DT 32 (_++[BE x.toNat])=_
 rw[J3 _ _ _ (by
  intro e;have hl:=(List.getElem?_eq_some_iff.1 h).1;rw[List.map_eq_nil_iff] at e;have h9:(l.take j).length=0:=by rw[e];rfl
  rw[List.length_take] at h9;omega)]
 simp
theorem R7 {l:List Int}(h:DW l)(j:Nat):(Ee l j).length<=44:=EP ⟨by have:=h.1;simp;omega,fun x hx=>h.2 x (List.mem_of_mem_take hx)⟩
theorem R8 (l:List Int):Ee l l.length=Cj l:=by unfold Ee;rw[List.take_length]
end Sg
namespace Go.Proofs.YthibllkleakiiaaGreatDoor
open Go.RowKit
def SH (l:List Int)(j:Nat):List ByteArray:=(l.take j).map fun x=>ts (Sg.BE x.toNat)
theorem Ux {l:List Int}{j:Nat}{x:Int}(h:l[j]? = some x):SH l (j+1)=SH l j++[ts (Sg.BE x.toNat)]:=by
 unfold SH;rw[List.take_add_one,h,List.map_append];rfl
theorem QU (l:List Int):(SH l l.length).map (·.data.toList)=l.map fun x=>Sg.BE x.toNat:=by
 unfold SH;rw[List.take_length,List.map_map];rfl
set_option maxRecDepth 100000 in
set_option maxHeartbeats 2000000 in
theorem K0 (A:Option Addr)(c:Nat)(l:List Int)(w:World)(hG:Gl w)(h:Rd w 1 A l.length (Ah l))(hs:Sg.DW l) :
  Calls Tryz.prog 54 #[.slice A l.length c] w fun e w'=>e= .returned (.string (ts (Sg.Cj l)))/\Aa w w':=by
 have HG:=lh hG;have HR:=lh h;have HS:=lh hs.2;have HL:=lh (Sg.EP hs);have hl:=hs.1;clear hG h hs;go_enter Tryz.func54,Tryz.ntmps54;go_wp2_with fail
 go_loopw [3,8] (fun s3 s10 wr=>∃ (j:Nat) (A3:Option Addr) (c3:Nat),j<=l.length/\s3= .slice A3 j c3/\s10= .int .i64 j/\Hid (Aa w wr)/\Hid (Au wr w.heap.size 9 1 A3 j c3 (Bh (SH l j)))) (fun _ s10 _=>l.length - (intOf s10).toNat)
 case atStart=>exact⟨0,none,0,Nat.zero_le _,rfl,rfl,lh xr,lh (Au.nil _ _ _ _)⟩
 case round =>
  obtain⟨j,A3,c3,hj,rfl,rfl,E,OW⟩:=hrel;by_cases hlt:j<l.length
  ·obtain⟨b,o,x,hAe,hx,hc⟩:=(HR.out.ext E.out).at1 hlt;subst hAe;have bh0:=AA hc;have hjx:(j:Int)<(l.length:Int):=by omega
   have hxr:=HS.out x (List.mem_of_getElem? hx);obtain⟨n,rfl⟩:=Int.eq_ofNat_of_zero_le hxr.1;have WS:=lh (Ux hx);have hn:n<=999:=by omega
   clear hx hxr;go_wp2_with fail
   refine(Pf n hn _ (HG.out.ext E.out)).mono ?_;rintro e w4 ⟨rfl,he4⟩;have E4:=lh (E.out.tr he4);have OW4:=lh (OW.out.ext he4);clear he4 hc bh0 E OW;have hsz4:=E4.out.size;go_wp2_with (at_builtin;refine AB (cs:=[.string (ts (Sg.BE n))]) rfl rfl Lr rfl OW4.out rfl rfl (IX _) (by omega) (by omega) (by omega) ?_;intro A5 c5 w9 hown2 hg2 hat2)
   go_roundw
   case rel=>exact⟨j+1,A5,c5,by omega,rfl,by go_num,lh (E4.out.gr hg2 fun x hx=>(OW4.out.lt hx).1),lh (by rw[WS.out,<- FK];exact hown2)⟩
   case measure=>simp[intOf];omega
  ·obtain rfl:j=l.length:=by omega
   have HJ:=lh fun w' (hO:Au w' w.heap.size 9 1 A3 l.length c3 (Bh (SH l l.length)))=>VM A3 l.length c3 _ w' hO (by omega) (by rw[QU];have:=HL.out;show (Sg.Cj l).length<=100000;omega);go_wp2_with fail
   refine(HJ.out _ OW.out).mono ?_;rintro e w3 ⟨rfl,he3⟩;go_wp2;go_ret;exact⟨by rw[QU];rfl,E.out.tr he3⟩
set_option maxRecDepth 100000 in
set_option maxHeartbeats 2000000 in
theorem Ip (A:Option Addr)(c:Nat)(l:List Int)(w:World)(h:Rd w 1 A l.length (Ah l))(hs:Sg.DW l) :
  Calls Tryz.prog 34 #[.slice A l.length c] w fun e w'=>e= .returned (.string (ts (Sg.Cj l)))/\Aa w w':=by
 have HR:=lh h;have HS:=lh hs.2;have HLN:=lh (Sg.R7 hs);have hl:=hs.1;clear h hs;go_enter Tryz.func34,Tryz.ntmps34;go_wp2_with fail
 go_loopw [3,4] (fun s3 s5 wr=>∃ j:Nat,j<=l.length/\s3= .string (ts (Sg.Ee l j))/\s5= .int .i64 j/\Hid (Aa w wr)) (fun _ s5 _=>l.length - (intOf s5).toNat)
 case atStart=>exact⟨0,Nat.zero_le _,rfl,rfl,lh xr⟩
 case round =>
  obtain⟨j,hj,rfl,rfl,E⟩:=hrel;by_cases hlt:j<l.length
  ·obtain⟨b,o,x,hAe,hx,hc⟩:=(HR.out.ext E.out).at1 hlt;subst hAe;have bh0:=AA hc;have hln:=HLN.out j;have hjx:(j:Int)<(l.length:Int):=by omega
   have hxr:=HS.out x (List.mem_of_getElem? hx);obtain⟨n,rfl⟩:=Int.eq_ofNat_of_zero_le hxr.1;have hn:n<=999:=by omega
   have hnl:=Sg.GQ hn;by_cases hz:0<j
   ·have hzx:(j:Int) > 0:=by omega
    have hT:=lh (Sg.Qb hx hz);have s1:=CT (a:=Sg.Ee l j) (b:=[32]) (by simp;omega);have s2:=CT (a:=Sg.Ee l j++[32]) (b:=Sg.BE n) (by simp;omega);rw[<- BY] at s2;clear hx hxr;generalize Sg.Ee l j=y at *;go_wp2_with fail
    refine(IC n (by omega) _).mono ?_;rintro e w3 ⟨rfl,rfl⟩;go_wp2;go_roundw
    case rel=>exact⟨j+1,by omega,by rw[hT.out,<- BY,<- BY];rfl,by go_num,E⟩
    case measure=>simp[intOf];omega
   ·have hzx:¬ (j:Int) > 0:=by omega
    have hT:Hid (Sg.Ee l (j+1)=Sg.Ee l j++Sg.BE n):=by
     obtain rfl:j=0:=by omega
     exact lh (Sg.R6 hx)
    have s2:=CT (a:=Sg.Ee l j) (b:=Sg.BE n) (by omega);clear hx hxr;generalize Sg.Ee l j=y at *;go_wp2_with fail
    refine(IC n (by omega) _).mono ?_;rintro e w3 ⟨rfl,rfl⟩;go_wp2;go_roundw
    case rel=>exact⟨j+1,by omega,by rw[hT.out,<- BY],by go_num,E⟩
    case measure=>simp[intOf];omega
  ·obtain rfl:j=l.length:=by omega
   go_wp2;go_ret;exact⟨by rw[Sg.R8];rfl,E.out⟩
open Go.RowKit
def Pu (B:Nat)(Av:Option Addr)(cv:Nat)(Ar:Option Addr)(cr:Nat)(Zv:Option Addr)(zv:Nat)(Az:Option Addr)(zr:Nat)(Zq:Option Addr)(zq L:Nat)(hs hz:List (Option Addr × Nat))(st:Sg.BZ × Sg.BC):List (Th B) :=
 Th.own B 3 1 Av L cv (Ah st.1.vals) :: Th.ownL B Ar cr st.1.reads hs :: In B Zv zv Az zr Zq zq L hz st.2
theorem Ai.mid {B:Nat}{W:World}(X Y Z:List (Th B))(h:Ai (X++(Y++Z)) W):Ai (Y++(X++Z)) W:=Ai.perm h (List.perm_append_comm_assoc X Y Z)
theorem AF.set2 (w:World)(b:Nat)(u0 u1:Value):AF (fun x=>x=b) w ((w.setCell ⟨b,0,none⟩ u0).setCell ⟨b,1,none⟩ u1):=AF.set (F:=fun x=>x=b) (AF.set (F:=fun x=>x=b) (AF.rfl' _ w) (.inl rfl) u0) (.inl rfl) u1
theorem LM {B:Nat}{ts:List (Th B)}{v:World}{bt:Nat}{o0 o1:Value}(h:Ai ts v)(i:Nat)(ht:ts[i]? = some (Th.box B bt [o0,o1]))(u0 u1:Value) :
  Ai (ts.set i (Th.box B bt [u0,u1])) ((v.setCell ⟨bt,0,none⟩ u0).setCell ⟨bt,1,none⟩ u1) :=
 have y:Bx v bt [o0,o1]/\B<=bt:=Ai.get h i ht;Ai.set h i ht (AF.set2 v bt u0 u1) (Th.box B bt [u0,u1]) (fun _ e=>.inl e) ⟨(y.1.set 0 u0).set 1 u1,y.2⟩ (fun _ e=>.inl e)
theorem LN {a v:World}{bt:Nat}(h:Aa a v)(hl:a.heap.size<=bt)(u0 u1:Value):Aa a ((v.setCell ⟨bt,0,none⟩ u0).setCell ⟨bt,1,none⟩ u1) :=
 Aa.md h (AF.set2 v bt u0 u1) (fun _ e=>by rw[e];exact hl)
theorem Bd {B:Nat}{ts:List (Th B)}{v:World}{bt:Nat}{o0 o1:Value}(h:Ai ts v)(i:Nat)(ht:ts[i]? = some (Th.box B bt [o0,o1])) :
  v.cell? ⟨bt,0,none⟩=some o0/\v.cell? ⟨bt,1,none⟩=some o1/\v.frozen? ⟨bt,0,none⟩=false/\v.frozen? ⟨bt,1,none⟩=false/\bt<v.heap.size :=
 have y:Bx v bt [o0,o1]/\B<=bt:=Ai.get h i ht;⟨y.1.cell (j:=0) rfl,y.1.cell (j:=1) rfl,y.1.free 0,y.1.free 1,y.1.lt⟩
theorem Gd {B:Nat}{ts:List (Th B)}{v:World}{bt:Nat}{o0:Value}(h:Ai ts v)(i:Nat)(ht:ts[i]? = some (Th.box B bt [o0])) :
  v.cell? ⟨bt,0,none⟩=some o0/\v.frozen? ⟨bt,0,none⟩=false/\bt<v.heap.size :=
 have y:Bx v bt [o0]/\B<=bt:=Ai.get h i ht;⟨y.1.cell (j:=0) rfl,y.1.free 0,y.1.lt⟩
theorem M_ {g:Sg.Ae}{n:Int}(hc:Sg.BA g n=true):Sg.B_ g [n]=true:=by
 unfold Sg.B_;simp[hc]
theorem Vo (A Av Ar Aq:Option Addr)(c cv cr cq:Nat)(g:Sg.Ae)(st:Sg.BC)(w:World)(h:Eg w A g)(hv:Rd w 1 Av g.length (Ah st.vals))(hr:Ex w Ar st.reads)(hq:Rd w 1 Aq g.length (Ah st.cols))(hV:Sg.AM g st=true) :
  Calls Tryz.prog 35 #[.agg #[.slice A g.length c],.agg #[.slice Av g.length cv,.slice Ar g.length cr,.slice Aq g.length cq]] w fun e w'=>∃ A' c',e= .returned (.slice A' (Sg.BP g st).length c')/\Au w' w.heap.size 3 1 A' (Sg.BP g st).length c' (Ah (Sg.BP g st))/\Aa w w':=by
 obtain⟨v,r,q⟩:=st;obtain⟨-,h1,h2,h3,-⟩:=Sg.AN hV;dsimp only at h1 h2 h3 hv hr hq;have hg:=h.1;have z:=Ul A Av Ar Aq c cv cr cq g v q r w h (by rw[h1];exact hv) hr (by rw[h3];exact hq) (by omega) (by omega);rw[h1,h2,h3] at z;exact z
theorem U7 (A Av Ar Aq:Option Addr)(c cv cr cq:Nat)(g:Sg.Ae)(st:Sg.BC)(w:World)(h:Eg w A g)(hv:Rd w 1 Av g.length (Ah st.vals))(hr:Ex w Ar st.reads)(hq:Rd w 1 Aq g.length (Ah st.cols))(hV:Sg.AM g st=true) :
  Calls Tryz.prog 55 #[.agg #[.slice A g.length c],.agg #[.slice Av g.length cv,.slice Ar g.length cr,.slice Aq g.length cq]] w fun e w'=>∃ A' c',e= .returned (.slice A' (Sg.BP g st).length c')/\Au w' w.heap.size 3 1 A' (Sg.BP g st).length c' (Ah (Sg.BP g st))/\Aa w w':=by
 obtain⟨v,r,q⟩:=st;obtain⟨-,h1,h2,h3,-⟩:=Sg.AN hV;dsimp only at h1 h2 h3 hv hr hq;have hg:=h.1;have z:=Uj A Av Ar Aq c cv cr cq g v q r w h (by rw[h1];exact hv) hr (by rw[h3];exact hq) (by omega) (by omega);rw[h1,h2,h3] at z;exact z
theorem XG (A Av Ar Aq:Option Addr)(c cv cr cq n:Nat)(g:Sg.Ae)(st:Sg.BC)(w:World)(h:Eg w A g)(hv:Rd w 1 Av g.length (Ah st.vals))(hr:Ex w Ar st.reads)(hq:Rd w 1 Aq g.length (Ah st.cols))(hV:Sg.AM g st=true)(hn:n<g.length) :
  Calls Tryz.prog 40 #[.agg #[.slice A g.length c],.agg #[.slice Av g.length cv,.slice Ar g.length cr,.slice Aq g.length cq],.int .i64 n] w fun e w'=>∃ gz zv Az zr gq zq hz A9 c9,e= .returned (.tuple #[.agg #[.slice (some ⟨gz,0,none⟩) g.length zv,.slice Az g.length zr,.slice (some ⟨gq,0,none⟩) g.length zq],.int .i64 (Sg.AS g st n).2.1,.slice A9 (Sg.AS g st n).2.2.length c9]) /\
   Ai (In w.heap.size (some ⟨gz,0,none⟩) zv Az zr (some ⟨gq,0,none⟩) zq g.length hz (Sg.AS g st n).1) w'/\Rd w' 1 A9 (Sg.AS g st n).2.2.length (Ah (Sg.AS g st n).2.2)/\Aa w w':=by
 have hV2:Sg.AM g (Sg.AS g st n).1=true:=by
  rw[Sg.Ir hV hn];exact(Sg.Ei hV hn).1.ok
 obtain⟨-,t1,t2,t3,-⟩:=Sg.AN hV2;obtain⟨v,r,q⟩:=st;obtain⟨-,h1,h2,h3,-⟩:=Sg.AN hV;dsimp only at h1 h2 h3 hv hr hq;have hg:=h.1;have z:=Sx A Av Ar Aq c cv cr cq g v q r (n:Int) w h (by rw[h1];exact hv) hr (by rw[h3];exact hq) (by omega) (by omega);rw[h1,h2,h3] at z;clear hV2;generalize Sg.AS g ⟨v,r,q⟩ (n:Int)=y at *;obtain⟨⟨v2,r2,q2⟩,x,ran⟩:=y;dsimp only at t1 t2 t3 z ⊢;refine z.mono ?_;rintro e w' ⟨R0,d0,R1,d1,R2,d2,z0,R3,d3,rfl,hz,ho,-,he⟩;obtain⟨gz,gr,gq,rfl,rfl,rfl⟩:=hz.some3 (by omega) (by omega) (by omega);dsimp only;rw[t1,t2,t3];exact⟨gz,d0,_,d1,gq,d2,z0,R3,d3,rfl,Ai.ofZ hz t1 t3,ho.rd,he⟩
theorem XF (a:World)(A Av Ar An Aw:Option Addr)(c cv cr cn cw n:Nat)(x:Int)(g:Sg.Ae)(st:Sg.BZ)(hs:List (Option Addr × Nat))(ts:List (Th a.heap.size))(W:World)(ha:Eg a A g)(hE:Aa a W)(hna:∀ W',Ai ts W'->Rd W' 1 An 1 (Ah [(n:Int)]))(hwa:∀ W',Ai ts W'->Rd W' 1 Aw 1 (Ah [x]))(hnb:∀ b,AE An=some b->∃ t ∈ ts,t.fp b)(hwb:∀ b,AE Aw=some b->∃ t ∈ ts,t.fp b)(hS:Ai (Th.own a.heap.size 3 1 Av g.length cv (Ah st.vals) :: Th.ownL a.heap.size Ar cr st.reads hs :: ts) W)(hV:Sg.Dv g st=true)(hc:Sg.BA g (n:Int)=true)(hx:0<=x/\x<=999) :
  Calls Tryz.prog 37 #[.agg #[.slice A g.length c],.agg #[.slice Av g.length cv,.slice Ar g.length cr],.slice An 1 cn,.slice Aw 1 cw] W fun e w'=>∃ Ad cd hs',e= .returned (.tuple #[.agg #[.slice Av g.length cv,.slice Ar g.length cr],.slice Ad (Sg.Bi g st [(n:Int)] [x]).2.length cd])/\Aa a w' /\
   Ai (Th.own a.heap.size 3 1 Ad (Sg.Bi g st [(n:Int)] [x]).2.length cd (Ah (Sg.Bi g st [(n:Int)] [x]).2) :: Th.own a.heap.size 3 1 Av g.length cv (Ah (Sg.Bi g st [(n:Int)] [x]).1.vals) :: Th.ownL a.heap.size Ar cr (Sg.Bi g st [(n:Int)] [x]).1.reads hs' :: ts) w':=by
 have hV2:Sg.Dv g (Sg.Bi g st [(n:Int)] [x]).1=true:=by
  have hm:=Sg.Gs hV hc hx;rw[Sg.If hm];exact Sg.Fg (Sg.Bb hV).1 (Sg.FQ hm)
 have t1:=(Sg.Bb hV2).2.1;obtain⟨v,r⟩:=st;obtain⟨-,h1,h2,-⟩:=Sg.Bb hV;dsimp only at h1 h2 hS;have z:=Vs a.heap.size a A Av Ar An Aw c cv cr cn cw g v [(n:Int)] [x] r hs W ha hE (Nat.le_refl _) hE.size ts (fun W' _ k=>hna W' k) (fun W' _ k=>hwa W' k) (fun _ b hb=>.inr (hnb b hb)) (fun _ b hb=>.inr (hwb b hb)) (by rw[h1];exact hS) hV (M_ hc) rfl (Sg.Cc (by unfold Sg.C8;simp[Sg.Cb,hx.1,hx.2]));rw[h1,h2] at z;refine z.mono ?_;rintro e w' ⟨Ad,cd,hs',rfl,hS2,-,-,hE2⟩;have t2:(Sg.C0 g ⟨v,r⟩ [(n:Int)] [x]).vals.length=g.length:=t1;rw[t2] at hS2;exact⟨Ad,cd,hs',rfl,hE2,hS2⟩
theorem Xo (a:World)(A Av Ar An Aw:Option Addr)(c cv cr cn cw n:Nat)(x:Int)(g:Sg.Ae)(st:Sg.BZ)(hs:List (Option Addr × Nat))(ts:List (Th a.heap.size))(W:World)(ha:Eg a A g)(hE:Aa a W)(hna:∀ W',Ai ts W'->Rd W' 1 An 1 (Ah [(n:Int)]))(hwa:∀ W',Ai ts W'->Rd W' 1 Aw 1 (Ah [x]))(hnb:∀ b,AE An=some b->∃ t ∈ ts,t.fp b)(hwb:∀ b,AE Aw=some b->∃ t ∈ ts,t.fp b)(hS:Ai (Th.own a.heap.size 3 1 Av g.length cv (Ah st.vals) :: Th.ownL a.heap.size Ar cr st.reads hs :: ts) W)(hV:Sg.Dv g st=true)(hc:Sg.BA g (n:Int)=true)(hx:0<=x/\x<=999) :
  Calls Tryz.prog 58 #[.agg #[.slice Av g.length cv,.slice Ar g.length cr],.agg #[.slice A g.length c],.slice An 1 cn,.slice Aw 1 cw] W fun e w'=>∃ Ad cd hs',e= .returned (.slice Ad (Sg.Bi g st [(n:Int)] [x]).2.length cd)/\Aa a w' /\
   Ai (Th.own a.heap.size 3 1 Ad (Sg.Bi g st [(n:Int)] [x]).2.length cd (Ah (Sg.Bi g st [(n:Int)] [x]).2) :: Th.own a.heap.size 3 1 Av g.length cv (Ah (Sg.Bi g st [(n:Int)] [x]).1.vals) :: Th.ownL a.heap.size Ar cr (Sg.Bi g st [(n:Int)] [x]).1.reads hs' :: ts) w':=by
 have hV2:Sg.Dv g (Sg.Bi g st [(n:Int)] [x]).1=true:=by
  have hm:=Sg.Gs hV hc hx;rw[Sg.If hm];exact Sg.Fg (Sg.Bb hV).1 (Sg.FQ hm)
 have t1:=(Sg.Bb hV2).2.1;obtain⟨v,r⟩:=st;obtain⟨-,h1,h2,-⟩:=Sg.Bb hV;dsimp only at h1 h2 hS;have z:=Vt a.heap.size a A Av Ar An Aw c cv cr cn cw g v [(n:Int)] [x] r hs W ha hE (Nat.le_refl _) hE.size ts (fun W' _ k=>hna W' k) (fun W' _ k=>hwa W' k) (fun _ b hb=>.inr (hnb b hb)) (fun _ b hb=>.inr (hwb b hb)) (by rw[h1];exact hS) hV (M_ hc) rfl (Sg.Cc (by unfold Sg.C8;simp[Sg.Cb,hx.1,hx.2]));rw[h1,h2] at z;refine z.mono ?_;rintro e w' ⟨Ad,hs',rfl,hS2,hE2⟩;have t2:(Sg.C0 g ⟨v,r⟩ [(n:Int)] [x]).vals.length=g.length:=t1;rw[t2] at hS2;exact⟨Ad,_,hs',rfl,hE2,hS2⟩
open Go.RowKit
def On (W:World)(B b:Nat)(gs:Option Nat)(l:Sg.AO):Prop :=
 B<=b/\∃ p v,(p= .pointer none\/p= .pointer (some ⟨b,0,none⟩))/\W.heap[b]? = some (.cells #[p,v] 53 (0,0))/\W.ownsRow B 5 1 v (Lib.byteCells l).length (Lib.byteCells l)/\v.ownBlock=gs/\gs≠some b
theorem On.bu {W:World}{B b:Nat}{gs:Option Nat}{l:Sg.AO}(h:On W B b gs l):Bu W B b l:=by
 obtain⟨hB,p,v,hp,hb,ho,hg,hne⟩:=h;subst hg;rcases hp with rfl | rfl
 ·exact .inl ⟨hB,v,hb,ho,hne⟩
 ·exact .inr ⟨hB,v,hb,ho,hne⟩
theorem M8 {W W':World}{B e n:Nat}{v:Value}{xs:List Value}(h:W.ownsRow B e 1 v n xs)(hk:∀ g,v.ownBlock=some g->W'.heap[g]? = W.heap[g]?):W'.ownsRow B e 1 v n xs:=by
 obtain⟨h1,h2⟩:=h;refine⟨h1,h2.imp id ?_⟩;rintro ⟨g,cap,cur,rfl,hB,hg,h3⟩;exact⟨g,cap,cur,rfl,hB,(hk g rfl).trans hg,h3⟩
theorem Pm {W:World}{g:Nat}{o:Obj}(h:W.heap[g]? = some o):g<W.heap.size:=by
 rcases Nat.lt_or_ge g W.heap.size with h' | h'
 ·exact h'
 ·simp[Array.getElem?_eq_none h'] at h
theorem Sw {W:World}{B e n:Nat}{v:Value}{xs:List Value}(h:W.ownsRow B e 1 v n xs){g:Nat}(hg:v.ownBlock=some g):B<=g/\g<W.heap.size:=by
 rcases h.2 with ⟨rfl,-⟩ | ⟨g',cap,cur,rfl,hB,hg',-⟩
 ·cases hg
 ·have e:some g'=some g:=hg;injection e with e;subst e;exact⟨hB,Pm hg'⟩
theorem On.keep {W W':World}{B b:Nat}{gs:Option Nat}{l:Sg.AO}(h:On W B b gs l)(hk:∀ x,(x=b\/gs=some x)->W'.heap[x]? = W.heap[x]?):On W' B b gs l:=by
 obtain⟨hB,p,v,hp,hb,ho,hg,hne⟩:=h;exact⟨hB,p,v,hp,(hk b (.inl rfl)).trans hb,M8 ho (fun g e=>hk g (.inr (hg.symm.trans e))),hg,hne⟩
theorem On.lt {W:World}{B b:Nat}{gs:Option Nat}{l:Sg.AO}(h:On W B b gs l){x:Nat}(hx:x=b\/gs=some x):B<=x/\x<W.heap.size:=by
 obtain⟨hB,p,v,hp,hb,ho,hg,hne⟩:=h;rcases hx with rfl | hx
 ·exact⟨hB,Pm hb⟩
 ·exact Sw ho (hg.trans hx)
def Th.bu (B b:Nat)(gs:Option Nat)(l:Sg.AO):Th B:=⟨fun x=>x=b\/gs=some x,fun W=>On W B b gs l,fun _ _ h hk=>h.keep hk,fun _ _ h hb=>h.lt hb⟩
theorem On.new (W:World){B:Nat}(hB:B<=W.heap.size):On (W.alloc (.cells #[.pointer none,.slice none 0 0] 53)) B W.heap.size none [] :=
 ⟨hB,.pointer none,.slice none 0 0,.inl rfl,heap_alloc_new W _,World.ownsRow_nil _ _ _ _,rfl,by simp⟩
theorem XO {P:Program}(w:World)(base:Nat)(t u ty e:TypeId)(i:TypeInfo)(ht:P.underlying t=some (.slice e))(hu:P.underlying u=some .string)(hi:P.info? e=some i)(hz:i.zero=some (.int .u8 0))(hsize:i.size=1)(hby:i.bytes=1)(v:Value)(n:Nat)(xs:List Value)(hown:w.ownsRow base e 1 v n xs)(s:ByteArray)(h63:n+s.size<=maxLen)(hbytes:n+s.size<=140737488355328)(hbase:base<=w.heap.size) :
  ∃ v' w',(Builtin.append_ #[t,u] ty #[v,.string s]).run P w= .ok v' w'/\w'.ownsRow base e 1 v' (n+s.size) (xs++Lib.strCells s)/\w.grownBy w' v.ownBlock/\(v'.ownBlock=v.ownBlock\/∃ g,v'.ownBlock=some g/\w.heap.size<=g):=by
 obtain⟨v',w',hr,h1,h2,-⟩:=Lib.run_append_own_string w base t u ty e i ht hu hi hz hsize hby v n xs hown s h63 hbytes hbase;refine⟨v',w',hr,h1,h2,?_⟩;rcases hown.2 with ⟨rfl,rfl⟩ | ⟨g,cap,cur,rfl,hB,hg,hnc,hcm,hcs,hcur⟩
 ·obtain⟨v'',w'',hr2,k1,-,-⟩:=Lib.run_append_own_string w w.heap.size t u ty e i ht hu hi hz hsize hby (.slice none 0 0) 0 xs ⟨hown.1,.inl ⟨rfl,rfl⟩⟩ s h63 hbytes (Nat.le_refl _);rw[hr] at hr2;injection hr2 with e1 e2;subst e1 e2;rcases k1.2 with ⟨rfl,-⟩ | ⟨g,cap,cur,rfl,hB,-⟩
  ·exact .inl rfl
  ·exact .inr ⟨g,rfl,hB⟩
 ·by_cases hroom:n+s.size<=cap
  ·have hr2:=Lib.run_append_room_string w t u ty e i ht hu hi hsize g n cap cur hg s hroom (by omega);rw[hr] at hr2;injection hr2 with e1 e2;subst e1;exact .inl rfl
  ·have hfit:=h63
   have hr2:=Lib.run_append_grow_string w t u ty e i (.int .u8 0) ht hu hi hz ⟨g,0,none⟩ n cap xs (by rw[hown.1,hsize]) (fun j x hx=>by
    have hj:j<n * 1:=by rw[<- hown.1];exact(ge_.1 hx).1
    rw[<- hcur,List.getElem?_take] at hx;simp only[if_pos hj] at hx;have e9:(⟨g,0,none⟩:Addr).add j=⟨g,j,none⟩:=by unfold Addr.add;by_cases h0:j=0 <;> simp[h0]
    rw[e9];simpa[World.cell?,hg] using hx) s (by omega) (by unfold maxLen at h63;omega) (by rw[hby];exact growslice_fits (by omega) (by omega))
   rw[hr] at hr2;injection hr2 with e1 e2;subst e1;exact .inr ⟨_,rfl,Nat.le_refl _⟩
theorem Nz {P:Program}{ops:Array Oper}{rest:List Oper}{o:Oper}{a:Act}{Q:Exit->Act->World->Prop}{w:World}(hgd:o.guard=none)(sl x:Operand)(t u:TypeId)(ho:o.op= .call { callee := .builtin .append,args:=#[sl,x],argTypes:=#[t,u] })(base:Nat)(e:TypeId)(i:TypeInfo)(ht:P.underlying t=some (.slice e))(hu:P.underlying u=some .string)(hi:P.info? e=some i)(hz:i.zero=some (.int .u8 0))(hsize:i.size=1)(hby:i.bytes=1)(v:Value)(n:Nat)(xs:List Value)(hs:a.eval sl=v)(hown:w.ownsRow base e 1 v n xs)(s:ByteArray)(hx:a.eval x= .string s)(h63:n+s.size<=maxLen)(hbytes:n+s.size<=140737488355328)(hbase:base<=w.heap.size)(h:∀ v' w',w'.ownsRow base e 1 v' (n+s.size) (xs++Lib.strCells s)->w.grownBy w' v.ownBlock->(v'.ownBlock=v.ownBlock\/∃ g,v'.ownBlock=some g/\w.heap.size<=g)->wpList P ops Q rest (a.put o.dst v') w'):wpList P ops Q (o :: rest) a w :=
 wpList_plain hgd fun K hK=>by
  obtain⟨v',w',hr,h2,h3,h4⟩:=XO (P:=P) w base t u o.type e i ht hu hi hz hsize hby v n xs hown s h63 hbytes hbase;unfold Oper.wp execOp;simp only[ho,resolve,invoke,builtin,Sem.run_bind,Sem.run_pure,Result.andThen_ok,List.map_toArray,List.map_cons,List.map_nil,hs,hx,hr];exact hK _ _ (h v' w' h2 h3 h4)
set_option maxHeartbeats 1000000 in
set_option maxRecDepth 100000 in
theorem Pn (B b:Nat)(gs:Option Nat)(l:Sg.AO)(w:World)(h:On w B b gs l) :
  Calls Tryz.prog 53 #[.pointer (some ⟨b,0,none⟩)] w fun e w'=>e= .returned (.tuple #[])/\∃ v,w'.heap[b]? = some (.cells #[.pointer (some ⟨b,0,none⟩),v] 53 (0,0))/\w'.ownsRow B 5 1 v (Lib.byteCells l).length (Lib.byteCells l)/\v.ownBlock=gs/\AF (fun x=>x=b) w w':=by
 have h1:(Tryz.prog.info? 53).map (·.size)=some 2:=by kernel_rfl
 have hlies:liesAt Tryz.prog Tryz.prog.depth 53 (2 / Tryz.prog.cellsOf 53) 0 53 1=true:=by kernel_rfl
 obtain⟨j,hj,hjs⟩:=Option.map_eq_some_iff.1 h1;clear h1;obtain⟨hB,p,v,hp,hb,ho,hg,hne⟩:=h;rcases hp with rfl | rfl
 ·have h0:w.cell? ⟨b,0,none⟩=some (.pointer none):=by rw[Lib.cell_of_heap hb];rfl
  have hsh:w.shape? b=some (53,2):=by simp[World.shape?,hb]
  have hfz:w.frozen? ⟨b,0,none⟩=false:=Lib.frozen_of_heap hb 0;have hbl:=AA h0;have HO:=lh ho;have HBK:=lh hb;have HGS:=lh hg;have HNE:=lh hne;clear ho hg hne hb;go_enter Tryz.func53,Tryz.ntmps53;go_wp2;rw[Lib.run_to_unsafe w ⟨b,0,none⟩ Tryz.underlying51 Tryz.underlying132 hj (by rw[hjs];decide) hsh (Nat.zero_lt_succ 1)];simp only[Result.andThen];rw[Oper.upon_value];go_wp2;rw[run_callFunc_extern Tryz.func90 (by kernel_rfl) (by kernel_rfl) (by kernel_rfl) (e:=Extern.AbiNoEscape.same) (by kernel_rfl)];rw[Lib.run_noEscape];simp only[Result.andThen];rw[Oper.upon_value];go_wp2;rw[Lib.run_from_unsafe w ⟨b,0,none⟩ Tryz.underlying132 Tryz.underlying51 hj hsh hlies];simp only[Result.andThen];rw[Oper.upon_value];go_wp2;go_end0;refine⟨rfl,v,?_,?_,HGS.out,AF.set (F:=fun x=>x=b) (AF.rfl' _ w) (.inl rfl) _⟩
  ·have:=HBK.out;simp[World.setCell,Array.getElem?_modify,this]
  ·exact M8 HO.out (fun g e=>(AF.set (F:=fun x=>x=b) (AF.rfl' _ w) (.inl rfl) _).block g (Sw HO.out e).2 (fun e2=>HNE.out (by rw[<- HGS.out,e,e2])))
 ·have h0:w.cell? ⟨b,0,none⟩=some (.pointer (some ⟨b,0,none⟩)):=by rw[Lib.cell_of_heap hb];rfl
  have hbl:=AA h0;go_enter Tryz.func53,Tryz.ntmps53;go_wp2;rw[Lib.run_neq_ptr_same w _ Tryz.underlying51 hj];go_wp2;go_end0;exact⟨rfl,v,hb,ho,hg,AF.rfl' _ _⟩
theorem AF.gb {w w':World}{row:Option Nat}(h:w.grownBy w' row):AF (fun x=>row=some x) w w':=by
 obtain⟨h1,h2,h3,h4,h5⟩:=h;exact⟨h1,h2,h3,h4,fun k hk hn=>h5 k hk (fun e=>hn e.symm)⟩
set_option maxHeartbeats 2000000 in
set_option maxRecDepth 100000 in
theorem Qz (B b:Nat)(gs:Option Nat)(l s:Sg.AO)(w:World)(h:On w B b gs l)(hlen:l.length+s.length<=100000) :
  Calls Tryz.prog 19 #[.pointer (some ⟨b,0,none⟩),.string (ts s)] w fun e w'=>e= .returned (.tuple #[.int .i64 s.length,.nilIface])/\∃ gs',On w' B b gs' (l++s)/\AF (fun x=>x=b\/gs=some x) w w'/\(gs'=gs\/∃ g,gs'=some g/\w.heap.size<=g):=by
 obtain⟨i0,hi,hz0,hz1,hz2⟩:∃ i,Tryz.prog.info? 5=some i/\i.zero=some (.int .u8 0)/\i.size=1/\i.bytes=1:=by
  have hf:(Tryz.prog.info? 5).map (fun i=>(i.zero,i.size,i.bytes))=some (some (.int .u8 0),1,1):=by kernel_rfl
  obtain⟨i,h1,h2⟩:=Option.map_eq_some_iff.1 hf;simp only[Prod.mk.injEq] at h2;exact⟨i,h1,h2.1,h2.2.1,h2.2.2⟩
 have hbl:(Lib.byteCells l).length=l.length:=Lib.byteCells_length l;have hlt0:=(h.lt (.inl rfl)).2;have hBs:B<=w.heap.size:=by have:=h.1;omega
 have hne:gs≠some b:=by obtain⟨_,p,v,_,_,_,_,hne⟩:=h;exact hne
 have hB:=h.1;go_enter Tryz.func19,Tryz.ntmps19;go_wp2_with fail
 refine(Pn B b gs l _ h).mono ?_;rintro e w1 ⟨rfl,v,hbk,hown,hgs,hm1⟩;have c0:w1.cell? ⟨b,0,none⟩=some (.pointer (some ⟨b,0,none⟩)):=by rw[Lib.cell_of_heap hbk];rfl
 have c1:w1.cell? ⟨b,1,none⟩=some v:=by rw[Lib.cell_of_heap hbk];rfl
 have hsz1:=hm1.size;go_wp2_with (at_builtin;refine Nz rfl _ _ 28 9 rfl B 5 i0 Tryz.underlying28 Tryz.underlying9 hi hz0 hz1 hz2 _ _ _ rfl hown (ts s) rfl ?c3 ?c4 ?c5 ?_)
 case c3=>rw[hbl,BB];unfold maxLen;omega
 case c4=>rw[hbl,BB];omega
 case c5=>omega
 intro v' w2 hown' hgrow hat;have hlt:b<w1.heap.size:=Pm hbk
 have hb2:w2.heap[b]? = some (.cells #[.pointer (some ⟨b,0,none⟩),v] 53 (0,0)):=by
  rw[hgrow.block b hlt (fun e=>hne e.symm)];exact hbk
 have d0:w2.cell? ⟨b,0,none⟩=some (.pointer (some ⟨b,0,none⟩)):=by rw[Lib.cell_of_heap hb2];rfl
 have d1:w2.cell? ⟨b,1,none⟩=some v:=by rw[Lib.cell_of_heap hb2];rfl
 have f1:w2.frozen? ⟨b,1,none⟩=false:=Lib.frozen_of_heap hb2 1;have HM:=lh (show AF (fun x=>x=b\/gs=some x) w w2 from (hm1.mono (F':=fun x=>x=b\/gs=some x) (fun _ _ e=>.inl e)).tr (AF.gb hgrow) (fun x e=>.inl (.inr e)))
 have HNB:=lh (show v'.ownBlock≠some b from fun e=>by
  rcases hat with h | ⟨g,h,hg⟩
  ·exact hne (h.symm.trans e)
  ·rw[e] at h;injection h with h;omega)
 have HAT2:=lh (show v'.ownBlock=gs\/∃ g,v'.ownBlock=some g/\w.heap.size<=g from hat.imp id fun ⟨g,h,hg⟩=>⟨g,h,by omega⟩);have HO:=lh hown';have HGS:=lh hgs;clear hat hgs
 obtain⟨ao,n',cap,rfl⟩:∃ ao n' cap,v'= .slice ao n' cap:=by
  rcases hown'.2 with ⟨hv,_⟩ | ⟨g,cap,cur,hv,_⟩
  ·exact⟨_,_,_,hv⟩
  ·exact⟨_,_,_,hv⟩
 clear hown';go_wp2;go_ret2;refine⟨rfl,_,⟨hB,_,_,.inr rfl,?_,?_,rfl,?_⟩,HM.out.set (p:=⟨b,1,none⟩) (.inl (.inl rfl)) _,HAT2.out⟩
 ·simp[World.setCell,Array.getElem?_modify,hb2]
 ·have e1:Lib.byteCells (l++s)=Lib.byteCells l++Lib.strCells (ts s):=by simp[Lib.byteCells,Lib.strCells]
  have e2:(Lib.byteCells (l++s)).length=l.length+s.length:=by rw[Lib.byteCells_length,List.length_append]
  rw[e2,e1];exact M8 HO.out (fun g e=>(AF.set (F:=fun x=>x=b) (p:=⟨b,1,none⟩) (AF.rfl' _ w2) (.inl rfl) _).block g (Sw HO.out e).2 (fun e2=>HNB.out (by rw[e,e2])))
 ·exact HNB.out
end Go.Proofs.YthibllkleakiiaaGreatDoor
