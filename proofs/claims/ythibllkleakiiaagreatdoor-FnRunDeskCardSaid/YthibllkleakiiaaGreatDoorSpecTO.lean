/- Parts of one proof, joined. The reference's StaleOf and LazyCells: contracts. Conditions: bounds on lengths. -/
import Derived.Deep.QuietTactic
import Derived.BigQuiet
import Derived.Deep.RegionHeld3
import Derived.Handy
import Derived.Test.YthibllkleakiiaaGreatDoorSpecTwo
import Derived.Test.YthibllkleakiiaaGreatDoorReg
import Derived.Test.YthibllkleakiiaaGreatDoorPlN
namespace Sg
def Ec:List Nat->Nat->Int
 | [],L=>L
 | n :: r,L=>if L<n then -1 else Ec r (L - n)
def Tt (ns:List Nat)(L:Nat):Int:=if L<ns.length then -1 else Ec ns (L - ns.length)
theorem NH:∀ (ns:List Nat)(L:Nat),0<=Ec ns L->(∀ n ∈ ns,n<=L)/\∃ M:Nat,M<=L/\Ec ns L=M
 | [],L,_=>⟨fun n hn=>(by cases hn),L,Nat.le_refl _,rfl⟩
 | n :: r,L,h=>by
  unfold Ec at h ⊢;split at h
  ·omega
  ·rename_i hl
   rw[if_neg hl];obtain⟨h1,M,h2,h3⟩:=NH r (L - n) h;refine⟨fun m hm=>?_,M,by omega,h3⟩;rcases List.mem_cons.1 hm with rfl | hm
   ·omega
   ·have:=h1 m hm;omega
theorem Xc (ns:List Nat)(L:Nat)(h:0<=Tt ns L):ns.length<=L/\(∀ n ∈ ns,n<=L)/\∃ M:Nat,M<=L/\Tt ns L=M:=by
 unfold Tt at h ⊢;split at h
 ·omega
 ·rename_i hl
  rw[if_neg hl];obtain⟨h1,M,h2,h3⟩:=NH ns _ h;exact⟨by omega,fun n hn=>by have:=h1 n hn;omega,M,by omega,h3⟩
end Sg
namespace Go.Proofs.YthibllkleakiiaaGreatDoor
open Go.RowKit
def Sc (w:World)(A:Option Addr)(g:Sg.Ae):Prop :=
 g.length<=maxLen/\∀ (i:Nat) (n:Sg.BV),g[i]? = some n->∃ b o Ap cp,A=some ⟨b,o,none⟩/\w.cell? ⟨b,o+i * 2,none⟩=some (.int .i64 n.kind) /\
  w.cell? ⟨b,o+i * 2+1,none⟩=some (.slice Ap n.f.length cp)/\Rd w 5 Ap n.f.length (AH n.f)
theorem Sc.ext {w w':World}{A:Option Addr}{g:Sg.Ae}(h:Sc w A g)(e:Aa w w'):Sc w' A g :=
 ⟨h.1,fun i n hn=>let ⟨b,o,Ap,cp,ha,h1,h2,h3⟩:=h.2 i n hn;⟨b,o,Ap,cp,ha,e.cellE h1,e.cellE h2,h3.ext e⟩⟩
theorem Sc.at_ {w:World}{A:Option Addr}{g:Sg.Ae}(h:Sc w A g){i:Nat}(hi:i<g.length):∃ n b o Ap cp,g[i]? = some n/\A=some ⟨b,o,none⟩/\w.cell? ⟨b,o+i * 2,none⟩=some (.int .i64 n.kind) /\
  w.cell? ⟨b,o+i * 2+1,none⟩=some (.slice Ap n.f.length cp)/\Rd w 5 Ap n.f.length (AH n.f):=by
 have hx:g[i]? = some g[i]:=gg hi;obtain⟨b,o,Ap,cp,r⟩:=h.2 i _ hx;exact⟨_,b,o,Ap,cp,hx,r⟩
def T7 (w:World)(A:Option Addr)(ll:List (List Int)):Prop :=
 ll.length<=maxLen/\∀ (i:Nat) (l:List Int),ll[i]? = some l->∃ b o Al cl,A=some ⟨b,o,none⟩/\w.cell? ⟨b,o+i,none⟩=some (.slice Al l.length cl)/\Rd w 1 Al l.length (Ah l)
theorem T7.ext {w w':World}{A:Option Addr}{ll:List (List Int)}(h:T7 w A ll)(e:Aa w w'):T7 w' A ll :=
 ⟨h.1,fun i l hl=>let ⟨b,o,Al,cl,ha,h1,h2⟩:=h.2 i l hl;⟨b,o,Al,cl,ha,e.cellE h1,h2.ext e⟩⟩
theorem T7.at_ {w:World}{A:Option Addr}{ll:List (List Int)}(h:T7 w A ll){i:Nat}(hi:i<ll.length):∃ l b o Al cl,ll[i]? = some l/\A=some ⟨b,o,none⟩/\w.cell? ⟨b,o+i,none⟩=some (.slice Al l.length cl)/\Rd w 1 Al l.length (Ah l):=by
 have hx:ll[i]? = some ll[i]:=gg hi;obtain⟨b,o,Al,cl,r⟩:=h.2 i _ hx;exact⟨_,b,o,Al,cl,hx,r⟩
end Go.Proofs.YthibllkleakiiaaGreatDoor
namespace Sg
end Sg
namespace Go.Proofs.YthibllkleakiiaaGreatDoor
open Go.RowKit
theorem WY (hs:List Value)(k n:Nat)(h:hs.length=k)(hk:k<n)(z x:Value):(hs++List.replicate (n - k) z).set k x=(hs++[x])++List.replicate (n - (k+1)) z:=by
 rw[List.set_append_right _ _ (by omega),h,Nat.sub_self,show n - k=(n - (k+1))+1 from by omega,List.replicate_succ,List.set_cons_zero,List.append_assoc];rfl
def zs (m:Nat):List Value:=(List.replicate m [Value.int .i64 0,.slice none 0 0]).flatten
open Go.RowKit
def CO (g:Sg.Ae)(cells:List Int)(k:Nat):Bool:=(List.range k).all (Sg.Gg g cells)
theorem LU (g:Sg.Ae)(cells:List Int)(k:Nat):CO g cells (k+1)=(CO g cells k && Sg.Gg g cells k):=by unfold CO;rw[List.range_succ,List.all_append];simp
theorem OR (g:Sg.Ae)(cells:List Int)(k:Nat)(hk:k<cells.length)(h:Sg.Gg g cells k=false):Sg.AT g cells=false:=by
 have:(List.range cells.length).all (Sg.Gg g cells)=false:=by
  rw[List.all_eq_false];exact⟨k,by rw[List.mem_range];exact hk,by rw[h];simp⟩
 unfold Sg.AT;rw[this];simp
theorem Od {g:Sg.Ae}{cells:List Int}{k:Nat}{n:Sg.BV}{x:Int}(hn:g[k]? = some n)(hx:cells[k]? = some x):Sg.Gg g cells k=(Sg.Cb x 0 999 && (decide (n.kind=0) || decide (x=0))):=by
 unfold Sg.Gg Sg.CU;simp[hn,hx]
set_option maxRecDepth 100000 in
set_option maxHeartbeats 1000000 in
theorem Kt (A Ac:Option Addr)(c cc:Nat)(g:Sg.Ae)(l:List Int)(w:World)(h:Eg w A g)(hc:Rd w 1 Ac l.length (Ah l)) :
  Calls Tryz.prog 30 #[.agg #[.slice A g.length c],.slice Ac l.length cc] w fun e w'=>e= .returned (.bool (Sg.AT g l))/\Aa w w':=by
 have hgl:=h.1;have hll:=hc.big;have e0:=(Aa.rfl' w).al (.cells #[.slice A g.length c] 35);have h0:=h.ext e0;have hc0:=hc.ext e0;by_cases hlen:l.length=g.length
 case neg =>
  have b1:((l.length:Int) != (g.length:Int))=true:=by simp;omega
  have Hb:=lh hlen;clear hlen;go_enter Tryz.func30,Tryz.ntmps30;go_wp2;go_ret;exact⟨Aj (by unfold Sg.AT;simp[Hb.out]),e0⟩
 have b1:((l.length:Int) != (g.length:Int))=false:=by simp;omega
 have Hlen:=lh hlen;have HE:=lh e0;clear hlen e0;go_enter Tryz.func30,Tryz.ntmps30;go_wp2;go_loop [5] (fun i=>∃ k:Nat,k<=l.length/\i= .int .i64 k/\CO g l k=true) (fun i=>l.length - (intOf i).toNat)
 case atStart=>exact⟨0,Nat.zero_le _,rfl,rfl⟩
 case round =>
  obtain⟨k,hk,rfl,hco⟩:=hrel;have HC:=lh hco;clear hco;by_cases hlt:k<l.length
  ·have hkg:k<g.length:=by have:=Hlen.out;omega
   obtain⟨⟨nk,nf⟩,b,o,Ap,cp,hn,rfl,hkc,hs,_,_⟩:=h0.at_ hkg;obtain⟨bc,oc,x,rfl,hx,hxc⟩:=hc0.at1 hlt;have hok:=lh (Od hn hx);dsimp only at *;have hb1:=AA hkc;have hb2:=AA hxc;clear hn hx;cases hin:Sg.Cb x 0 999
   ·have Hin:=lh hin;clear hin;go_wp2_with (go_at_call 39;refine(Cx _ _ _ _).mono ?_;rintro e w' ⟨rfl,rfl⟩;rw[Hin.out])
    go_ret;exact⟨Aj (OR g l k hlt (by rw[hok.out,Hin.out];rfl)).symm,HE.out⟩
   ·have Hin:=lh hin;clear hin;by_cases hz:nk=0
    ·have z1:(nk != 0)=false:=by simp[hz]
     have Hz:=lh hz;clear hz;go_wp2_with (go_at_call 39;refine(Cx _ _ _ _).mono ?_;rintro e w' ⟨rfl,rfl⟩;rw[Hin.out])
     go_round
     case rel=>exact⟨k+1,by omega,by go_num,by rw[LU,HC.out,hok.out,Hin.out,Hz.out];rfl⟩
     case measure=>simp[intOf];omega
    ·have z1:(nk != 0)=true:=by simp[hz]
     have Hz:=lh hz;clear hz;by_cases hx0:x=0
     ·have z2:(x != 0)=false:=by simp[hx0]
      have Hx:=lh hx0;clear hx0;go_wp2_with (go_at_call 39;refine(Cx _ _ _ _).mono ?_;rintro e w' ⟨rfl,rfl⟩;rw[Hin.out])
      go_round
      case rel=>exact⟨k+1,by omega,by go_num,by rw[LU,HC.out,hok.out,Hin.out,Hx.out];simp⟩
      case measure=>simp[intOf];omega
     ·have z2:(x != 0)=true:=by simp[hx0]
      have Hx:=lh hx0;clear hx0;go_wp2_with (go_at_call 39;refine(Cx _ _ _ _).mono ?_;rintro e w' ⟨rfl,rfl⟩;rw[Hin.out])
      go_ret;exact⟨Aj (OR g l k hlt (by rw[hok.out];simp[Hz.out,Hx.out])).symm,HE.out⟩
  ·obtain rfl:k=l.length:=by omega
   go_wp2;go_ret;exact⟨Aj (by unfold Sg.AT;have:=HC.out;unfold CO at this;rw[this];simp[Hlen.out]),HE.out⟩
theorem MK {g:Sg.Ae}{cells out:List Int}{k:Nat}{n:Sg.BV}{x:Int}(hn:g[k]? = some n)(hx:cells[k]? = some x)(h:n.kind=0):Sg.I6 g cells out k=x:=by simp[Sg.I6,hn,hx,h]
theorem ML {g:Sg.Ae}{cells out:List Int}{k:Nat}{n:Sg.BV}(hn:g[k]? = some n)(h:¬ n.kind=0):Sg.I6 g cells out k=(Sg.AJ n.f out).1:=by simp[Sg.I6,hn,h]
theorem MM {g:Sg.Ae}{v:List Int}{k:Nat}{n:Sg.BV}(hn:g[k]? = some n)(h:n.kind=0):Sg.Cf g v k=[]:=by simp[Sg.Cf,hn,h]
theorem IY {g:Sg.Ae}{v:List Int}{k:Nat}{n:Sg.BV}(hn:g[k]? = some n)(h:¬ n.kind=0):Sg.Cf g v k=(Sg.AJ n.f v).2:=by simp[Sg.Cf,hn,h]
set_option maxRecDepth 100000 in
set_option maxHeartbeats 2000000 in
theorem T8 (A Ac:Option Addr)(c cc:Nat)(g:Sg.Ae)(l:List Int)(w:World)(h:Eg w A g)(hc:Rd w 1 Ac l.length (Ah l))(hG:Sg.AG g=true)(hC:Sg.AT g l=true) :
  Calls Tryz.prog 31 #[.agg #[.slice A g.length c],.slice Ac l.length cc] w fun e w'=>∃ A' c',e= .returned (.slice A' g.length c')/\Au w' w.heap.size 3 1 A' g.length c' (Ah (Sg.BF g l))/\Aa w w':=by
 have hgl:=h.1;have Hlen:=lh (Sg.Cu hC);have e0:=(Aa.rfl' w).al (.cells #[.slice A g.length c] 35);have hbox:(w.alloc (.cells #[.slice A g.length c] 35)).cell? ⟨w.heap.size,0,none⟩=some (.slice A g.length c):=by simp[go_sem]
 have H:=lh h;have Hc:=lh hc;have HG:=lh hG;have HC:=lh hC;have HE:=lh e0;have HB:=lh hbox;clear h hc hG hC e0 hbox;go_enter Tryz.func31,Tryz.ntmps31;go_wp2;go_loopw [5,6] (fun v i wr=>∃ (k:Nat) (A':Option Addr) (c':Nat),k<=g.length/\i= .int .i64 k/\v= .slice A' k c'/\Au wr (w.heap.size+1) 3 1 A' k c' (Ah (Sg.AY g l k))/\Aa (w.alloc (.cells #[.slice A g.length c] 35)) wr) (fun _ i _=>g.length - (intOf i).toNat)
 case atStart=>exact⟨0,_,_,Nat.zero_le _,rfl,rfl,by have:=Au.nw (Aa.rfl' (w.alloc (.cells #[.slice A g.length c] 35))) (w.heap.size+1) [] #[] rfl (by simp) (by simp);simp only[World.size_alloc] at this;exact this,xr.al _⟩
 case round =>
  obtain⟨k,A',c',hk,rfl,rfl,hown,he⟩:=hrel;have q0:=he.cellE HB.out;have hsz:=he.size;simp only[World.size_alloc] at hsz;have Ho:=lh hown;have He:=lh he;clear hown he;have hb0:=AA q0;by_cases hlt:k<g.length
  ·have hkl:k<l.length:=by have:=Hlen.out;omega
   obtain⟨⟨nk,nf⟩,b,o,Ap,cp,hn,rfl,hkc,hs,hf,hfl⟩:=(H.out.ext (HE.out.tr He.out)).at_ hlt;obtain⟨bc,oc,x,rfl,hx,hxc⟩:=(Hc.out.ext (HE.out.tr He.out)).at1 hkl;dsimp only at *;have hb1:=AA hkc;have hb2:=AA hxc;by_cases hz:nk=0
   ·have z1:(nk != 0)=false:=by simp[hz]
    have hv:=lh (show Sg.AY g l (k+1)=Sg.AY g l k++[x] by simp only[Sg.AY];rw[MK hn hx hz]);clear hn hx hz;go_wp2_with (at_builtin;refine AB rfl rfl Bc rfl Ho.out rfl rfl (Bn _ _) (by omega) (by omega) hsz ?_;intro A2 c2 w2 hown2 hg2 hat2)
    have Ho2:=lh hown2;have Hg2:=lh hg2;clear hown2 hg2 hat2;go_wp2;go_roundw
    case rel=>exact⟨k+1,A2,c2,by omega,by go_num,rfl,by rw[hv.out];simpa using Ho2.out,He.out.gr Hg2.out fun g hg=>by simpa using (Ho.out.lt hg).1⟩
    case measure=>simp[intOf];omega
   ·have z1:(nk != 0)=true:=by simp[hz]
    have hok:=lh (Sg.Bo HG.out k hn hz);have hran:=lh (Sg.Gq HG.out HC.out k hk);have hv:=lh (show Sg.AY g l (k+1)=Sg.AY g l k++[(Sg.AJ nf (Sg.AY g l k)).1] by simp only[Sg.AY];rw[ML hn hz]);have HR:=lh (fun w hf hv=>SY Ap A' cp c' k nf (Sg.AY g l k) hok.out hran.out w hf hv);have Hf:=lh hf;clear hn hx hz hf;obtain⟨rs,hrs⟩:∃ rs,rs=Sg.AJ nf (Sg.AY g l k):=⟨_,rfl⟩;rw[<- hrs] at hv HR;have Hrs:=lh hrs;clear hrs;go_wp2_with fail
    refine(HR.out _ Hf.out Ho.out.rd).mono ?_;rintro e w1 ⟨A3,c3,rfl,ho3,he3,hx0,hx1⟩;have q1:=he3.cellE q0;have Ho1:=lh (Ho.out.ext he3);have He1:=lh (He.out.tr he3);have hsz1:w.heap.size+1<=w1.heap.size:=by have:=he3.size;omega
    clear ho3 he3;go_wp2_with (at_builtin;refine AB rfl rfl Bc rfl Ho1.out rfl rfl (Bn _ _) (by omega) (by omega) hsz1 ?_;intro A2 c2 w2 hown2 hg2 hat2)
    have Ho2:=lh hown2;have Hg2:=lh hg2;clear hown2 hg2 hat2;go_wp2;go_roundw
    case rel=>exact⟨k+1,A2,c2,by omega,by go_num,rfl,by rw[hv.out];simpa using Ho2.out,He1.out.gr Hg2.out fun g hg=>by simpa using (Ho1.out.lt hg).1⟩
    case measure=>simp[intOf];omega
  ·obtain rfl:k=g.length:=by omega
   go_wp2;go_ret;exact⟨A',c',rfl,Ho.out.mono (by omega),HE.out.tr He.out⟩
set_option maxRecDepth 100000 in
set_option maxHeartbeats 1000000 in
theorem Xp (A Av:Option Addr)(c cv:Nat)(g:Sg.Ae)(v:List Int)(k:Nat)(w:World)(h:Eg w A g)(hv:Rd w 1 Av v.length (Ah v))(hG:Sg.AG g=true)(hk:k<g.length)(hvl:v.length=g.length)(hin:Sg.Bq v) :
  Calls Tryz.prog 32 #[.agg #[.slice A g.length c],.slice Av v.length cv,.int .i64 k] w fun e w'=>∃ A' c',e= .returned (.slice A' (Sg.Cf g v k).length c')/\Au w' w.heap.size 3 1 A' (Sg.Cf g v k).length c' (Ah (Sg.Cf g v k))/\Aa w w':=by
 have hgl:=h.1;have e0:=(Aa.rfl' w).al (.cells #[.slice A g.length c] 35);obtain⟨⟨nk,nf⟩,b,o,Ap,cp,hn,rfl,hkc,hs,hf,hfl⟩:=(h.ext e0).at_ hk;dsimp only at *;have hb1:=AA hkc;by_cases hz:nk=0
 ·have z1:(nk == 0)=true:=by simp[hz]
  have hd:=lh (MM (v:=v) hn hz);clear hn hz hf h hvl;go_enter Tryz.func32,Tryz.ntmps32;go_wp2;go_ret;rw[hd.out];exact⟨_,_,rfl,Au.nw ((Aa.rfl' w).al _) _ [] #[] rfl (by simp) (by simp),((Aa.rfl' w).al _).al _⟩
 ·have z1:(nk == 0)=false:=by simp[hz]
  have hok:=Sg.Bo hG k hn hz;have hok':Sg.TA nf v.length:=⟨hok.good,hok.len,hok.one,fun p hp h1=>by have:=hok.reads p hp h1;omega⟩;have hd:=lh (IY (v:=v) hn hz);have HR:=lh (fun w hf hv=>SY Ap Av cp cv v.length nf v hok' hin w hf hv);have Hf:=lh hf;have Hv:=lh (hv.ext e0);clear hn hz hf h hok hok' hv hvl;go_enter Tryz.func32,Tryz.ntmps32;go_wp2_with fail
  refine(HR.out _ Hf.out Hv.out).mono ?_;rintro e w1 ⟨A3,c3,rfl,ho3,he3,hx0,hx1⟩;have Ho3:=lh ho3;have He3:=lh he3;clear ho3 he3;go_wp2;go_ret;rw[hd.out];exact⟨_,_,rfl,Ho3.out.mono (by simp),e0.tr He3.out⟩
theorem J6 (g:Sg.Ae)(v:List Int)(k:Nat):AK (Sg.Cv g v (k+1))=AK (Sg.Cv g v k)++[⟨[],(Sg.Cf g v k).length,Ah (Sg.Cf g v k)⟩]:=by rw[Sg.Pz];simp[AK]
theorem zf1{p:Prop}(h:p:=by
 refine DL 8 rfl fun K hK=>?_;refine CP rfl rfl Da rfl (Hout.out.ext e4) rfl rfl (GI _ _ _) (by omega) (by omega) (by have:=e4.size;have:=hsz;omega) ?_;intro A4 c4 w4 ho4 hg4 hat4;have hne:∀ b,b<w1.heap.size+1->AE A2≠some b:=fun b hb e=>by have:=(Hout.out.lt e).1;omega
 have j0:=AP hg4 k0 (hne _ (by omega));have j1:=AP hg4 k1 (hne _ (by omega));have j2:=AP hg4 k2 (hne _ (by omega));have jf:=Db hg4 kb (o:=1) (e4.frozen (p:=⟨w1.heap.size,1,none⟩) (by omega) |>.trans qf) (hne _ (by omega));have jb:=AA j2;clear hHeld;refine hK.out _ _ (by exact⟨j0,j1⟩) fun hHeld=>?_;clear hK K;try simp only[Act.put,List.setIfInBounds_toArray]
 refine tv 9 (v:=?_) ?_ ?_;rotate_left
 ·intro w hSw;(try dsimp only at hSw);go_simp;try with_reducible rfl
 try simp only[Act.put]
 refine DL 10 rfl fun K hK=>?_;go_simp;clear hHeld;refine hK.out _ _ (by exact⟨(co).trans j0,(co).trans j1⟩) fun hHeld=>?_;clear hK K;try simp only[Act.put]
 refine dn ?_;go_wp2;go_roundw
 case rel =>
  have hd2:Gi A4 (hs++[(A3,c3)]) w1.heap.size->False:=fun e=>by have:=(OD.out A3 c3 w2 A4 c4 w4 e4 ho3 ho4 hg4 hat4).lt e;omega
  refine⟨k+1,A4,c4,hs++[(A3,c3)],by omega,by go_num,?_,?_,?_,?_,?_⟩
  ·exact((ER.out.tr e4).gr hg4 (fun b hb=>by have:=(Hout.out.lt hb).1;simp;omega)).set (by simp) _
  ·refine(co).trans j1
  ·exact World.cell?_setCell_same _ _ _ j2
  ·rw[World.frozen?_setCell];exact jf
  ·unfold CG;rw[J6];exact(OD.out A3 c3 w2 A4 c4 w4 e4 ho3 ho4 hg4 hat4).below (by simp) _
 case measure=>simp[intOf];omega):p:=h
theorem zh1{p:Prop}(h:p:=by
 refine DL 7 rfl fun K hK=>?_;go_simp;clear hHeld;refine hK.out _ _ (by exact⟨(xr.al _).cellE k0,(xr.al _).cellE k1⟩) fun hHeld=>?_;clear hK K;try simp only[Act.put,pu]
 exact zf1):p:=h
set_option maxRecDepth 100000 in
set_option maxHeartbeats 4000000 in
theorem OT (A Ac:Option Addr)(c cc:Nat)(g:Sg.Ae)(l:List Int)(w:World)(h:Eg w A g)(hc:Rd w 1 Ac l.length (Ah l))(hG:Sg.AG g=true)(hC:Sg.AT g l=true) :
  Calls Tryz.prog 13 #[.agg #[.slice A g.length c],.slice Ac l.length cc] w fun e w'=>∃ A1 c1 A2 c2 hs,e= .returned (.agg #[.slice A1 g.length c1,.slice A2 g.length c2]) /\
   Au w' w.heap.size 3 1 A1 g.length c1 (Ah (Sg.BF g l))/\CG w' w.heap.size A2 c2 (Sg.Cv g (Sg.BF g l) g.length) hs/\(∀ b,AE A1=some b->¬ Gi A2 hs b)/\Aa w w':=by
 have hgl:=h.1;have e0:=((Aa.rfl' w).al (.cells #[.slice A g.length c] 35)).al (.cells #[.slice none 0 0,.slice none 0 0] 41);have HM:=lh (fun w h hc=>T8 A Ac c cc g l w h hc hG hC);have hran:=Sg.Gq hG hC g.length (Nat.le_refl _);have HDD:=fun (Av:Option Addr) (cv:Nat) (k:Nat) (w:World) (hk:k<g.length) (h:Eg w A g) (hv:Rd w 1 Av (Sg.BF g l).length (Ah (Sg.BF g l)))=>Xp A Av c cv g (Sg.BF g l) k w h hv hG hk (by simp) hran;simp only[Sg.length_mean] at HDD;have HDH:=lh HDD;have H:=lh h;have Hc:=lh hc;have HE:=lh e0;have hbox:((w.alloc (.cells #[.slice A g.length c] 35)).alloc (.cells #[.slice none 0 0,.slice none 0 0] 41)).cell? ⟨w.heap.size,0,none⟩=some (.slice A g.length c):=by simp[go_sem]
 have hres0:((w.alloc (.cells #[.slice A g.length c] 35)).alloc (.cells #[.slice none 0 0,.slice none 0 0] 41)).cell? ⟨w.heap.size+1,0,none⟩=some (.slice none 0 0):=by simp[go_sem]
 have hres1:((w.alloc (.cells #[.slice A g.length c] 35)).alloc (.cells #[.slice none 0 0,.slice none 0 0] 41)).cell? ⟨w.heap.size+1,1,none⟩=some (.slice none 0 0):=by simp[go_sem]
 have hresf:∀ j,((w.alloc (.cells #[.slice A g.length c] 35)).alloc (.cells #[.slice none 0 0,.slice none 0 0] 41)).frozen? ⟨w.heap.size+1,j,none⟩=false:=fun j=>by simp[go_sem]
 clear h hc hG hC e0 HDD hran;go_enter Tryz.func13,Tryz.ntmps13;go_wp2_with fail
 refine(HM.out _ (H.out.ext HE.out) (Hc.out.ext HE.out)).mono ?_;rintro e w1 ⟨A1,c1,rfl,ho1,he1⟩;have p0:=he1.cellE hbox;have r0:=he1.cellE hres0;have r1:=he1.cellE hres1;have rf:∀ j,w1.frozen? ⟨w.heap.size+1,j,none⟩=false:=fun j=>(he1.frozen (p:=⟨w.heap.size+1,j,none⟩) (by simp)).trans (hresf j);have hb1:=AA r0;have Ho:=lh ho1;have E1:=lh (HE.out.tr he1);have hnA1:∀ b,b<w.heap.size+1+1->AE A1≠some b:=fun b hb e=>by have:=(ho1.lt e).1;simp at this;omega
 have HnA1:=lh hnA1;clear ho1 he1 hbox hres0 hres1 hresf hnA1;go_wp2
 go_loopw [6] (fun i wr=>∃ (k:Nat) (A2:Option Addr) (c2:Nat) (hs:List (Option Addr × Nat)),k<=g.length/\i= .int .i64 k/\Aa w1 wr/\wr.cell? ⟨w1.heap.size,0,none⟩=some (.slice A1 g.length c1)/\wr.cell? ⟨w1.heap.size,1,none⟩=some (.slice A2 k c2)/\wr.frozen? ⟨w1.heap.size,1,none⟩=false /\
   CG wr (w1.heap.size+1) A2 c2 (Sg.Cv g (Sg.BF g l) k) hs) (fun i _=>g.length - (intOf i).toNat)
 case atStart =>
  refine⟨0,none,0,[],Nat.zero_le _,rfl,xr.al _,by simp[go_sem],by simp[go_sem],by simp[go_sem],?_⟩;exact Bj.nil _ _ _ _ _ _
 case round =>
  obtain⟨k,A2,c2,hs,hk,rfl,he,q1,q2,qf,hown⟩:=hrel;have q0:=he.cellE p0;have t0:=he.cellE r0;have t1:=he.cellE r1;have hsz:w1.heap.size+1<=wr.heap.size:=AA q1;have hlen:(AK (Sg.Cv g (Sg.BF g l) k)).length=k:=by simp
  have Hout:Hid (Au wr (w1.heap.size+1) 36 1 A2 k c2 (A_ (AK (Sg.Cv g (Sg.BF g l) k)) hs)):=lh (by have:=hown.out;rw[hlen] at this;exact this);have Hv:=lh (Ho.out.rd.ext he);have EC:=lh (E1.out.tr he);have ER:=lh he;have Ho2:=lh hown;have Hlen:=lh hlen;have HD:=lh (fun k w hk h hv=>HDH.out A1 c1 k w hk h hv);have hbN:=AA q0;have hbS:=AA q1;clear he hown hlen;by_cases hlt:k<g.length
  ·have ed:=(Aa.rfl' wr).dr
   have OD:∀ (A3:Option Addr) (c3:Nat) (w2:World) (A4:Option Addr) (c4:Nat) (w4:World),Aa wr w2->Au w2 wr.heap.size 3 1 A3 (Sg.Cf g (Sg.BF g l) k).length c3 (Ah (Sg.Cf g (Sg.BF g l) k)) ->
     Au w4 (w1.heap.size+1) 36 1 A4 (k+1) c4 (A_ (AK (Sg.Cv g (Sg.BF g l) k)) hs++[.slice A3 (Sg.Cf g (Sg.BF g l) k).length c3])->w2.grownBy w4 (AE A2)->(AE A4=AE A2\/∃ g,AE A4=some g/\w2.heap.size<=g) ->
     Bj w4 (w1.heap.size+1) 36 1 3 1 A4 c4 (AK (Sg.Cv g (Sg.BF g l) k)++[⟨[],(Sg.Cf g (Sg.BF g l) k).length,Ah (Sg.Cf g (Sg.BF g l) k)⟩]) (hs++[(A3,c3)]):=by
    intro A3 c3 w2 A4 c4 w4 e ho3 ho4 hg hat;exact Bj.snoc Ho2.out e hsz (it:=⟨[],(Sg.Cf g (Sg.BF g l) k).length,Ah (Sg.Cf g (Sg.BF g l) k)⟩) ho3 (by rw[Hlen.out];exact ho4) hg hat
   have OD:=lh OD;clear p0 r0 r1 rf t0 t1;go_wp2_with fail
   refine wp_region_held_drew (S:=(fun W=>W.cell? ⟨w.heap.size,0,none⟩=some (.slice A g.length c)/\W.cell? ⟨w1.heap.size,0,none⟩=some (.slice A1 g.length c1))) (by kernel_rfl) ?_ (fun hHeld=>?_)
   ·exact⟨ed.cellE q0,ed.cellE q1⟩
   refine ty 0 ?_;refine ty 2 ?_;refine ty 3 ?_;refine ty 4 ?_;refine ty 5 ?_;refine wpAnyH_ready (rs:=[1,6]) (by kernel_rfl) (by simp) ?_;refine AllReadyH.cons rfl (fun K hK=>?_) ?_
   ·go_simp;clear hHeld;refine hK.out _ _ (by exact(by first | exact⟨ed.cellE q0,ed.cellE q1⟩ | exact⟨k0,k1⟩ | exact⟨(xr.al _).cellE k0,(xr.al _).cellE k1⟩)) fun hHeld=>?_;clear hK K;try simp only[Act.put,pu]
    refine DL 6 rfl fun K hK=>?_;go_simp;refine(HD.out k _ hlt (H.out.ext (EC.out.tr ed)) (Hv.out.ext ed)).mono ?_;rintro e w2 ⟨A3,c3,rfl,ho3,he3⟩;have k0:=(ed.tr he3).cellE q0;have k1:=(ed.tr he3).cellE q1;have k2:=(ed.tr he3).cellE q2;have kb:=AA k2;have e4:=ed.tr he3;try go_wp2_with fail
    clear hHeld;refine hK.out _ _ (by exact⟨k0,k1⟩) fun hHeld=>?_;clear hK K;try simp only[Act.put,pu]
    exact zh1
   refine AllReadyH.cons rfl (fun K hK=>?_) ?_
   ·go_simp;refine(HD.out k _ hlt (H.out.ext (EC.out.tr ed)) (Hv.out.ext ed)).mono ?_;rintro e w2 ⟨A3,c3,rfl,ho3,he3⟩;have k0:=(ed.tr he3).cellE q0;have k1:=(ed.tr he3).cellE q1;have k2:=(ed.tr he3).cellE q2;have kb:=AA k2;have e4:=ed.tr he3;try go_wp2_with fail
    clear hHeld;refine hK.out _ _ (by exact⟨k0,k1⟩) fun hHeld=>?_;clear hK K;try simp only[Act.put,pu]
    refine wpAnyH_ready (rs:=[1,7]) (by kernel_rfl) (by simp) ?_;refine AllReadyH.cons rfl (fun K hK=>?_) ?_
    ·go_simp;clear hHeld;refine hK.out _ _ (by exact(by first | exact⟨ed.cellE q0,ed.cellE q1⟩ | exact⟨k0,k1⟩ | exact⟨(xr.al _).cellE k0,(xr.al _).cellE k1⟩)) fun hHeld=>?_;clear hK K;try simp only[Act.put,pu]
     exact zh1
    refine AllReadyH.cons rfl (fun K hK=>?_) ?_
    ·go_simp;clear hHeld;refine hK.out _ _ (by exact⟨(xr.al _).cellE k0,(xr.al _).cellE k1⟩) fun hHeld=>?_;clear hK K;try simp only[Act.put,pu]
     refine DL 1 rfl fun K hK=>?_;go_simp;clear hHeld;refine hK.out _ _ (by exact(by first | exact⟨ed.cellE q0,ed.cellE q1⟩ | exact⟨k0,k1⟩ | exact⟨(xr.al _).cellE k0,(xr.al _).cellE k1⟩)) fun hHeld=>?_;clear hK K;try simp only[Act.put,pu]
     exact zf1
    exact AllReadyH.nil
   exact AllReadyH.nil
  ·obtain rfl:k=g.length:=by omega
   have tf:∀ j,wr.frozen? ⟨w.heap.size+1,j,none⟩=false:=fun j=>(ER.out.frozen (p:=⟨w.heap.size+1,j,none⟩) hb1).trans (rf j);have tf0:=tf 0;have tf1:=tf 1;have hbt:=AA t0;clear p0 r0 r1 rf tf;go_wp2;have g0:∀ u v:Value,((wr.setCell ⟨w.heap.size+1,0,none⟩ u).setCell ⟨w.heap.size+1,1,none⟩ v).cell? ⟨w.heap.size+1,0,none⟩=some u:=fun u v=>(co).trans (World.cell?_setCell_same _ _ _ t0);have g1:∀ u v:Value,((wr.setCell ⟨w.heap.size+1,0,none⟩ u).setCell ⟨w.heap.size+1,1,none⟩ v).cell? ⟨w.heap.size+1,1,none⟩=some v:=fun u v=>World.cell?_setCell_same _ _ _ (u := .slice none 0 0) ((co).trans t1);refine bodyPost_ret (v := .agg #[.slice A1 g.length c1,.slice A2 g.length c2]) (by simp[results,Tryz.results13,go_sem,g0,g1];try rfl) rfl ?_;have hx:=Ho.out.ext ER.out;refine⟨A1,c1,A2,c2,hs,rfl,(((hx.set (p:=⟨w.heap.size+1,0,none⟩) (HnA1.out _ (by simp)) _).set (p:=⟨w.heap.size+1,1,none⟩) (HnA1.out _ (by simp)) _).mono (by simp;omega)),((Ho2.out.below (p:=⟨w.heap.size+1,0,none⟩) (by simp;omega) _).below (p:=⟨w.heap.size+1,1,none⟩) (by simp;omega) _).mono (by omega),?_,(EC.out.set (by simp) _).set (by simp) _⟩;intro b hb hf;have h1:=(Ho.out.lt hb).2;have h2:=(Ho2.out.lt hf).1;omega
open Go.RowKit
theorem Tl (A B:Option Addr)(ca cb na nb:Nat)(a b:List Int)(w:World)(h:Rd w 1 A na (Ah a))(k:Rd w 1 B nb (Ah b)) :
  Calls Tryz.prog 74 #[.slice A na ca,.slice B nb cb] w fun e w'=>e= .returned (.bool (Sg.Lk a b))/\Aa w w':=by
 have hm:=h.big;obtain rfl:=h.len;have HP:=lh (fun n=>JJ B nb cb b n w k);have HN:=lh (fun n=>EV b n);go_enter Tryz.func74,Tryz.ntmps74;go_wp2;go_loop [5] (fun i=>∃ j:Nat,j<=a.length/\i= .int .i64 j/\((a.drop j).any fun x=>decide (x ∈ b))=Sg.Lk a b) (fun i=>a.length - (intOf i).toNat)
 case atStart=>exact⟨0,Nat.zero_le _,rfl,rfl⟩
 case round =>
  obtain⟨j,hj,rfl,hpl⟩:=hrel;by_cases hlt:j<a.length
  ·obtain⟨bb,o,x,rfl,hx,hc⟩:=h.at1 hlt;rw[DO a j hx,List.any_cons] at hpl;have H:=lh hpl;clear hpl hx;by_cases hr:x ∈ b
   ·have Hr:=lh (show decide (x ∈ b)=true by simpa using hr);have hp:decide (Dm b x ≥ 0)=true:=by have:=(HN.out x).1;simp only[decide_eq_true_eq];by_cases h0:Dm b x<0;exact absurd hr (this h0);omega
    clear hr;go_wp2_with (go_at_call 112;refine(HP.out _).mono ?_;rintro e w' ⟨rfl,rfl⟩)
    go_ret;exact⟨Aj (by rw[<- H.out,Hr.out];rfl),Aa.rfl' _⟩
   ·have Hr:=lh (show decide (x ∈ b)=false by simpa using hr);have hp:decide (Dm b x ≥ 0)=false:=by have:=(HN.out x).2 hr;simp only[decide_eq_false_iff_not];omega
    clear hr;go_wp2_with (go_at_call 112;refine(HP.out _).mono ?_;rintro e w' ⟨rfl,rfl⟩)
    go_round
    case rel=>exact⟨j+1,by omega,by go_num,by rw[<- H.out,Hr.out,Bool.false_or]⟩
    case measure=>simp[intOf];omega
  ·have H:=lh hpl;clear hpl;go_wp2;go_ret;exact⟨Aj (by rw[<- H.out,List.drop_eq_nil_of_le (by omega)];rfl),Aa.rfl' _⟩
open Go.RowKit
def MS (a b:List Int)(k:Nat):List Int:=Sg.Fi (a.take k) b
theorem WP (a b:List Int)(k:Nat){x:Int}(h:a[k]? = some x):MS a b (k+1)=if x ∈ b then MS a b k else MS a b k++[x]:=by
 unfold MS Sg.Fi;rw[C6 a k h,List.filter_append];by_cases hx:x ∈ b
 ·rw[if_pos hx];simp[hx]
 ·rw[if_neg hx];simp[hx]
theorem X8 (a b:List Int)(k:Nat):(MS a b k).length<=k:=by
 unfold MS Sg.Fi;have h1:=List.length_filter_le (fun x=>decide (x ∉ b)) (a.take k);have h2:(a.take k).length<=k:=by simp;omega
 omega
set_option maxHeartbeats 1000000 in
theorem Ut (A B:Option Addr)(ca cb nb:Nat)(a b:List Int)(w:World)(h:Rd w 1 A a.length (Ah a))(k:Rd w 1 B nb (Ah b))(hb:a.length<=4194304) :
  Calls Tryz.prog 145 #[.slice A a.length ca,.slice B nb cb] w fun e w'=>∃ A' c',e= .returned (.slice A' (Sg.Fi a b).length c')/\Au w' w.heap.size 3 1 A' (Sg.Fi a b).length c' (Ah (Sg.Fi a b))/\Aa w w':=by
 have HN:=lh (fun n=>EV b n);go_enter Tryz.func145,Tryz.ntmps145;go_wp2;go_loopw [5,6] (fun v i wr=>∃ (n:Nat) (A':Option Addr) (c':Nat),n<=a.length/\i= .int .i64 n/\v= .slice A' (MS a b n).length c'/\Au wr w.heap.size 3 1 A' (MS a b n).length c' (Ah (MS a b n))/\Aa w wr) (fun _ i _=>a.length - (intOf i).toNat)
 case atStart=>exact⟨0,_,_,Nat.zero_le _,rfl,rfl,Au.new w 3 1 #[] 0 (Nat.le_refl _) (by unfold maxLen;omega) rfl,(Aa.rfl' w).al _⟩
 case round =>
  obtain⟨n,A',c',hn,rfl,rfl,hown,hext⟩:=hrel;have hdl:=X8 a b n;by_cases hlt:n<a.length
  ·obtain⟨ba,oa,x,rfl,hx,hcx⟩:=(h.ext hext).at1 hlt;have H:=lh (WP a b n hx);have HP:=lh (JJ B nb cb b x wr (k.ext hext));clear hx;by_cases hxy:x ∈ b
   ·have e1:=H.out;rw[if_pos hxy] at e1;have E1:=lh e1;have hp:decide (Dm b x<0)=false:=by have:=(HN.out x).1;simp only[decide_eq_false_iff_not];intro h0;exact this h0 hxy
    clear e1 H hxy;go_wp2_with (go_at_call 112;refine HP.out.mono ?_;rintro e w' ⟨rfl,rfl⟩)
    go_roundw
    case rel=>exact⟨n+1,A',c',by omega,by go_num,by rw[E1.out],by rw[E1.out];exact hown,hext⟩
    case measure=>simp[intOf];omega
   ·have e1:=H.out;rw[if_neg hxy] at e1;have E1:=lh e1;have hp:decide (Dm b x<0)=true:=by have:=(HN.out x).2 hxy;simpa using this
    clear e1 H hxy
    go_wp2_with (first
     | (go_at_call 112;refine HP.out.mono ?_;rintro e w' ⟨rfl,rfl⟩)
     | (at_builtin;refine AB rfl rfl Bc rfl hown rfl rfl (Bn _ _) (by omega) (by omega) hext.size ?_;intro A2 c2 w2 hown2 hg2 hat2))
    go_roundw
    case rel=>exact⟨n+1,A2,c2,by omega,by go_num,by rw[E1.out];simp,by rw[E1.out];simpa using hown2,hext.gr hg2 fun g hg=>(hown.lt hg).1⟩
    case measure=>simp[intOf];omega
  ·obtain rfl:n=a.length:=by omega
   have e1:MS a b a.length=Sg.Fi a b:=by unfold MS;rw[List.take_length]
   rw[e1] at hown ⊢;go_wp2;go_ret;exact⟨A',c',rfl,hown,hext⟩
theorem LX (a b:Nat):((a:Int) == (b:Int))=decide (a=b):=by
 rw[Bool.eq_iff_iff,beq_iff_eq,decide_eq_true_eq];omega
section
variable {g:Sg.Ae} {v q:List Int} {r:List (List Int)} {k:Nat} {nk x qk:Int} {nf:List Sg.At} {l:List Int}
theorem Uu (hn:g[k]? = some ⟨nk,nf⟩)(hl:r[k]? = some l)(hq:q[k]? = some qk)(h0:nk=0):Sg.JM g ⟨v,r,q⟩ k=(decide (qk=0) && decide (l.length=0)):=by
 unfold Sg.JM;simp[hn,hl,hq,h0]
theorem SF (hn:g[k]? = some ⟨nk,nf⟩)(hl:r[k]? = some l)(hq:q[k]? = some qk)(h0:nk≠0)(h2:qk=2):Sg.JM g ⟨v,r,q⟩ k=(decide (l.length=(Sg.AU l).length) && decide ((Sg.Fi l (Sg.AX nf)).length=0)):=by
 unfold Sg.JM;simp[hn,hl,hq,h0,h2]
theorem Uv (hn:g[k]? = some ⟨nk,nf⟩)(hl:r[k]? = some l)(hq:q[k]? = some qk)(hx:v[k]? = some x)(h0:nk≠0)(h2:qk≠2) :
  Sg.JM g ⟨v,r,q⟩ k=((if qk=0 then (Sg.AJ nf v).2.all fun x=>Sg.rd q x == 0 else true) && decide ((Sg.AJ nf v).1=x) && decide ((Sg.AJ nf v).2=l)):=by
 unfold Sg.JM;simp[hn,hl,hq,hx,h0,h2]
end
set_option maxRecDepth 100000 in
set_option maxHeartbeats 4000000 in
theorem Pp (A Av Ar Aq:Option Addr)(c cv cr cq:Nat)(g:Sg.Ae)(v qs:List Int)(r:List (List Int))(k:Nat)(w:World)(h:Eg w A g)(hv0:Rd w 1 Av g.length (Ah v))(hr:Lq w Ar r)(hq0:Rd w 1 Aq g.length (Ah qs))(hrl:r.length=g.length)(hk:k<g.length)(hG:Sg.AG g=true)(hI:Sg.Bq v) :
  Calls Tryz.prog 111 #[.agg #[.slice A g.length c],.agg #[.slice Av g.length cv,.slice Ar g.length cr,.slice Aq g.length cq],.int .i64 k] w fun e w'=>e= .returned (.bool (Sg.JM g ⟨v,r,qs⟩ k))/\Aa w w':=by
 have hgl:=h.1;have e0:Aa w ((w.alloc (.cells #[.slice A g.length c] 35)).alloc (.cells #[.slice Av g.length cv,.slice Ar g.length cr,.slice Aq g.length cq] 44)):=((Aa.rfl' w).al _).al _;have m0:((w.alloc (.cells #[.slice A g.length c] 35)).alloc (.cells #[.slice Av g.length cv,.slice Ar g.length cr,.slice Aq g.length cq] 44)).cell? ⟨w.heap.size,0,none⟩=some (.slice A g.length c):=by simp[go_sem]
 have m1:((w.alloc (.cells #[.slice A g.length c] 35)).alloc (.cells #[.slice Av g.length cv,.slice Ar g.length cr,.slice Aq g.length cq] 44)).cell? ⟨w.heap.size+1,0,none⟩=some (.slice Av g.length cv):=by simp[go_sem]
 have m2:((w.alloc (.cells #[.slice A g.length c] 35)).alloc (.cells #[.slice Av g.length cv,.slice Ar g.length cr,.slice Aq g.length cq] 44)).cell? ⟨w.heap.size+1,1,none⟩=some (.slice Ar g.length cr):=by simp[go_sem]
 have m3:((w.alloc (.cells #[.slice A g.length c] 35)).alloc (.cells #[.slice Av g.length cv,.slice Ar g.length cr,.slice Aq g.length cq] 44)).cell? ⟨w.heap.size+1,2,none⟩=some (.slice Aq g.length cq):=by simp[go_sem]
 obtain⟨⟨nk,nf⟩,b,o,Ap,cp,hn,rfl,hkc,hsc,hf,hfl⟩:=(h.ext e0).at_ hk;dsimp only at *;obtain⟨l,bl,ol,Al,cl,hl0,rfl,hlc,hl,hll⟩:=(hr.ext e0).at_ (i:=k) (by omega);have hv:=hv0.ext e0;have hqr:=hq0.ext e0;obtain⟨bv,ov,x,rfl,hx,hxc⟩:=hv.at1 hk;obtain⟨bq,oq,q,rfl,hq,hqc⟩:=hqr.at1 hk;have bw3:=AA hkc;have bw4:=AA hlc;have bw5:=AA hxc;have bw6:=AA hqc;have ed:=(Aa.rfl' ((w.alloc (.cells #[.slice (some ⟨b,o,none⟩) g.length c] 35)).alloc (.cells #[.slice (some ⟨bv,ov,none⟩) g.length cv,.slice (some ⟨bl,ol,none⟩) g.length cr,.slice (some ⟨bq,oq,none⟩) g.length cq] 44))).dr;by_cases hz:nk=0
 ·have HC:=lh (Uu (v:=v) hn hl0 hq hz);have z0:(nk == 0)=true:=by simp[hz]
  clear hn hl0 hq hx hf hv0 hr hq0 h hG hI hz ed;by_cases hq0:q=0
  ·have z1:(q == 0)=true:=by simp[hq0]
   have z2:decide (q=0)=true:=by simp[hq0]
   rw[z2] at HC;clear hq0;go_enter Tryz.func111,Tryz.ntmps111;go_wp2;go_ret;exact⟨Aj (by rw[HC.out,Bool.true_and];exact LX _ 0),e0⟩
  ·have z1:(q == 0)=false:=by simp[hq0]
   have z2:decide (q=0)=false:=by simp[hq0]
   rw[z2] at HC;clear hq0;go_enter Tryz.func111,Tryz.ntmps111;go_wp2;go_ret;exact⟨Aj (by rw[HC.out,Bool.false_and]),e0⟩
 ·have z0:(nk == 0)=false:=by simp[hz]
  by_cases hq2:q=2
  ·have HC:=lh (SF (v:=v) hn hl0 hq hz hq2);have z1:(q == 2)=true:=by simp[hq2]
   have HFO:=lh (fun w h=>Ju Al l.length cl l w h (by omega));have HMR:=lh (fun w h=>Oj Ap cp nf w h hfl);have HMI:=lh (fun (A3:Option Addr) (c3:Nat) (w:World) (h:Rd w 1 Al l.length (Ah l)) (kk:Rd w 1 A3 (Sg.AX nf).length (Ah (Sg.AX nf)))=>Ut Al A3 cl c3 _ l (Sg.AX nf) w h kk (by omega));clear hn hl0 hq hx hv0 hr hq0 h hG hI hz hq2;by_cases hd:l.length=(Sg.AU l).length
   ·have z4:((l.length:Int) == ((Sg.AU l).length:Int))=true:=by rw[LX];simpa using hd
    have Z4:=lh (show decide (l.length=(Sg.AU l).length)=true by simpa using hd);clear hd;go_enter Tryz.func111,Tryz.ntmps111;go_wp2_with fail
    refine wp_region_held_drew (S:=(fun W=>W.cell? ⟨w.heap.size,0,none⟩=some (.slice (some ⟨b,o,none⟩) g.length c)/\W.cell? ⟨b,o+k * 2+1,none⟩=some (.slice Ap nf.length cp)/\W.cell? ⟨w.heap.size+1,1,none⟩=some (.slice (some ⟨bl,ol,none⟩) g.length cr)/\W.cell? ⟨bl,ol+k,none⟩=some (.slice Al l.length cl))) (by kernel_rfl) ?_ (fun hHeld=>?_)
    ·exact⟨ed.cellE m0,ed.cellE hsc,ed.cellE m2,ed.cellE hlc⟩
    refine ty 0 ?_;refine ty 1 ?_;refine ty 2 ?_;refine ty 3 ?_;refine ty 4 ?_;refine ty 5 ?_;refine ty 6 ?_;refine ty 7 ?_;refine ty 8 ?_;refine ty 9 ?_;refine ty 10 ?_;refine DL 11 rfl fun K hK=>?_;go_simp;refine(HFO.out _ (hl.ext ed)).mono ?_;rintro e w2 ⟨A2,c2,rfl,ho2,he2⟩;try go_wp2_with fail
    clear hHeld;refine hK.out _ _ (by exact⟨(ed.tr he2).cellE m0,(ed.tr he2).cellE hsc,(ed.tr he2).cellE m2,(ed.tr he2).cellE hlc⟩) fun hHeld=>?_;clear hK K;try simp only[Act.put,pu]
    refine ty 12 ?_;refine ty 13 ?_;refine ty 14 ?_;refine ty 15 ?_;refine ty 16 ?_;refine ty 17 ?_;refine ty 18 ?_;refine ty 19 ?_;refine ty 20 ?_;refine ty 21 ?_;refine ty 22 ?_;refine ty 23 ?_;refine ty 24 ?_;refine ty 25 ?_;refine DL 26 rfl fun K hK=>?_;go_simp;refine(HMR.out _ (hf.ext (ed.tr he2))).mono ?_;rintro e w3 ⟨A3,c3,rfl,ho3,he3⟩;try go_wp2_with fail
    clear hHeld;refine hK.out _ _ (by exact⟨(ed.tr (he2.tr he3)).cellE m0,(ed.tr (he2.tr he3)).cellE hsc,(ed.tr (he2.tr he3)).cellE m2,(ed.tr (he2.tr he3)).cellE hlc⟩) fun hHeld=>?_;clear hK K;try simp only[Act.put,pu]
    refine DL 27 rfl fun K hK=>?_;go_simp;refine(HMI.out A3 c3 _ (hl.ext (ed.tr (he2.tr he3))) ho3.rd).mono ?_;rintro e w4 ⟨A4,c4,rfl,ho4,he4⟩;try go_wp2_with fail
    clear hHeld;refine hK.out _ _ (by exact⟨(ed.tr ((he2.tr he3).tr he4)).cellE m0,(ed.tr ((he2.tr he3).tr he4)).cellE hsc,(ed.tr ((he2.tr he3).tr he4)).cellE m2,(ed.tr ((he2.tr he3).tr he4)).cellE hlc⟩) fun hHeld=>?_;clear hK K;try simp only[Act.put,pu]
    refine ty 28 ?_;refine ty 29 ?_;refine ty 30 ?_;refine ty 31 ?_;refine dn ?_;go_wp2;go_ret;exact⟨Aj (by rw[HC.out,Z4.out,Bool.true_and];exact LX _ 0),e0.tr (ed.tr ((he2.tr he3).tr he4))⟩
   ·have z4:((l.length:Int) == ((Sg.AU l).length:Int))=false:=by rw[LX];simpa using hd
    have Z4:=lh (show decide (l.length=(Sg.AU l).length)=false by simpa using hd);clear hd;go_enter Tryz.func111,Tryz.ntmps111;go_wp2_with fail
    refine wp_region_held_drew (S:=(fun W=>W.cell? ⟨w.heap.size,0,none⟩=some (.slice (some ⟨b,o,none⟩) g.length c)/\W.cell? ⟨b,o+k * 2+1,none⟩=some (.slice Ap nf.length cp)/\W.cell? ⟨w.heap.size+1,1,none⟩=some (.slice (some ⟨bl,ol,none⟩) g.length cr)/\W.cell? ⟨bl,ol+k,none⟩=some (.slice Al l.length cl))) (by kernel_rfl) ?_ (fun hHeld=>?_)
    ·exact⟨ed.cellE m0,ed.cellE hsc,ed.cellE m2,ed.cellE hlc⟩
    refine ty 0 ?_;refine ty 1 ?_;refine ty 2 ?_;refine ty 3 ?_;refine ty 4 ?_;refine ty 5 ?_;refine ty 6 ?_;refine ty 7 ?_;refine ty 8 ?_;refine ty 9 ?_;refine ty 10 ?_;refine DL 11 rfl fun K hK=>?_;go_simp;refine(HFO.out _ (hl.ext ed)).mono ?_;rintro e w2 ⟨A2,c2,rfl,ho2,he2⟩;try go_wp2_with fail
    clear hHeld;refine hK.out _ _ (by exact⟨(ed.tr he2).cellE m0,(ed.tr he2).cellE hsc,(ed.tr he2).cellE m2,(ed.tr he2).cellE hlc⟩) fun hHeld=>?_;clear hK K;try simp only[Act.put,pu]
    refine ty 12 ?_;refine ty 13 ?_;refine ty 14 ?_;refine tn 15 ?_;refine tn 16 ?_;refine tn 17 ?_;refine tn 18 ?_;refine tn 19 ?_;refine tn 20 ?_;refine tn 21 ?_;refine tn 22 ?_;refine tn 23 ?_;refine tn 24 ?_;refine tn 25 ?_;refine tn 26 ?_;refine tn 27 ?_;refine tn 28 ?_;refine tn 29 ?_;refine ty 30 ?_;refine ty 31 ?_;refine dn ?_;go_wp2;go_ret;exact⟨Aj (by rw[HC.out,Z4.out,Bool.false_and]),e0.tr (ed.tr he2)⟩
  ·have HC:=lh (Uv hn hl0 hq hx hz hq2);have z1:(q == 2)=false:=by simp[hq2]
   have hok:=Sg.Bo hG k hn hz;have hvlen:=hv.len
   have hread:(Sg.AJ nf v).2.length<=4194304:=by
    have h1:=JX (Sg.Cq nf v nf.length ((nf.length:Int) - 1)).2;have h2:=Sg.FY nf v nf.length ((nf.length:Int) - 1);have h3:2 ^ nf.length<=2 ^ 12:=Nat.pow_le_pow_right (by omega) hok.len;unfold Sg.AJ;dsimp only;omega
   have hdep:∀ z ∈ (Sg.AJ nf v).2,0<=z/\z<(g.length:Int):=fun z hz'=>by
    have:=Sg.GB hG (v:=v) hk (x:=z) (by rw[IY hn hz];exact hz');omega
   have HRUN:=lh (fun w hf hv=>SY Ap (some ⟨bv,ov,none⟩) cp cv g.length nf v ⟨hok.good,hok.len,hok.one,fun p hp hpk=>by have:=hok.reads p hp hpk;dsimp only at *;omega⟩ hI w hf hv);have HSI:=lh (fun (A2:Option Addr) (c2:Nat) (w:World) (h:Rd w 1 A2 (Sg.AJ nf v).2.length (Ah (Sg.AJ nf v).2)) (kk:Rd w 1 Al l.length (Ah l))=>Sp A2 Al c2 cl (Sg.AJ nf v).2 l w h kk hread);have HD:=lh hdep;generalize Sg.AJ nf v=RF at *;clear hn hl0 hq hx hv0 hr hq0 h hG hI hz hok hdep;go_enter Tryz.func111,Tryz.ntmps111;go_wp2_with fail
   refine wp_region_held_drew (S:=(fun W=>W.cell? ⟨w.heap.size,0,none⟩=some (.slice (some ⟨b,o,none⟩) g.length c)/\W.cell? ⟨b,o+k * 2+1,none⟩=some (.slice Ap nf.length cp)/\W.cell? ⟨w.heap.size+1,0,none⟩=some (.slice (some ⟨bv,ov,none⟩) g.length cv))) (by kernel_rfl) ?_ (fun hHeld=>?_)
   ·exact⟨ed.cellE m0,ed.cellE hsc,ed.cellE m1⟩
   refine ty 0 ?_;refine ty 1 ?_;refine ty 2 ?_;refine ty 3 ?_;refine ty 4 ?_;refine ty 5 ?_;refine ty 6 ?_;refine ty 7 ?_;refine DL 8 rfl fun K hK=>?_;go_simp;refine(HRUN.out _ (hf.ext ed) (hv.ext ed)).mono ?_;rintro e w2 ⟨A2,c2,rfl,ho2,he2,hx0,hx1⟩;try go_wp2_with fail
   clear hHeld;refine hK.out _ _ (by exact⟨(ed.tr he2).cellE m0,(ed.tr he2).cellE hsc,(ed.tr he2).cellE m1⟩) fun hHeld=>?_;clear hK K;try simp only[Act.put,pu]
   refine ty 9 ?_;refine ty 10 ?_;refine ty 11 ?_;refine ty 12 ?_;refine ty 13 ?_;refine dn ?_;have e2:=ed.tr he2;have n0:=e2.cellE m0;have n1:=e2.cellE m1;have n2:=e2.cellE m2;have n3:=e2.cellE m3;have nq:=e2.cellE hqc;have nx:=e2.cellE hxc;have nl:=e2.cellE hlc;have Hl2:=lh (hl.ext e2);have Hq2:=lh (hqr.ext e2);have E2:=lh (e0.tr e2);have HL:=lh ho2.rd;clear hHeld ho2 he2 e2 m0 m1 m2 m3 hsc hlc hxc hqc hkc hf hl hv hqr ed e0;go_wp2;go_loopw [9] (fun i wr=>∃ j:Nat,j<=RF.2.length/\i= .int .i64 j/\Aa w2 wr/\(q=0->((RF.2.drop j).all fun z=>Sg.rd qs z == 0)=(RF.2.all fun z=>Sg.rd qs z == 0))) (fun i _=>RF.2.length - (intOf i).toNat)
   case atStart=>exact⟨0,Nat.zero_le _,rfl,Aa.rfl' _,fun _=>rfl⟩
   case round =>
    obtain⟨j,hj,rfl,he,hall⟩:=hrel;have hrf:=HL.out.big;have n0':=he.cellE n0;have n1':=he.cellE n1;have n2':=he.cellE n2;have n3':=he.cellE n3;have nq':=he.cellE nq;have nx':=he.cellE nx;have nl':=he.cellE nl;have HE:=lh he;clear n0 n1 n2 n3 nq nx nl;have n3:=n3';have nq:=nq';by_cases hlt:j<RF.2.length
    ·obtain⟨bL,oL,z,rfl,hzz,hzc⟩:=(HL.out.ext he).at1 hlt;have hzd:=HD.out z (List.mem_of_getElem? hzz);obtain⟨zn,rfl⟩:=Int.eq_ofNat_of_zero_le hzd.1;have hzn:zn<g.length:=by omega
     obtain⟨bq',oq',y,ha,hy,hyc⟩:=(Hq2.out.ext he).at1 hzn;simp only[Option.some.injEq,Addr.mk.injEq,and_true] at ha;obtain⟨rfl,rfl⟩:=ha;have hb1:=AA nq;have hb2:=AA hzc;have hb3:=AA n3;have ed:=(Aa.rfl' wr).dr
     have hall':q=0->((y == 0) && ((RF.2.drop (j+1)).all fun z=>Sg.rd qs z == 0))=(RF.2.all fun z=>Sg.rd qs z == 0):=fun h0=>by
      rw[<- hall h0,DO RF.2 j hzz,List.all_cons];simp[Sg.rd,hy]
     have HA:=lh hall';clear hall hall' hy hzz hzd he;by_cases hq0:q=0
     ·have z3:(q == 0)=true:=by simp[hq0]
      have Hq0:=lh hq0;clear hq0;by_cases hy0:y=0
      ·have z5:(y != 0)=false:=by simp[hy0]
       have z6:(y == 0)=true:=by simp[hy0]
       rw[z6] at HA;clear hy0;go_wp2_with fail
       refine wp_region_held_drew (S:=(fun W=>W.cell? ⟨w.heap.size+1,2,none⟩=some (.slice (some ⟨bq,oq,none⟩) g.length cq)/\W.cell? ⟨bq,oq+k,none⟩=some (.int .i64 q)/\W.cell? ⟨bL,oL+j,none⟩=some (.int .i64 (zn:Int))/\W.cell? ⟨bq,oq+zn,none⟩=some (.int .i64 y))) (by kernel_rfl) ?_ (fun hHeld=>?_)
       ·exact⟨ed.cellE n3,ed.cellE nq,ed.cellE hzc,ed.cellE hyc⟩
       refine ty 0 ?_;refine ty 1 ?_;refine ty 2 ?_;refine ty 3 ?_;refine ty 4 ?_;refine ty 5 ?_;refine ty 6 ?_;refine ty 7 ?_;refine ty 8 ?_;refine ty 9 ?_;refine ty 10 ?_;refine ty 11 ?_;refine ty 12 ?_;refine ty 13 ?_;refine ty 14 ?_;refine ty 15 ?_;refine ty 16 ?_;refine dn ?_;go_wp2;go_roundw
       case rel=>exact⟨j+1,by omega,by go_num,HE.out.dr,fun h0=>by rw[<- HA.out h0,Bool.true_and]⟩
       case measure=>simp[intOf];omega
      ·have z5:(y != 0)=true:=by simp[hy0]
       have z6:(y == 0)=false:=by simp[hy0]
       rw[z6] at HA;clear hy0;go_wp2_with fail
       refine wp_region_held_drew (S:=(fun W=>W.cell? ⟨w.heap.size+1,2,none⟩=some (.slice (some ⟨bq,oq,none⟩) g.length cq)/\W.cell? ⟨bq,oq+k,none⟩=some (.int .i64 q)/\W.cell? ⟨bL,oL+j,none⟩=some (.int .i64 (zn:Int))/\W.cell? ⟨bq,oq+zn,none⟩=some (.int .i64 y))) (by kernel_rfl) ?_ (fun hHeld=>?_)
       ·exact⟨ed.cellE n3,ed.cellE nq,ed.cellE hzc,ed.cellE hyc⟩
       refine ty 0 ?_;refine ty 1 ?_;refine ty 2 ?_;refine ty 3 ?_;refine ty 4 ?_;refine ty 5 ?_;refine ty 6 ?_;refine ty 7 ?_;refine ty 8 ?_;refine ty 9 ?_;refine ty 10 ?_;refine ty 11 ?_;refine ty 12 ?_;refine ty 13 ?_;refine ty 14 ?_;refine ty 15 ?_;refine ty 16 ?_;refine dn ?_;go_wp2;go_ret;exact⟨Aj (by rw[HC.out,if_pos Hq0.out,<- HA.out Hq0.out];rfl),E2.out.tr HE.out.dr⟩
     ·have z3:(q == 0)=false:=by simp[hq0]
      have Hq0:=lh hq0;clear hq0;go_wp2_with fail
      refine wp_region_held_drew (S:=(fun W=>W.cell? ⟨w.heap.size+1,2,none⟩=some (.slice (some ⟨bq,oq,none⟩) g.length cq)/\W.cell? ⟨bq,oq+k,none⟩=some (.int .i64 q))) (by kernel_rfl) ?_ (fun hHeld=>?_)
      ·exact⟨ed.cellE n3,ed.cellE nq⟩
      refine ty 0 ?_;refine ty 1 ?_;refine ty 2 ?_;refine ty 3 ?_;refine ty 4 ?_;refine ty 5 ?_;refine ty 6 ?_;refine tn 7 ?_;refine tn 8 ?_;refine tn 9 ?_;refine tn 10 ?_;refine tn 11 ?_;refine tn 12 ?_;refine tn 13 ?_;refine tn 14 ?_;refine tn 15 ?_;refine ty 16 ?_;refine dn ?_;go_wp2;go_roundw
      case rel=>exact⟨j+1,by omega,by go_num,HE.out.dr,fun h0=>absurd h0 Hq0.out⟩
      case measure=>simp[intOf];omega
    ·obtain rfl:j=RF.2.length:=by omega
     have hfin:(if q=0 then RF.2.all fun z=>Sg.rd qs z == 0 else true)=true:=by
      by_cases hq0:q=0
      ·rw[if_pos hq0,<- hall hq0,List.drop_length];rfl
      ·rw[if_neg hq0]
     rw[hfin,Bool.true_and] at HC;have hb1:=AA nx';have hb2:=AA nl';have hb3:=AA n1';clear hall hfin he;by_cases hxx:RF.1=x
     ·have z7:(RF.1 == x)=true:=by simp[hxx]
      have z8:decide (RF.1=x)=true:=by simp[hxx]
      rw[z8,Bool.true_and] at HC;clear hxx;go_wp2_with (go_at_call 146;refine(HSI.out A2 c2 _ (HL.out.ext HE.out) (Hl2.out.ext HE.out)).mono ?_;rintro e w3 ⟨rfl,he3⟩)
      go_ret;exact⟨Aj (by rw[HC.out]),(E2.out.tr HE.out).tr he3⟩
     ·have z7:(RF.1 == x)=false:=by simp[hxx]
      have z8:decide (RF.1=x)=false:=by simp[hxx]
      rw[z8,Bool.false_and] at HC;clear hxx;go_wp2;go_ret;exact⟨Aj (by rw[HC.out]),E2.out.tr HE.out⟩
def CS (g:Sg.Ae)(st:Sg.BC)(k:Nat):Bool:=(List.range k).all (Sg.JM g st)
theorem WQ (g:Sg.Ae)(st:Sg.BC)(k:Nat):CS g st (k+1)=(CS g st k && Sg.JM g st k):=by unfold CS;rw[List.range_succ,List.all_append];simp
theorem X_ (g:Sg.Ae)(st:Sg.BC)(k:Nat)(hk:k<g.length)(h:Sg.JM g st k=false):Sg.D8 g st=false:=by
 unfold Sg.D8
 have:(List.range g.length).all (Sg.JM g st)=false:=by
  rw[List.all_eq_false];exact⟨k,List.mem_range.2 hk,by rw[h];simp⟩
 rw[this,Bool.and_false]
theorem zg1{p:Prop}(h:p:=by
 refine(HVG.out _ (h.ext e0)).mono ?_;rintro e w1 ⟨rfl,he1⟩;rw[HG.out];obtain⟨bc,bf⟩:=Ga he1;go_wp2;go_ret;exact⟨Aj (by unfold Sg.D8 Sg.Dq;simp[Hb.out]),e0.tr he1⟩):p:=h
set_option maxRecDepth 100000 in
set_option maxHeartbeats 4000000 in
theorem Lx (A Av Ar Aq:Option Addr)(c cv cr cq:Nat)(g:Sg.Ae)(v q:List Int)(r:List (List Int))(w:World)(h:Eg w A g)(hv:Rd w 1 Av v.length (Ah v))(hr:Lq w Ar r)(hq:Rd w 1 Aq q.length (Ah q))(_hvl:v.length<=1048576)(_hql:q.length<=1048576) :
  Calls Tryz.prog 73 #[.agg #[.slice A g.length c],.agg #[.slice Av v.length cv,.slice Ar r.length cr,.slice Aq q.length cq]] w fun e w'=>e= .returned (.bool (Sg.D8 g ⟨v,r,q⟩))/\Aa w w':=by
 have hgl:=h.1;have hrl:=hr.1;have HVG:=lh (I3 A c g);have HAI:=lh (Tn Av v.length cv v 0 999);have HAQ:=lh (Tn Aq q.length cq q 0 2);have e0:=((Aa.rfl' w).al (.cells #[.slice A g.length c] 35)).al (.cells #[.slice Av v.length cv,.slice Ar r.length cr,.slice Aq q.length cq] 44);cases hG:Sg.AG g
 ·have HG:=lh hG;clear hG;go_enter Tryz.func73,Tryz.ntmps73;go_wp2_with fail
  refine(HVG.out _ (h.ext e0)).mono ?_;rintro e w1 ⟨rfl,he1⟩;rw[HG.out];obtain⟨bc,bf⟩:=Ga he1;go_wp2;go_ret;exact⟨Aj (by unfold Sg.D8 Sg.Dq;rw[HG.out];rfl),e0.tr he1⟩
 have HG:=lh hG;clear hG;by_cases hvg:v.length=g.length
 case neg =>
  have b1:((v.length:Int) != (g.length:Int))=true:=by simp;omega
  have Hb:=lh hvg;clear hvg;go_enter Tryz.func73,Tryz.ntmps73;go_wp2_with fail
  exact zg1
 have b1:((v.length:Int) != (g.length:Int))=false:=by simp;omega
 have Hvg:=lh hvg;clear hvg;by_cases hrg:r.length=g.length
 case neg =>
  have b2:((r.length:Int) != (g.length:Int))=true:=by simp;omega
  have Hb:=lh hrg;clear hrg;go_enter Tryz.func73,Tryz.ntmps73;go_wp2_with fail
  exact zg1
 have b2:((r.length:Int) != (g.length:Int))=false:=by simp;omega
 have Hrg:=lh hrg;clear hrg;by_cases hqg:q.length=g.length
 case neg =>
  have b3:((q.length:Int) != (g.length:Int))=true:=by simp;omega
  have Hb:=lh hqg;clear hqg;go_enter Tryz.func73,Tryz.ntmps73;go_wp2_with fail
  exact zg1
 have b3:((q.length:Int) != (g.length:Int))=false:=by simp;omega
 have Hqg:=lh hqg;clear hqg;cases hI:(v.all fun x=>Sg.Cb x 0 999)
 ·have HI:=lh hI;clear hI;go_enter Tryz.func73,Tryz.ntmps73;go_wp2_with fail
  refine(HVG.out _ (h.ext e0)).mono ?_;rintro e w1 ⟨rfl,he1⟩;rw[HG.out];obtain⟨bc,bf⟩:=Ga he1;go_wp2_with fail
  refine(HAI.out _ (hv.ext (e0.tr he1))).mono ?_;rintro e w2 ⟨rfl,rfl⟩;rw[HI.out];go_wp2;go_ret;exact⟨Aj (by unfold Sg.D8 Sg.Dq;unfold Sg.C8;rw[HI.out];simp),e0.tr he1⟩
 have HI:=lh hI;clear hI;cases hQ:(q.all fun x=>Sg.Cb x 0 2)
 ·have HQ:=lh hQ;clear hQ;go_enter Tryz.func73,Tryz.ntmps73;go_wp2_with fail
  refine(HVG.out _ (h.ext e0)).mono ?_;rintro e w1 ⟨rfl,he1⟩;rw[HG.out];obtain⟨bc,bf⟩:=Ga he1;go_wp2_with fail
  refine(HAI.out _ (hv.ext (e0.tr he1))).mono ?_;rintro e w2 ⟨rfl,rfl⟩;rw[HI.out];go_wp2_with fail
  refine(HAQ.out _ (hq.ext (e0.tr he1))).mono ?_;rintro e w3 ⟨rfl,rfl⟩;rw[HQ.out];go_wp2;go_ret;exact⟨Aj (by unfold Sg.D8 Sg.Dq;dsimp only;rw[HQ.out];simp),e0.tr he1⟩
 have HQ:=lh hQ;clear hQ;have HC:=lh (fun (k:Nat) (w:World) (hk:k<g.length) (h:Eg w A g) (hv0:Rd w 1 Av g.length (Ah v)) (hr:Lq w Ar r) (hq0:Rd w 1 Aq g.length (Ah q))=>Pp A Av Ar Aq c cv cr cq g v q r k w h hv0 hr hq0 Hrg.out hk HG.out (Sg.Cc HI.out));go_enter Tryz.func73,Tryz.ntmps73;go_wp2_with fail
 refine(HVG.out _ (h.ext e0)).mono ?_;rintro e w1 ⟨rfl,he1⟩;rw[HG.out];obtain⟨bc,bf⟩:=Ga he1;go_wp2_with fail
 refine(HAI.out _ (hv.ext (e0.tr he1))).mono ?_;rintro e w2 ⟨rfl,rfl⟩;rw[HI.out];go_wp2_with fail
 refine(HAQ.out _ (hq.ext (e0.tr he1))).mono ?_;rintro e w3 ⟨rfl,rfl⟩;rw[HQ.out];go_wp2;have e1:=e0.tr he1;have hb1:w1.cell? ⟨w.heap.size,0,none⟩=some (.slice A g.length c):=he1.cellE (by simp[go_sem]);have hb2:w1.cell? ⟨w.heap.size+1,0,none⟩=some (.slice Av v.length cv):=he1.cellE (by simp[go_sem]);have hb3:w1.cell? ⟨w.heap.size+1,1,none⟩=some (.slice Ar r.length cr):=he1.cellE (by simp[go_sem]);have hb4:w1.cell? ⟨w.heap.size+1,2,none⟩=some (.slice Aq q.length cq):=he1.cellE (by simp[go_sem]);clear bc bf he1 e0 b1 b2 b3 HVG HAI HAQ;go_loopw [5] (fun i wr=>∃ k:Nat,k<=g.length/\i= .int .i64 k/\Aa w1 wr/\CS g ⟨v,r,q⟩ k=true) (fun i _=>g.length - (intOf i).toNat)
 case atStart=>exact⟨0,Nat.zero_le _,rfl,Aa.rfl' _,rfl⟩
 case round =>
  obtain⟨k,hk,rfl,he,hra⟩:=hrel;have HR:=lh hra;have c1:=he.cellE hb1;have c2:=he.cellE hb2;have c3:=he.cellE hb3;have c4:=he.cellE hb4;have d1:=AA c1;have d2:=AA c2;have ee:=e1.tr he;clear hra hb1 hb2 hb3 hb4;by_cases hlt:k<g.length
  ·have HCk:=HC.out k wr hlt (h.ext ee) (by have:=hv.ext ee;rwa [Hvg.out] at this) (hr.ext ee) (by have:=hq.ext ee;rwa [Hqg.out] at this);have HCk:Calls Tryz.prog 111 #[.agg #[.slice A g.length c],.agg #[.slice Av v.length cv,.slice Ar r.length cr,.slice Aq q.length cq],.int .i64 k] wr fun e w'=>e= .returned (.bool (Sg.JM g ⟨v,r,q⟩ k))/\Aa wr w':=by rw[Hvg.out,Hrg.out,Hqg.out];exact HCk
   have HCK:=lh HCk;clear HCk;cases hg:Sg.JM g ⟨v,r,q⟩ k
   ·have Hg:=lh hg;clear hg;go_wp2_with (go_at_call 111;refine HCK.out.mono ?_;rintro e w3 ⟨rfl,he3⟩;rw[Hg.out])
    go_ret;exact⟨Aj (by rw[X_ g _ k hlt Hg.out]),ee.tr he3⟩
   ·have Hg:=lh hg;clear hg;go_wp2_with (go_at_call 111;refine HCK.out.mono ?_;rintro e w3 ⟨rfl,he3⟩;rw[Hg.out])
    go_roundw
    case rel=>exact⟨k+1,by omega,by go_num,he.tr he3,by rw[WQ,HR.out,Hg.out];rfl⟩
    case measure=>simp[intOf];omega
  ·obtain rfl:k=g.length:=by omega
   have hfin:Sg.D8 g ⟨v,r,q⟩=true:=by
    unfold Sg.D8 Sg.Dq Sg.C8;have:=HR.out;unfold CS at this;simp only[this,HG.out,HI.out,HQ.out,Hvg.out,Hrg.out,Hqg.out,decide_true,Bool.and_self]
   have Hfin:=lh hfin;clear hfin;go_wp2;go_ret;exact⟨Aj (by rw[Hfin.out]),ee⟩
open Go.RowKit
theorem Vu (A Av Ar Aq:Option Addr)(c cv cr cq:Nat)(g:Sg.Ae)(v q:List Int)(r:List (List Int))(w:World)(h:Eg w A g)(hv:Rd w 1 Av v.length (Ah v))(hr:Lq w Ar r)(hq:Rd w 1 Aq q.length (Ah q))(hvl:v.length<=1048576)(hql:q.length<=1048576) :
  Calls Tryz.prog 73 #[.agg #[.slice A g.length c],.agg #[.slice Av v.length cv,.slice Ar r.length cr,.slice Aq q.length cq]] w fun e w'=>e= .returned (.bool (Sg.AM g ⟨v,r,q⟩))/\Aa w w':=by
 have:=Lx A Av Ar Aq c cv cr cq g v q r w h hv hr hq hvl hql;rw[Sg.Li] at this;exact this
set_option maxRecDepth 100000 in
set_option maxHeartbeats 2000000 in
theorem Ul (A Av Ar Aq:Option Addr)(c cv cr cq:Nat)(g:Sg.Ae)(v q:List Int)(r:List (List Int))(w:World)(h:Eg w A g)(hv:Rd w 1 Av v.length (Ah v))(hr:Ex w Ar r)(hq:Rd w 1 Aq q.length (Ah q))(hvl:v.length<=1048576)(hql:q.length<=1048576) :
  Calls Tryz.prog 35 #[.agg #[.slice A g.length c],.agg #[.slice Av v.length cv,.slice Ar r.length cr,.slice Aq q.length cq]] w fun e w'=>∃ A' c',e= .returned (.slice A' (Sg.BP g ⟨v,r,q⟩).length c')/\Au w' w.heap.size 3 1 A' (Sg.BP g ⟨v,r,q⟩).length c' (Ah (Sg.BP g ⟨v,r,q⟩))/\Aa w w':=by
 have hgl:=h.1;have HV:=lh (fun w h hv hr hq=>Vu A Av Ar Aq c cv cr cq g v q r w h hv (Ex.rdL hr) hq hvl hql);have H:=lh h;have Hv:=lh hv;have Hr:=lh hr;have Hq:=lh hq;clear h hv hr hq;have E0:=lh ((((Aa.rfl' w).al (.cells #[.slice A g.length c] 35)).al (.cells #[.slice Av v.length cv,.slice Ar r.length cr,.slice Aq q.length cq] 44)):Aa w (World.alloc (World.alloc w (.cells #[.slice A g.length c] 35)) (.cells #[.slice Av v.length cv,.slice Ar r.length cr,.slice Aq q.length cq] 44)));have qlg:World.cell? (World.alloc (World.alloc w (.cells #[.slice A g.length c] 35)) (.cells #[.slice Av v.length cv,.slice Ar r.length cr,.slice Aq q.length cq] 44)) ⟨w.heap.size,0,none⟩=some (.slice A g.length c):=by simp[go_sem]
 have Qlg:=lh qlg;clear qlg;have qlv:World.cell? (World.alloc (World.alloc w (.cells #[.slice A g.length c] 35)) (.cells #[.slice Av v.length cv,.slice Ar r.length cr,.slice Aq q.length cq] 44)) ⟨w.heap.size+1,0,none⟩=some (.slice Av v.length cv):=by simp[go_sem]
 have Qlv:=lh qlv;clear qlv;have qlr:World.cell? (World.alloc (World.alloc w (.cells #[.slice A g.length c] 35)) (.cells #[.slice Av v.length cv,.slice Ar r.length cr,.slice Aq q.length cq] 44)) ⟨w.heap.size+1,1,none⟩=some (.slice Ar r.length cr):=by simp[go_sem]
 have Qlr:=lh qlr;clear qlr;have qlq:World.cell? (World.alloc (World.alloc w (.cells #[.slice A g.length c] 35)) (.cells #[.slice Av v.length cv,.slice Ar r.length cr,.slice Aq q.length cq] 44)) ⟨w.heap.size+1,2,none⟩=some (.slice Aq q.length cq):=by simp[go_sem]
 have Qlq:=lh qlq;clear qlq;cases hE:Sg.AM g ⟨v,r,q⟩
 ·have HE:=lh hE;have HS:=lh (show Sg.BP g ⟨v,r,q⟩=[] by unfold Sg.BP;rw[hE];rfl);clear hE;go_enter Tryz.func35,Tryz.ntmps35;go_wp2_with fail
  refine(HV.out _ (H.out.ext E0.out) (Hv.out.ext E0.out) (Hr.out.ext E0.out) (Hq.out.ext E0.out)).mono ?_;rintro e w1 ⟨rfl,he1⟩;rw[HE.out];have U1:=lh ((Aa.rfl' (World.alloc (World.alloc w (.cells #[.slice A g.length c] 35)) (.cells #[.slice Av v.length cv,.slice Ar r.length cr,.slice Aq q.length cq] 44))).tr he1);have E1:=lh (E0.out.tr U1.out);have lg_1:=U1.out.cellE Qlg.out;have lv_1:=U1.out.cellE Qlv.out;have lr_1:=U1.out.cellE Qlr.out;have lq_1:=U1.out.cellE Qlq.out;clear he1 ;have blg_1:=AA lg_1;have blv_1:=AA lv_1;have blr_1:=AA lr_1;have blq_1:=AA lq_1;go_wp2;go_ret;rw[HS.out];exact⟨none,0,rfl,Au.nil _ _ _ _,E1.out⟩
 have HE:=lh hE;have HS:=lh (show Sg.BP g ⟨v,r,q⟩=Sg.Im q g.length by unfold Sg.BP;rw[hE];rfl);have hqg:q.length=g.length:=by unfold Sg.AM Sg.Dq at hE;simp only[Bool.and_eq_true,decide_eq_true_eq] at hE;exact hE.1.1.2
 have Hqg:=lh hqg;have HQ:=lh (fun k=>(show Sg.Im q (k+1)=if (Sg.rd q (k:Int) != 0)=true then Sg.Im q k++[(k:Int)] else Sg.Im q k from Sg.DC _ k));have HL:=lh (fun k=>(show (Sg.Im q k).length<=k from Sg.FI _ k));clear hE hqg;go_enter Tryz.func35,Tryz.ntmps35;go_wp2_with fail
 refine(HV.out _ (H.out.ext E0.out) (Hv.out.ext E0.out) (Hr.out.ext E0.out) (Hq.out.ext E0.out)).mono ?_;rintro e w1 ⟨rfl,he1⟩;rw[HE.out];have U1:=lh ((Aa.rfl' (World.alloc (World.alloc w (.cells #[.slice A g.length c] 35)) (.cells #[.slice Av v.length cv,.slice Ar r.length cr,.slice Aq q.length cq] 44))).tr he1);have E1:=lh (E0.out.tr U1.out);have lg_1:=U1.out.cellE Qlg.out;have lv_1:=U1.out.cellE Qlv.out;have lr_1:=U1.out.cellE Qlr.out;have lq_1:=U1.out.cellE Qlq.out;clear he1 ;have blg_1:=AA lg_1;have blv_1:=AA lv_1;have blr_1:=AA lr_1;have blq_1:=AA lq_1;go_wp2;have O0:=lh ((Au.new w1 3 1 #[] 0 (Nat.le_refl _) (by unfold maxLen;omega) rfl));have KG:=lh lg_1;have KQ:=lh lq_1;have EA:=lh (show Aa w1 (World.alloc w1 (.cells #[] 3)) from xr.al _);clear lg_1 lv_1 lr_1 lq_1 blg_1 blv_1 blr_1 blq_1;go_loopw [5,6] (fun v i wr=>∃ (k:Nat) (A':Option Addr) (c':Nat),k<=g.length/\i= .int .i64 k/\v= .slice A' (Sg.Im q k).length c'/\Hid (Au wr w1.heap.size 3 1 A' (Sg.Im q k).length c' (Ah (Sg.Im q k)))/\Hid (Aa w1 wr)) (fun _ i _=>g.length - (intOf i).toNat)
 case atStart=>exact⟨0,_,_,Nat.zero_le _,rfl,rfl,lh O0.out,EA⟩
 case round =>
  obtain⟨k,A',c',hk,rfl,rfl,hO,hE⟩:=hrel;have k1:=hE.out.cellE KG.out;have k2:=hE.out.cellE KQ.out;have b1:=AA k1;have b2:=AA k2;have hl:=HL.out k;by_cases hlt:k<g.length
  ·obtain⟨bq,oq,x,rfl,hx,hcx⟩:=(Hq.out.ext (E1.out.tr hE.out)).at1 (show k<q.length by rw[Hqg.out];exact hlt);have b3:=AA hcx;have hkq:k<q.length:=by rw[Hqg.out];exact hlt
   have hrd:Sg.rd q (k:Int)=x:=by simp[Sg.rd,hx]
   have hs:=HQ.out k;rw[hrd] at hs;clear hx hrd;by_cases hz:x=0
   ·have z1:(x != 0)=false:=by simp[hz]
    rw[z1,if_neg (by simp)] at hs;have Hs:=lh hs;clear hs hz;go_wp2;go_roundw
    case rel=>exact⟨k+1,A',c',by omega,by go_num,by rw[Hs.out],lh (by rw[Hs.out];exact hO.out),hE⟩
    case measure=>simp[intOf];omega
   ·have z1:(x != 0)=true:=by simp[hz]
    rw[z1,if_pos rfl] at hs;have Hs:=lh hs;clear hs hz;go_wp2_with (at_builtin;refine AB rfl rfl Bc rfl hO.out rfl rfl (Bn _ _) (by omega) (by omega) hE.out.size ?_;intro A2 c2 w2 ho2 hg2 hat2)
    go_roundw
    case rel=>exact⟨k+1,A2,c2,by omega,by go_num,by rw[Hs.out];simp,lh (by rw[Hs.out];simpa using ho2),lh (hE.out.gr hg2 (fun b hb=>(hO.out.lt hb).1))⟩
    case measure=>simp[intOf];omega
  ·obtain rfl:k=g.length:=by omega
   go_wp2;go_ret;rw[HS.out];exact⟨A',c',rfl,hO.out.mono E1.out.size,E1.out.tr hE.out⟩
end Go.Proofs.YthibllkleakiiaaGreatDoor
