/- Parts of one proof, joined. Parts of one proof, joined. The reference's cellsOf and CellsOf: contracts, and more. Conditions: in the theorems. -/
import Derived.Deep.QuietTactic
import Derived.BigQuiet
import Derived.Deep.RegionHeld3
import Derived.Handy
import Derived.Test.YthibllkleakiiaaGreatDoorSpecTwo
import Derived.Test.YthibllkleakiiaaGreatDoorTy
import Derived.Test.YthibllkleakiiaaGreatDoorModelsA
namespace Sg
def DW:List Nat->Nat->Int
 | [],L=>L
 | n :: r,L=>if L<n then -1 else DW r (L - n)
def RS (ns:List Nat)(L:Nat):Int:=if L<ns.length then -1 else DW ns (L - ns.length)
theorem Mz:∀ (ns:List Nat)(L:Nat),0<=DW ns L->(∀ n ∈ ns,n<=L)/\∃ M:Nat,M<=L/\DW ns L=M
 | [],L,_=>⟨fun n hn=>(by cases hn),L,Nat.le_refl _,rfl⟩
 | n :: r,L,h=>by
  unfold DW at h ⊢;split at h
  ·omega
  ·rename_i hl
   rw[if_neg hl];obtain⟨h1,M,h2,h3⟩:=Mz r (L - n) h;refine⟨fun m hm=>?_,M,by omega,h3⟩;rcases List.mem_cons.1 hm with rfl | hm
   ·omega
   ·have:=h1 m hm;omega
theorem VB (ns:List Nat)(L:Nat)(h:0<=RS ns L):ns.length<=L/\(∀ n ∈ ns,n<=L)/\∃ M:Nat,M<=L/\RS ns L=M:=by
 unfold RS at h ⊢;split at h
 ·omega
 ·rename_i hl
  rw[if_neg hl];obtain⟨h1,M,h2,h3⟩:=Mz ns _ h;exact⟨by omega,fun n hn=>by have:=h1 n hn;omega,M,by omega,h3⟩
end Sg
namespace Go.Proofs.YthibllkleakiiaaGreatDoor
open Go.RowKit
def QM (w:World)(A:Option Addr)(g:Sg.Ae):Prop :=
 g.length<=maxLen/\∀ (i:Nat) (n:Sg.BQ),g[i]? = some n->∃ b o Ap cp,A=some ⟨b,o,none⟩/\w.cell? ⟨b,o+i * 2,none⟩=some (.int .i64 n.kind) /\
  w.cell? ⟨b,o+i * 2+1,none⟩=some (.slice Ap n.f.length cp)/\Rd w 5 Ap n.f.length (AL n.f)
theorem QM.ext {w w':World}{A:Option Addr}{g:Sg.Ae}(h:QM w A g)(e:Aa w w'):QM w' A g :=
 ⟨h.1,fun i n hn=>let ⟨b,o,Ap,cp,ha,h1,h2,h3⟩:=h.2 i n hn;⟨b,o,Ap,cp,ha,e.cellE h1,e.cellE h2,h3.ext e⟩⟩
theorem QM.at_ {w:World}{A:Option Addr}{g:Sg.Ae}(h:QM w A g){i:Nat}(hi:i<g.length):∃ n b o Ap cp,g[i]? = some n/\A=some ⟨b,o,none⟩/\w.cell? ⟨b,o+i * 2,none⟩=some (.int .i64 n.kind) /\
  w.cell? ⟨b,o+i * 2+1,none⟩=some (.slice Ap n.f.length cp)/\Rd w 5 Ap n.f.length (AL n.f):=by
 have hx:g[i]? = some g[i]:=List.getElem?_eq_getElem hi;obtain⟨b,o,Ap,cp,r⟩:=h.2 i _ hx;exact⟨_,b,o,Ap,cp,hx,r⟩
def SD (w:World)(A:Option Addr)(ll:List (List Int)):Prop :=
 ll.length<=maxLen/\∀ (i:Nat) (l:List Int),ll[i]? = some l->∃ b o Al cl,A=some ⟨b,o,none⟩/\w.cell? ⟨b,o+i,none⟩=some (.slice Al l.length cl)/\Rd w 1 Al l.length (Ah l)
theorem SD.ext {w w':World}{A:Option Addr}{ll:List (List Int)}(h:SD w A ll)(e:Aa w w'):SD w' A ll :=
 ⟨h.1,fun i l hl=>let ⟨b,o,Al,cl,ha,h1,h2⟩:=h.2 i l hl;⟨b,o,Al,cl,ha,e.cellE h1,h2.ext e⟩⟩
theorem SD.at_ {w:World}{A:Option Addr}{ll:List (List Int)}(h:SD w A ll){i:Nat}(hi:i<ll.length):∃ l b o Al cl,ll[i]? = some l/\A=some ⟨b,o,none⟩/\w.cell? ⟨b,o+i,none⟩=some (.slice Al l.length cl)/\Rd w 1 Al l.length (Ah l):=by
 have hx:ll[i]? = some ll[i]:=List.getElem?_eq_getElem hi;obtain⟨b,o,Al,cl,r⟩:=h.2 i _ hx;exact⟨_,b,o,Al,cl,hx,r⟩
end Go.Proofs.YthibllkleakiiaaGreatDoor
namespace Sg
end Sg
namespace Go.Proofs.YthibllkleakiiaaGreatDoor
open Go.RowKit
theorem Vx (hs:List Value)(k n:Nat)(h:hs.length=k)(hk:k<n)(z x:Value):(hs++List.replicate (n - k) z).set k x=(hs++[x])++List.replicate (n - (k+1)) z:=by
 rw[List.set_append_right _ _ (by omega),h,Nat.sub_self,show n - k=(n - (k+1))+1 from by omega,List.replicate_succ,List.set_cons_zero,List.append_assoc];rfl
def zs (m:Nat):List Value:=(List.replicate m [Value.int .i64 0,.slice none 0 0]).flatten
open Go.RowKit
def CO (g:Sg.Ae)(cells:List Int)(k:Nat):Bool:=(List.range k).all (Sg.FN g cells)
theorem Lc (g:Sg.Ae)(cells:List Int)(k:Nat):CO g cells (k+1)=(CO g cells k && Sg.FN g cells k):=by unfold CO;rw[List.range_succ,List.all_append];simp
theorem NC (g:Sg.Ae)(cells:List Int)(k:Nat)(hk:k<cells.length)(h:Sg.FN g cells k=false):Sg.AT g cells=false:=by
 have:(List.range cells.length).all (Sg.FN g cells)=false:=by
  rw[List.all_eq_false];exact⟨k,by rw[List.mem_range];exact hk,by rw[h];simp⟩
 unfold Sg.AT;rw[this];simp
theorem M_ {g:Sg.Ae}{cells:List Int}{k:Nat}{n:Sg.BQ}{x:Int}(hn:g[k]? = some n)(hx:cells[k]? = some x):Sg.FN g cells k=(Sg.BZ x 0 999 && (decide (n.kind=0) || decide (x=0))):=by
 unfold Sg.FN Sg.CL;simp[hn,hx]
set_option maxRecDepth 100000 in
set_option maxHeartbeats 1000000 in
theorem NE (A Ac:Option Addr)(c cc:Nat)(g:Sg.Ae)(l:List Int)(w:World)(h:Eg w A g)(hc:Rd w 1 Ac l.length (Ah l)) :
  Calls Tryz.prog 30 #[.agg #[.slice A g.length c],.slice Ac l.length cc] w fun e w'=>e= .returned (.bool (Sg.AT g l))/\Aa w w':=by
 have hgl:=h.1;have hll:=hc.big;have e0:=(Aa.rfl' w).al (.cells #[.slice A g.length c] 35);have h0:=h.ext e0;have hc0:=hc.ext e0;by_cases hlen:l.length=g.length
 case neg =>
  have b1:((l.length:Int) != (g.length:Int))=true:=by simp;omega
  have Hb:=lh hlen;clear hlen;go_enter Tryz.func30,Tryz.ntmps30;go_wp2;go_ret;exact⟨Aj (by unfold Sg.AT;simp[Hb.out]),e0⟩
 have b1:((l.length:Int) != (g.length:Int))=false:=by simp;omega
 have Hlen:=lh hlen;have HE:=lh e0;clear hlen e0;go_enter Tryz.func30,Tryz.ntmps30;go_wp2;go_loop [5] (fun i=>∃ k:Nat,k<=l.length/\i= .int .i64 k/\CO g l k=true) (fun i=>l.length - (intOf i).toNat)
 case atStart=>exact⟨0,Nat.zero_le _,rfl,rfl⟩
 case round =>
  obtain⟨k,hk,rfl,hco⟩:=hrel;have HC:=lh hco;clear hco;by_cases hlt:k<l.length
  ·have hkg:k<g.length:=by have:=Hlen.out;omega
   obtain⟨⟨nk,nf⟩,b,o,Ap,cp,hn,rfl,hkc,hs,_,_⟩:=h0.at_ hkg;obtain⟨bc,oc,x,rfl,hx,hxc⟩:=hc0.at1 hlt;have hok:=lh (M_ hn hx);dsimp only at *;have hb1:=Au hkc;have hb2:=Au hxc;clear hn hx;cases hin:Sg.BZ x 0 999
   ·have Hin:=lh hin;clear hin;go_wp2_with (go_at_call 39;refine(Cp _ _ _ _).mono ?_;rintro e w' ⟨rfl,rfl⟩;rw[Hin.out])
    go_ret;exact⟨Aj (NC g l k hlt (by rw[hok.out,Hin.out];rfl)).symm,HE.out⟩
   ·have Hin:=lh hin;clear hin;by_cases hz:nk=0
    ·have z1:(nk != 0)=false:=by simp[hz]
     have Hz:=lh hz;clear hz;go_wp2_with (go_at_call 39;refine(Cp _ _ _ _).mono ?_;rintro e w' ⟨rfl,rfl⟩;rw[Hin.out])
     go_round
     case rel=>exact⟨k+1,by omega,by go_num,by rw[Lc,HC.out,hok.out,Hin.out,Hz.out];rfl⟩
     case measure=>simp[intOf];omega
    ·have z1:(nk != 0)=true:=by simp[hz]
     have Hz:=lh hz;clear hz;by_cases hx0:x=0
     ·have z2:(x != 0)=false:=by simp[hx0]
      have Hx:=lh hx0;clear hx0;go_wp2_with (go_at_call 39;refine(Cp _ _ _ _).mono ?_;rintro e w' ⟨rfl,rfl⟩;rw[Hin.out])
      go_round
      case rel=>exact⟨k+1,by omega,by go_num,by rw[Lc,HC.out,hok.out,Hin.out,Hx.out];simp⟩
      case measure=>simp[intOf];omega
     ·have z2:(x != 0)=true:=by simp[hx0]
      have Hx:=lh hx0;clear hx0;go_wp2_with (go_at_call 39;refine(Cp _ _ _ _).mono ?_;rintro e w' ⟨rfl,rfl⟩;rw[Hin.out])
      go_ret;exact⟨Aj (NC g l k hlt (by rw[hok.out];simp[Hz.out,Hx.out])).symm,HE.out⟩
  ·obtain rfl:k=l.length:=by omega
   go_wp2;go_ret;exact⟨Aj (by unfold Sg.AT;have:=HC.out;unfold CO at this;rw[this];simp[Hlen.out]),HE.out⟩
theorem L3 {g:Sg.Ae}{cells out:List Int}{k:Nat}{n:Sg.BQ}{x:Int}(hn:g[k]? = some n)(hx:cells[k]? = some x)(h:n.kind=0):Sg.Iy g cells out k=x:=by simp[Sg.Iy,hn,hx,h]
theorem L4 {g:Sg.Ae}{cells out:List Int}{k:Nat}{n:Sg.BQ}(hn:g[k]? = some n)(h:¬ n.kind=0):Sg.Iy g cells out k=(Sg.AK n.f out).1:=by simp[Sg.Iy,hn,h]
theorem L5 {g:Sg.Ae}{v:List Int}{k:Nat}{n:Sg.BQ}(hn:g[k]? = some n)(h:n.kind=0):Sg.Cb g v k=[]:=by simp[Sg.Cb,hn,h]
theorem Iu {g:Sg.Ae}{v:List Int}{k:Nat}{n:Sg.BQ}(hn:g[k]? = some n)(h:¬ n.kind=0):Sg.Cb g v k=(Sg.AK n.f v).2:=by simp[Sg.Cb,hn,h]
set_option maxRecDepth 100000 in
set_option maxHeartbeats 2000000 in
theorem SE (A Ac:Option Addr)(c cc:Nat)(g:Sg.Ae)(l:List Int)(w:World)(h:Eg w A g)(hc:Rd w 1 Ac l.length (Ah l))(hG:Sg.AG g=true)(hC:Sg.AT g l=true) :
  Calls Tryz.prog 31 #[.agg #[.slice A g.length c],.slice Ac l.length cc] w fun e w'=>∃ A' c',e= .returned (.slice A' g.length c')/\AA w' w.heap.size 3 1 A' g.length c' (Ah (Sg.Bz g l))/\Aa w w':=by
 have hgl:=h.1;have Hlen:=lh (Sg.CH hC);have e0:=(Aa.rfl' w).al (.cells #[.slice A g.length c] 35);have hbox:(w.alloc (.cells #[.slice A g.length c] 35)).cell? ⟨w.heap.size,0,none⟩=some (.slice A g.length c):=by simp[go_sem]
 have H:=lh h;have Hc:=lh hc;have HG:=lh hG;have HC:=lh hC;have HE:=lh e0;have HB:=lh hbox;clear h hc hG hC e0 hbox;go_enter Tryz.func31,Tryz.ntmps31;go_wp2;go_loopw [5,6] (fun v i wr=>∃ (k:Nat) (A':Option Addr) (c':Nat),k<=g.length/\i= .int .i64 k/\v= .slice A' k c'/\AA wr (w.heap.size+1) 3 1 A' k c' (Ah (Sg.AZ g l k))/\Aa (w.alloc (.cells #[.slice A g.length c] 35)) wr) (fun _ i _=>g.length - (intOf i).toNat)
 case atStart=>exact⟨0,_,_,Nat.zero_le _,rfl,rfl,by have:=AA.nw (Aa.rfl' (w.alloc (.cells #[.slice A g.length c] 35))) (w.heap.size+1) [] #[] rfl (by simp) (by simp);simp only[World.size_alloc] at this;exact this,(Aa.rfl' _).al _⟩
 case round =>
  obtain⟨k,A',c',hk,rfl,rfl,hown,he⟩:=hrel;have q0:=he.cellE HB.out;have hsz:=he.size;simp only[World.size_alloc] at hsz;have Ho:=lh hown;have He:=lh he;clear hown he;have hb0:=Au q0;by_cases hlt:k<g.length
  ·have hkl:k<l.length:=by have:=Hlen.out;omega
   obtain⟨⟨nk,nf⟩,b,o,Ap,cp,hn,rfl,hkc,hs,hf,hfl⟩:=(H.out.ext (HE.out.tr He.out)).at_ hlt;obtain⟨bc,oc,x,rfl,hx,hxc⟩:=(Hc.out.ext (HE.out.tr He.out)).at1 hkl;dsimp only at *;have hb1:=Au hkc;have hb2:=Au hxc;by_cases hz:nk=0
   ·have z1:(nk != 0)=false:=by simp[hz]
    have hv:=lh (show Sg.AZ g l (k+1)=Sg.AZ g l k++[x] by simp only[Sg.AZ];rw[L3 hn hx hz]);clear hn hx hz;go_wp2_with (at_builtin;refine AF rfl rfl Bc rfl Ho.out rfl rfl (B_ _ _) (by omega) (by omega) hsz ?_;intro A2 c2 w2 hown2 hg2 hat2)
    have Ho2:=lh hown2;have Hg2:=lh hg2;clear hown2 hg2 hat2;go_wp2;go_roundw
    case rel=>exact⟨k+1,A2,c2,by omega,by go_num,rfl,by rw[hv.out];simpa using Ho2.out,He.out.gr Hg2.out fun g hg=>by simpa using (Ho.out.lt hg).1⟩
    case measure=>simp[intOf];omega
   ·have z1:(nk != 0)=true:=by simp[hz]
    have hok:=lh (Sg.Bj HG.out k hn hz);have hran:=lh (Sg.FV HG.out HC.out k hk);have hv:=lh (show Sg.AZ g l (k+1)=Sg.AZ g l k++[(Sg.AK nf (Sg.AZ g l k)).1] by simp only[Sg.AZ];rw[L4 hn hz]);have HR:=lh (fun w hf hv=>Rw Ap A' cp c' k nf (Sg.AZ g l k) hok.out hran.out w hf hv);have Hf:=lh hf;clear hn hx hz hf;obtain⟨rs,hrs⟩:∃ rs,rs=Sg.AK nf (Sg.AZ g l k):=⟨_,rfl⟩;rw[<- hrs] at hv HR;have Hrs:=lh hrs;clear hrs;go_wp2_with fail
    refine(HR.out _ Hf.out Ho.out.rd).mono ?_;rintro e w1 ⟨A3,c3,rfl,ho3,he3,hx0,hx1⟩;have q1:=he3.cellE q0;have Ho1:=lh (Ho.out.ext he3);have He1:=lh (He.out.tr he3);have hsz1:w.heap.size+1<=w1.heap.size:=by have:=he3.size;omega
    clear ho3 he3;go_wp2_with (at_builtin;refine AF rfl rfl Bc rfl Ho1.out rfl rfl (B_ _ _) (by omega) (by omega) hsz1 ?_;intro A2 c2 w2 hown2 hg2 hat2)
    have Ho2:=lh hown2;have Hg2:=lh hg2;clear hown2 hg2 hat2;go_wp2;go_roundw
    case rel=>exact⟨k+1,A2,c2,by omega,by go_num,rfl,by rw[hv.out];simpa using Ho2.out,He1.out.gr Hg2.out fun g hg=>by simpa using (Ho1.out.lt hg).1⟩
    case measure=>simp[intOf];omega
  ·obtain rfl:k=g.length:=by omega
   go_wp2;go_ret;exact⟨A',c',rfl,Ho.out.mono (by omega),HE.out.tr He.out⟩
set_option maxRecDepth 100000 in
set_option maxHeartbeats 1000000 in
theorem VP (A Av:Option Addr)(c cv:Nat)(g:Sg.Ae)(v:List Int)(k:Nat)(w:World)(h:Eg w A g)(hv:Rd w 1 Av v.length (Ah v))(hG:Sg.AG g=true)(hk:k<g.length)(hvl:v.length=g.length)(hin:Sg.Bk v) :
  Calls Tryz.prog 32 #[.agg #[.slice A g.length c],.slice Av v.length cv,.int .i64 k] w fun e w'=>∃ A' c',e= .returned (.slice A' (Sg.Cb g v k).length c')/\AA w' w.heap.size 3 1 A' (Sg.Cb g v k).length c' (Ah (Sg.Cb g v k))/\Aa w w':=by
 have hgl:=h.1;have e0:=(Aa.rfl' w).al (.cells #[.slice A g.length c] 35);obtain⟨⟨nk,nf⟩,b,o,Ap,cp,hn,rfl,hkc,hs,hf,hfl⟩:=(h.ext e0).at_ hk;dsimp only at *;have hb1:=Au hkc;by_cases hz:nk=0
 ·have z1:(nk == 0)=true:=by simp[hz]
  have hd:=lh (L5 (v:=v) hn hz);clear hn hz hf h hvl;go_enter Tryz.func32,Tryz.ntmps32;go_wp2;go_ret;rw[hd.out];exact⟨_,_,rfl,AA.nw ((Aa.rfl' w).al _) _ [] #[] rfl (by simp) (by simp),((Aa.rfl' w).al _).al _⟩
 ·have z1:(nk == 0)=false:=by simp[hz]
  have hok:=Sg.Bj hG k hn hz;have hok':Sg.RZ nf v.length:=⟨hok.good,hok.len,hok.one,fun p hp h1=>by have:=hok.reads p hp h1;omega⟩;have hd:=lh (Iu (v:=v) hn hz);have HR:=lh (fun w hf hv=>Rw Ap Av cp cv v.length nf v hok' hin w hf hv);have Hf:=lh hf;have Hv:=lh (hv.ext e0);clear hn hz hf h hok hok' hv hvl;go_enter Tryz.func32,Tryz.ntmps32;go_wp2_with fail
  refine(HR.out _ Hf.out Hv.out).mono ?_;rintro e w1 ⟨A3,c3,rfl,ho3,he3,hx0,hx1⟩;have Ho3:=lh ho3;have He3:=lh he3;clear ho3 he3;go_wp2;go_ret;rw[hd.out];exact⟨_,_,rfl,Ho3.out.mono (by simp),e0.tr He3.out⟩
theorem JC (g:Sg.Ae)(v:List Int)(k:Nat):AM (Sg.Cm g v (k+1))=AM (Sg.Cm g v k)++[⟨[],(Sg.Cb g v k).length,Ah (Sg.Cb g v k)⟩]:=by rw[Sg.N_];simp[AM]
set_option maxRecDepth 100000 in
set_option maxHeartbeats 4000000 in
theorem NG (A Ac:Option Addr)(c cc:Nat)(g:Sg.Ae)(l:List Int)(w:World)(h:Eg w A g)(hc:Rd w 1 Ac l.length (Ah l))(hG:Sg.AG g=true)(hC:Sg.AT g l=true) :
  Calls Tryz.prog 13 #[.agg #[.slice A g.length c],.slice Ac l.length cc] w fun e w'=>∃ A1 c1 A2 c2 hs,e= .returned (.agg #[.slice A1 g.length c1,.slice A2 g.length c2]) /\
   AA w' w.heap.size 3 1 A1 g.length c1 (Ah (Sg.Bz g l))/\Cy w' w.heap.size A2 c2 (Sg.Cm g (Sg.Bz g l) g.length) hs/\(∀ b,AD A1=some b->¬ FR A2 hs b)/\Aa w w':=by
 have hgl:=h.1;have e0:=((Aa.rfl' w).al (.cells #[.slice A g.length c] 35)).al (.cells #[.slice none 0 0,.slice none 0 0] 41);have HM:=lh (fun w h hc=>SE A Ac c cc g l w h hc hG hC);have hran:=Sg.FV hG hC g.length (Nat.le_refl _);have HDD:=fun (Av:Option Addr) (cv:Nat) (k:Nat) (w:World) (hk:k<g.length) (h:Eg w A g) (hv:Rd w 1 Av (Sg.Bz g l).length (Ah (Sg.Bz g l)))=>VP A Av c cv g (Sg.Bz g l) k w h hv hG hk (by simp) hran;simp only[Sg.length_mean] at HDD;have HDH:=lh HDD;have H:=lh h;have Hc:=lh hc;have HE:=lh e0;have hbox:((w.alloc (.cells #[.slice A g.length c] 35)).alloc (.cells #[.slice none 0 0,.slice none 0 0] 41)).cell? ⟨w.heap.size,0,none⟩=some (.slice A g.length c):=by simp[go_sem]
 have hres0:((w.alloc (.cells #[.slice A g.length c] 35)).alloc (.cells #[.slice none 0 0,.slice none 0 0] 41)).cell? ⟨w.heap.size+1,0,none⟩=some (.slice none 0 0):=by simp[go_sem]
 have hres1:((w.alloc (.cells #[.slice A g.length c] 35)).alloc (.cells #[.slice none 0 0,.slice none 0 0] 41)).cell? ⟨w.heap.size+1,1,none⟩=some (.slice none 0 0):=by simp[go_sem]
 have hresf:∀ j,((w.alloc (.cells #[.slice A g.length c] 35)).alloc (.cells #[.slice none 0 0,.slice none 0 0] 41)).frozen? ⟨w.heap.size+1,j,none⟩=false:=fun j=>by simp[go_sem]
 clear h hc hG hC e0 HDD hran;go_enter Tryz.func13,Tryz.ntmps13;go_wp2_with fail
 refine(HM.out _ (H.out.ext HE.out) (Hc.out.ext HE.out)).mono ?_;rintro e w1 ⟨A1,c1,rfl,ho1,he1⟩;have p0:=he1.cellE hbox;have r0:=he1.cellE hres0;have r1:=he1.cellE hres1;have rf:∀ j,w1.frozen? ⟨w.heap.size+1,j,none⟩=false:=fun j=>(he1.frozen (p:=⟨w.heap.size+1,j,none⟩) (by simp)).trans (hresf j);have hb1:=Au r0;have Ho:=lh ho1;have E1:=lh (HE.out.tr he1);have hnA1:∀ b,b<w.heap.size+1+1->AD A1≠some b:=fun b hb e=>by have:=(ho1.lt e).1;simp at this;omega
 have HnA1:=lh hnA1;clear ho1 he1 hbox hres0 hres1 hresf hnA1;go_wp2
 go_loopw [6] (fun i wr=>∃ (k:Nat) (A2:Option Addr) (c2:Nat) (hs:List (Option Addr × Nat)),k<=g.length/\i= .int .i64 k/\Aa w1 wr/\wr.cell? ⟨w1.heap.size,0,none⟩=some (.slice A1 g.length c1)/\wr.cell? ⟨w1.heap.size,1,none⟩=some (.slice A2 k c2)/\wr.frozen? ⟨w1.heap.size,1,none⟩=false /\
   Cy wr (w1.heap.size+1) A2 c2 (Sg.Cm g (Sg.Bz g l) k) hs) (fun i _=>g.length - (intOf i).toNat)
 case atStart =>
  refine⟨0,none,0,[],Nat.zero_le _,rfl,(Aa.rfl' _).al _,by simp[go_sem],by simp[go_sem],by simp[go_sem],?_⟩;exact Bn.nil _ _ _ _ _ _
 case round =>
  obtain⟨k,A2,c2,hs,hk,rfl,he,q1,q2,qf,hown⟩:=hrel;have q0:=he.cellE p0;have t0:=he.cellE r0;have t1:=he.cellE r1;have hsz:w1.heap.size+1<=wr.heap.size:=Au q1;have hlen:(AM (Sg.Cm g (Sg.Bz g l) k)).length=k:=by simp
  have Hout:Hid (AA wr (w1.heap.size+1) 36 1 A2 k c2 (Bb (AM (Sg.Cm g (Sg.Bz g l) k)) hs)):=lh (by have:=hown.out;rw[hlen] at this;exact this);have Hv:=lh (Ho.out.rd.ext he);have EC:=lh (E1.out.tr he);have ER:=lh he;have Ho2:=lh hown;have Hlen:=lh hlen;have HD:=lh (fun k w hk h hv=>HDH.out A1 c1 k w hk h hv);have hbN:=Au q0;have hbS:=Au q1;clear he hown hlen;by_cases hlt:k<g.length
  ·have ed:=(Aa.rfl' wr).dr
   have OD:∀ (A3:Option Addr) (c3:Nat) (w2:World) (A4:Option Addr) (c4:Nat) (w4:World),Aa wr w2->AA w2 wr.heap.size 3 1 A3 (Sg.Cb g (Sg.Bz g l) k).length c3 (Ah (Sg.Cb g (Sg.Bz g l) k)) ->
     AA w4 (w1.heap.size+1) 36 1 A4 (k+1) c4 (Bb (AM (Sg.Cm g (Sg.Bz g l) k)) hs++[.slice A3 (Sg.Cb g (Sg.Bz g l) k).length c3])->w2.grownBy w4 (AD A2)->(AD A4=AD A2\/∃ g,AD A4=some g/\w2.heap.size<=g) ->
     Bn w4 (w1.heap.size+1) 36 1 3 1 A4 c4 (AM (Sg.Cm g (Sg.Bz g l) k)++[⟨[],(Sg.Cb g (Sg.Bz g l) k).length,Ah (Sg.Cb g (Sg.Bz g l) k)⟩]) (hs++[(A3,c3)]):=by
    intro A3 c3 w2 A4 c4 w4 e ho3 ho4 hg hat;exact Bn.snoc Ho2.out e hsz (it:=⟨[],(Sg.Cb g (Sg.Bz g l) k).length,Ah (Sg.Cb g (Sg.Bz g l) k)⟩) ho3 (by rw[Hlen.out];exact ho4) hg hat
   have OD:=lh OD;clear p0 r0 r1 rf t0 t1;go_wp2_with fail
   refine wp_region_held_drew (S:=(fun W=>W.cell? ⟨w.heap.size,0,none⟩=some (.slice A g.length c)/\W.cell? ⟨w1.heap.size,0,none⟩=some (.slice A1 g.length c1))) (by kernel_rfl) ?_ (fun hHeld=>?_)
   ·exact⟨ed.cellE q0,ed.cellE q1⟩
   refine ty 0 ?_;refine ty 2 ?_;refine ty 3 ?_;refine ty 4 ?_;refine ty 5 ?_;refine wpAnyH_ready (rs:=[1,6]) (by kernel_rfl) (by simp) ?_;refine AllReadyH.cons rfl (fun K hK=>?_) ?_
   ·go_simp;clear hHeld;refine hK.out _ _ (by exact(by first | exact⟨ed.cellE q0,ed.cellE q1⟩ | exact⟨k0,k1⟩ | exact⟨((Aa.rfl' _).al _).cellE k0,((Aa.rfl' _).al _).cellE k1⟩)) fun hHeld=>?_;clear hK K;try simp only[Act.put,pu]
    refine Cu 6 rfl fun K hK=>?_;go_simp;refine(HD.out k _ hlt (H.out.ext (EC.out.tr ed)) (Hv.out.ext ed)).mono ?_;rintro e w2 ⟨A3,c3,rfl,ho3,he3⟩;have k0:=(ed.tr he3).cellE q0;have k1:=(ed.tr he3).cellE q1;have k2:=(ed.tr he3).cellE q2;have kb:=Au k2;have e4:=ed.tr he3;try go_wp2_with fail
    clear hHeld;refine hK.out _ _ (by exact⟨k0,k1⟩) fun hHeld=>?_;clear hK K;try simp only[Act.put,pu]
    refine Cu 7 rfl fun K hK=>?_;go_simp;clear hHeld;refine hK.out _ _ (by exact⟨((Aa.rfl' _).al _).cellE k0,((Aa.rfl' _).al _).cellE k1⟩) fun hHeld=>?_;clear hK K;try simp only[Act.put,pu]
    refine Cu 8 rfl fun K hK=>?_;refine Gk rfl rfl Bq rfl (Hout.out.ext e4) rfl rfl (Gm _ _ _) (by omega) (by omega) (by have:=e4.size;have:=hsz;omega) ?_;intro A4 c4 w4 ho4 hg4 hat4;have hne:∀ b,b<w1.heap.size+1->AD A2≠some b:=fun b hb e=>by have:=(Hout.out.lt e).1;omega
    have j0:=CJ hg4 k0 (hne _ (by omega));have j1:=CJ hg4 k1 (hne _ (by omega));have j2:=CJ hg4 k2 (hne _ (by omega));have jf:=JD hg4 kb (o:=1) (e4.frozen (p:=⟨w1.heap.size,1,none⟩) (by omega) |>.trans qf) (hne _ (by omega));have jb:=Au j2;clear hHeld;refine hK.out _ _ (by exact⟨j0,j1⟩) fun hHeld=>?_;clear hK K;try simp only[Act.put,List.setIfInBounds_toArray]
    refine tv 9 (v:=?_) ?_ ?_;rotate_left
    ·intro w hSw;(try dsimp only at hSw);go_simp;try with_reducible rfl
    try simp only[Act.put]
    refine Cu 10 rfl fun K hK=>?_;go_simp;clear hHeld;refine hK.out _ _ (by exact⟨(co).trans j0,(co).trans j1⟩) fun hHeld=>?_;clear hK K;try simp only[Act.put]
    refine dn ?_;go_wp2;go_roundw
    case rel =>
     have hd2:FR A4 (hs++[(A3,c3)]) w1.heap.size->False:=fun e=>by have:=(OD.out A3 c3 w2 A4 c4 w4 e4 ho3 ho4 hg4 hat4).lt e;omega
     refine⟨k+1,A4,c4,hs++[(A3,c3)],by omega,by go_num,?_,?_,?_,?_,?_⟩
     ·exact((ER.out.tr e4).gr hg4 (fun b hb=>by have:=(Hout.out.lt hb).1;simp;omega)).set (by simp) _
     ·refine(co).trans j1
     ·exact World.cell?_setCell_same _ _ _ j2
     ·rw[World.frozen?_setCell];exact jf
     ·unfold Cy;rw[JC];exact(OD.out A3 c3 w2 A4 c4 w4 e4 ho3 ho4 hg4 hat4).below (by simp) _
    case measure=>simp[intOf];omega
   refine AllReadyH.cons rfl (fun K hK=>?_) ?_
   ·go_simp;refine(HD.out k _ hlt (H.out.ext (EC.out.tr ed)) (Hv.out.ext ed)).mono ?_;rintro e w2 ⟨A3,c3,rfl,ho3,he3⟩;have k0:=(ed.tr he3).cellE q0;have k1:=(ed.tr he3).cellE q1;have k2:=(ed.tr he3).cellE q2;have kb:=Au k2;have e4:=ed.tr he3;try go_wp2_with fail
    clear hHeld;refine hK.out _ _ (by exact⟨k0,k1⟩) fun hHeld=>?_;clear hK K;try simp only[Act.put,pu]
    refine wpAnyH_ready (rs:=[1,7]) (by kernel_rfl) (by simp) ?_;refine AllReadyH.cons rfl (fun K hK=>?_) ?_
    ·go_simp;clear hHeld;refine hK.out _ _ (by exact(by first | exact⟨ed.cellE q0,ed.cellE q1⟩ | exact⟨k0,k1⟩ | exact⟨((Aa.rfl' _).al _).cellE k0,((Aa.rfl' _).al _).cellE k1⟩)) fun hHeld=>?_;clear hK K;try simp only[Act.put,pu]
     refine Cu 7 rfl fun K hK=>?_;go_simp;clear hHeld;refine hK.out _ _ (by exact⟨((Aa.rfl' _).al _).cellE k0,((Aa.rfl' _).al _).cellE k1⟩) fun hHeld=>?_;clear hK K;try simp only[Act.put,pu]
     refine Cu 8 rfl fun K hK=>?_;refine Gk rfl rfl Bq rfl (Hout.out.ext e4) rfl rfl (Gm _ _ _) (by omega) (by omega) (by have:=e4.size;have:=hsz;omega) ?_;intro A4 c4 w4 ho4 hg4 hat4;have hne:∀ b,b<w1.heap.size+1->AD A2≠some b:=fun b hb e=>by have:=(Hout.out.lt e).1;omega
     have j0:=CJ hg4 k0 (hne _ (by omega));have j1:=CJ hg4 k1 (hne _ (by omega));have j2:=CJ hg4 k2 (hne _ (by omega));have jf:=JD hg4 kb (o:=1) (e4.frozen (p:=⟨w1.heap.size,1,none⟩) (by omega) |>.trans qf) (hne _ (by omega));have jb:=Au j2;clear hHeld;refine hK.out _ _ (by exact⟨j0,j1⟩) fun hHeld=>?_;clear hK K;try simp only[Act.put,List.setIfInBounds_toArray]
     refine tv 9 (v:=?_) ?_ ?_;rotate_left
     ·intro w hSw;(try dsimp only at hSw);go_simp;try with_reducible rfl
     try simp only[Act.put]
     refine Cu 10 rfl fun K hK=>?_;go_simp;clear hHeld;refine hK.out _ _ (by exact⟨(co).trans j0,(co).trans j1⟩) fun hHeld=>?_;clear hK K;try simp only[Act.put]
     refine dn ?_;go_wp2;go_roundw
     case rel =>
      have hd2:FR A4 (hs++[(A3,c3)]) w1.heap.size->False:=fun e=>by have:=(OD.out A3 c3 w2 A4 c4 w4 e4 ho3 ho4 hg4 hat4).lt e;omega
      refine⟨k+1,A4,c4,hs++[(A3,c3)],by omega,by go_num,?_,?_,?_,?_,?_⟩
      ·exact((ER.out.tr e4).gr hg4 (fun b hb=>by have:=(Hout.out.lt hb).1;simp;omega)).set (by simp) _
      ·refine(co).trans j1
      ·exact World.cell?_setCell_same _ _ _ j2
      ·rw[World.frozen?_setCell];exact jf
      ·unfold Cy;rw[JC];exact(OD.out A3 c3 w2 A4 c4 w4 e4 ho3 ho4 hg4 hat4).below (by simp) _
     case measure=>simp[intOf];omega
    refine AllReadyH.cons rfl (fun K hK=>?_) ?_
    ·go_simp;clear hHeld;refine hK.out _ _ (by exact⟨((Aa.rfl' _).al _).cellE k0,((Aa.rfl' _).al _).cellE k1⟩) fun hHeld=>?_;clear hK K;try simp only[Act.put,pu]
     refine Cu 1 rfl fun K hK=>?_;go_simp;clear hHeld;refine hK.out _ _ (by exact(by first | exact⟨ed.cellE q0,ed.cellE q1⟩ | exact⟨k0,k1⟩ | exact⟨((Aa.rfl' _).al _).cellE k0,((Aa.rfl' _).al _).cellE k1⟩)) fun hHeld=>?_;clear hK K;try simp only[Act.put,pu]
     refine Cu 8 rfl fun K hK=>?_;refine Gk rfl rfl Bq rfl (Hout.out.ext e4) rfl rfl (Gm _ _ _) (by omega) (by omega) (by have:=e4.size;have:=hsz;omega) ?_;intro A4 c4 w4 ho4 hg4 hat4;have hne:∀ b,b<w1.heap.size+1->AD A2≠some b:=fun b hb e=>by have:=(Hout.out.lt e).1;omega
     have j0:=CJ hg4 k0 (hne _ (by omega));have j1:=CJ hg4 k1 (hne _ (by omega));have j2:=CJ hg4 k2 (hne _ (by omega));have jf:=JD hg4 kb (o:=1) (e4.frozen (p:=⟨w1.heap.size,1,none⟩) (by omega) |>.trans qf) (hne _ (by omega));have jb:=Au j2;clear hHeld;refine hK.out _ _ (by exact⟨j0,j1⟩) fun hHeld=>?_;clear hK K;try simp only[Act.put,List.setIfInBounds_toArray]
     refine tv 9 (v:=?_) ?_ ?_;rotate_left
     ·intro w hSw;(try dsimp only at hSw);go_simp;try with_reducible rfl
     try simp only[Act.put]
     refine Cu 10 rfl fun K hK=>?_;go_simp;clear hHeld;refine hK.out _ _ (by exact⟨(co).trans j0,(co).trans j1⟩) fun hHeld=>?_;clear hK K;try simp only[Act.put]
     refine dn ?_;go_wp2;go_roundw
     case rel =>
      have hd2:FR A4 (hs++[(A3,c3)]) w1.heap.size->False:=fun e=>by have:=(OD.out A3 c3 w2 A4 c4 w4 e4 ho3 ho4 hg4 hat4).lt e;omega
      refine⟨k+1,A4,c4,hs++[(A3,c3)],by omega,by go_num,?_,?_,?_,?_,?_⟩
      ·exact((ER.out.tr e4).gr hg4 (fun b hb=>by have:=(Hout.out.lt hb).1;simp;omega)).set (by simp) _
      ·refine(co).trans j1
      ·exact World.cell?_setCell_same _ _ _ j2
      ·rw[World.frozen?_setCell];exact jf
      ·unfold Cy;rw[JC];exact(OD.out A3 c3 w2 A4 c4 w4 e4 ho3 ho4 hg4 hat4).below (by simp) _
     case measure=>simp[intOf];omega
    exact AllReadyH.nil
   exact AllReadyH.nil
  ·obtain rfl:k=g.length:=by omega
   have tf:∀ j,wr.frozen? ⟨w.heap.size+1,j,none⟩=false:=fun j=>(ER.out.frozen (p:=⟨w.heap.size+1,j,none⟩) hb1).trans (rf j);have tf0:=tf 0;have tf1:=tf 1;have hbt:=Au t0;clear p0 r0 r1 rf tf;go_wp2;have g0:∀ u v:Value,((wr.setCell ⟨w.heap.size+1,0,none⟩ u).setCell ⟨w.heap.size+1,1,none⟩ v).cell? ⟨w.heap.size+1,0,none⟩=some u:=fun u v=>(co).trans (World.cell?_setCell_same _ _ _ t0);have g1:∀ u v:Value,((wr.setCell ⟨w.heap.size+1,0,none⟩ u).setCell ⟨w.heap.size+1,1,none⟩ v).cell? ⟨w.heap.size+1,1,none⟩=some v:=fun u v=>World.cell?_setCell_same _ _ _ (u := .slice none 0 0) ((co).trans t1);refine bodyPost_ret (v := .agg #[.slice A1 g.length c1,.slice A2 g.length c2]) (by simp[results,Tryz.results13,go_sem,g0,g1];try rfl) rfl ?_;have hx:=Ho.out.ext ER.out;refine⟨A1,c1,A2,c2,hs,rfl,(((hx.set (p:=⟨w.heap.size+1,0,none⟩) (HnA1.out _ (by simp)) _).set (p:=⟨w.heap.size+1,1,none⟩) (HnA1.out _ (by simp)) _).mono (by simp;omega)),((Ho2.out.below (p:=⟨w.heap.size+1,0,none⟩) (by simp;omega) _).below (p:=⟨w.heap.size+1,1,none⟩) (by simp;omega) _).mono (by omega),?_,(EC.out.set (by simp) _).set (by simp) _⟩;intro b hb hf;have h1:=(Ho.out.lt hb).2;have h2:=(Ho2.out.lt hf).1;omega
open Go.RowKit
theorem RI (A B:Option Addr)(ca cb na nb:Nat)(a b:List Int)(w:World)(h:Rd w 1 A na (Ah a))(k:Rd w 1 B nb (Ah b)) :
  Calls Tryz.prog 74 #[.slice A na ca,.slice B nb cb] w fun e w'=>e= .returned (.bool (Sg.KJ a b))/\Aa w w':=by
 have hm:=h.big;obtain rfl:=h.len;have HP:=lh (fun n=>Je B nb cb b n w k);have HN:=lh (fun n=>EK b n);go_enter Tryz.func74,Tryz.ntmps74;go_wp2;go_loop [5] (fun i=>∃ j:Nat,j<=a.length/\i= .int .i64 j/\((a.drop j).any fun x=>decide (x ∈ b))=Sg.KJ a b) (fun i=>a.length - (intOf i).toNat)
 case atStart=>exact⟨0,Nat.zero_le _,rfl,rfl⟩
 case round =>
  obtain⟨j,hj,rfl,hpl⟩:=hrel;by_cases hlt:j<a.length
  ·obtain⟨bb,o,x,rfl,hx,hc⟩:=h.at1 hlt;rw[Dy a j hx,List.any_cons] at hpl;have H:=lh hpl;clear hpl hx;by_cases hr:x ∈ b
   ·have Hr:=lh (show decide (x ∈ b)=true by simpa using hr);have hp:decide (Db b x ≥ 0)=true:=by have:=(HN.out x).1;simp only[decide_eq_true_eq];by_cases h0:Db b x<0;exact absurd hr (this h0);omega
    clear hr;go_wp2_with (go_at_call 112;refine(HP.out _).mono ?_;rintro e w' ⟨rfl,rfl⟩)
    go_ret;exact⟨Aj (by rw[<- H.out,Hr.out];rfl),Aa.rfl' _⟩
   ·have Hr:=lh (show decide (x ∈ b)=false by simpa using hr);have hp:decide (Db b x ≥ 0)=false:=by have:=(HN.out x).2 hr;simp only[decide_eq_false_iff_not];omega
    clear hr;go_wp2_with (go_at_call 112;refine(HP.out _).mono ?_;rintro e w' ⟨rfl,rfl⟩)
    go_round
    case rel=>exact⟨j+1,by omega,by go_num,by rw[<- H.out,Hr.out,Bool.false_or]⟩
    case measure=>simp[intOf];omega
  ·have H:=lh hpl;clear hpl;go_wp2;go_ret;exact⟨Aj (by rw[<- H.out,List.drop_eq_nil_of_le (by omega)];rfl),Aa.rfl' _⟩
end Go.Proofs.YthibllkleakiiaaGreatDoor
