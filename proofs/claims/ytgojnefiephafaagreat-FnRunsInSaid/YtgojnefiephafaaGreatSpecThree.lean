/- Parts of one proof, joined. The reference's validCells, meaning, deps: contracts. Conditions: bounds on lengths; valid graphs and cells for the meaning. The reference's startEager: its contract. Conditions: valid graphs and cells. -/
import Derived.Test.YtgojnefiephafaaGreatSpecTwo
import Derived.Test.YtgojnefiephafaaGreatTy
import Derived.Handy
namespace Go.Proofs.YtgojnefiephafaaGreat
open Go.RowKit
def CO (g:Sg.Graph) (cells:List Int) (k:Nat):Bool:=(List.range k).all (Sg.cellOk g cells)
theorem CO_succ (g:Sg.Graph) (cells:List Int) (k:Nat):CO g cells (k + 1)=(CO g cells k && Sg.cellOk g cells k):=by unfold CO;rw [List.range_succ,List.all_append];simp
theorem CO_bad (g:Sg.Graph) (cells:List Int) (k:Nat) (hk:k<cells.length) (h:Sg.cellOk g cells k=false):Sg.validC g cells=false:=by
 have:(List.range cells.length).all (Sg.cellOk g cells)=false:=by
  rw [List.all_eq_false];exact ⟨k,by rw [List.mem_range];exact hk,by rw [h];simp⟩
 unfold Sg.validC;rw [this];simp
theorem cellOk_at {g:Sg.Graph} {cells:List Int} {k:Nat} {n:Sg.Node} {x:Int} (hn:g[k]? = some n) (hx:cells[k]? = some x):Sg.cellOk g cells k=(Sg.inR x 0 999 && (decide (n.kind=0) || decide (x=0))):=by
 unfold Sg.cellOk Sg.kindAt;simp [hn,hx]
set_option maxRecDepth 100000 in
set_option maxHeartbeats 1000000 in
theorem s_validCells (A Ac:Option Addr) (c cc:Nat) (g:Sg.Graph) (l:List Int) (w:World) (h:RdN w A g) (hc:Rd w 1 Ac l.length (ints l)) :
  Calls Tryz.prog 66 #[.agg #[.slice A g.length c],.slice Ac l.length cc] w fun e w'=>e = .returned (.bool (Sg.validC g l))∧Ext w w':=by
 have hgl:=h.1;have hll:=hc.big;have e0:=(Ext.rfl' w).al (.cells #[.slice A g.length c] 33);have h0:=h.ext e0;have hc0:=hc.ext e0;by_cases hlen:l.length=g.length
 case neg =>
  have b1:((l.length:Int) != (g.length:Int))=true:=by simp;omega
  have Hb:=lh hlen;clear hlen;go_enter Tryz.func66,Tryz.ntmps66;go_wp2;go_ret;exact ⟨ret_bool (by unfold Sg.validC;simp [Hb.out]),e0⟩
 have b1:((l.length:Int) != (g.length:Int))=false:=by simp;omega
 have Hlen:=lh hlen;have HE:=lh e0;clear hlen e0;go_enter Tryz.func66,Tryz.ntmps66;go_wp2;go_loop [5] (fun i=>∃ k:Nat,k≤l.length∧i = .int .i64 k∧CO g l k=true) (fun i=>l.length - (intOf i).toNat)
 case atStart=>exact ⟨0,Nat.zero_le _,rfl,rfl⟩
 case round =>
  obtain ⟨k,hk,rfl,hco⟩:=hrel;have HC:=lh hco;clear hco;by_cases hlt:k<l.length
  ·have hkg:k<g.length:=by have:=Hlen.out;omega
   obtain ⟨⟨nk,nf⟩,b,o,Ap,cp,hn,rfl,hkc,hs,_,_⟩:=h0.at_ hkg;obtain ⟨bc,oc,x,rfl,hx,hxc⟩:=hc0.at1 hlt;have hok:=lh (cellOk_at hn hx);dsimp only at *;have hb1:=blt hkc;have hb2:=blt hxc;clear hn hx;cases hin:Sg.inR x 0 999
   ·have Hin:=lh hin;clear hin;go_wp2_with (go_at_call 111;refine (s_inRange _ _ _ _).mono ?_;rintro e w' ⟨rfl,rfl⟩;rw [Hin.out])
    go_ret;exact ⟨ret_bool (CO_bad g l k hlt (by rw [hok.out,Hin.out];rfl)).symm,HE.out⟩
   ·have Hin:=lh hin;clear hin;by_cases hz:nk=0
    ·have z1:(nk != 0)=false:=by simp [hz]
     have Hz:=lh hz;clear hz;go_wp2_with (go_at_call 111;refine (s_inRange _ _ _ _).mono ?_;rintro e w' ⟨rfl,rfl⟩;rw [Hin.out])
     go_round
     case rel=>exact ⟨k + 1,by omega,by go_num,by rw [CO_succ,HC.out,hok.out,Hin.out,Hz.out];rfl⟩
     case measure=>simp [intOf];omega
    ·have z1:(nk != 0)=true:=by simp [hz]
     have Hz:=lh hz;clear hz;by_cases hx0:x=0
     ·have z2:(x != 0)=false:=by simp [hx0]
      have Hx:=lh hx0;clear hx0;go_wp2_with (go_at_call 111;refine (s_inRange _ _ _ _).mono ?_;rintro e w' ⟨rfl,rfl⟩;rw [Hin.out])
      go_round
      case rel=>exact ⟨k + 1,by omega,by go_num,by rw [CO_succ,HC.out,hok.out,Hin.out,Hx.out];simp⟩
      case measure=>simp [intOf];omega
     ·have z2:(x != 0)=true:=by simp [hx0]
      have Hx:=lh hx0;clear hx0;go_wp2_with (go_at_call 111;refine (s_inRange _ _ _ _).mono ?_;rintro e w' ⟨rfl,rfl⟩;rw [Hin.out])
      go_ret;exact ⟨ret_bool (CO_bad g l k hlt (by rw [hok.out];simp [Hz.out,Hx.out])).symm,HE.out⟩
  ·obtain rfl:k=l.length:=by omega
   go_wp2;go_ret;exact ⟨ret_bool (by unfold Sg.validC;have:=HC.out;unfold CO at this;rw [this];simp [Hlen.out]),HE.out⟩
theorem valAt_cell {g:Sg.Graph} {cells out:List Int} {k:Nat} {n:Sg.Node} {x:Int} (hn:g[k]? = some n) (hx:cells[k]? = some x) (h:n.kind=0):Sg.valAt g cells out k=x:=by simp [Sg.valAt,hn,hx,h]
theorem valAt_form {g:Sg.Graph} {cells out:List Int} {k:Nat} {n:Sg.Node} (hn:g[k]? = some n) (h:¬ n.kind=0):Sg.valAt g cells out k=(Sg.runF n.f out).1:=by simp [Sg.valAt,hn,h]
theorem depAt_cell {g:Sg.Graph} {v:List Int} {k:Nat} {n:Sg.Node} (hn:g[k]? = some n) (h:n.kind=0):Sg.depAt g v k=[]:=by simp [Sg.depAt,hn,h]
theorem depAt_form {g:Sg.Graph} {v:List Int} {k:Nat} {n:Sg.Node} (hn:g[k]? = some n) (h:¬ n.kind=0):Sg.depAt g v k=(Sg.runF n.f v).2:=by simp [Sg.depAt,hn,h]
set_option maxRecDepth 100000 in
set_option maxHeartbeats 2000000 in
theorem s_meaning (A Ac:Option Addr) (c cc:Nat) (g:Sg.Graph) (l:List Int) (w:World) (h:RdN w A g) (hc:Rd w 1 Ac l.length (ints l)) (hG:Sg.validG g=true) (hC:Sg.validC g l=true) :
  Calls Tryz.prog 141 #[.agg #[.slice A g.length c],.slice Ac l.length cc] w fun e w'=>∃ A' c',e = .returned (.slice A' g.length c')∧Own w' w.heap.size 3 1 A' g.length c' (ints (Sg.mean g l))∧Ext w w':=by
 have hgl:=h.1;have Hlen:=lh (Sg.validC_len hC);have e0:=(Ext.rfl' w).al (.cells #[.slice A g.length c] 33);have hbox:(w.alloc (.cells #[.slice A g.length c] 33)).cell? ⟨w.heap.size,0,none⟩=some (.slice A g.length c):=by simp [go_sem]
 have H:=lh h;have Hc:=lh hc;have HG:=lh hG;have HC:=lh hC;have HE:=lh e0;have HB:=lh hbox;clear h hc hG hC e0 hbox;go_enter Tryz.func141,Tryz.ntmps141;go_wp2;go_loopw [5,6] (fun v i wr=>∃ (k:Nat) (A':Option Addr) (c':Nat),k≤g.length∧i = .int .i64 k∧v = .slice A' k c'∧Own wr (w.heap.size + 1) 3 1 A' k c' (ints (Sg.meanTo g l k))∧Ext (w.alloc (.cells #[.slice A g.length c] 33)) wr) (fun _ i _=>g.length - (intOf i).toNat)
 case atStart=>exact ⟨0,_,_,Nat.zero_le _,rfl,rfl,by have:=Own.nw (Ext.rfl' (w.alloc (.cells #[.slice A g.length c] 33))) (w.heap.size + 1) [] #[] rfl (by simp) (by simp);simp only [World.size_alloc] at this;exact this,(Ext.rfl' _).al _⟩
 case round =>
  obtain ⟨k,A',c',hk,rfl,rfl,hown,he⟩:=hrel;have q0:=he.cellE HB.out;have hsz:=he.size;simp only [World.size_alloc] at hsz;have Ho:=lh hown;have He:=lh he;clear hown he;have hb0:=blt q0;by_cases hlt:k<g.length
  ·have hkl:k<l.length:=by have:=Hlen.out;omega
   obtain ⟨⟨nk,nf⟩,b,o,Ap,cp,hn,rfl,hkc,hs,hf,hfl⟩:=(H.out.ext (HE.out.tr He.out)).at_ hlt;obtain ⟨bc,oc,x,rfl,hx,hxc⟩:=(Hc.out.ext (HE.out.tr He.out)).at1 hkl;dsimp only at *;have hb1:=blt hkc;have hb2:=blt hxc;by_cases hz:nk=0
   ·have z1:(nk != 0)=false:=by simp [hz]
    have hv:=lh (show Sg.meanTo g l (k + 1)=Sg.meanTo g l k++[x] by simp only [Sg.meanTo];rw [valAt_cell hn hx hz]);clear hn hx hz;go_wp2_with (at_builtin;refine wpList_app1 rfl rfl eiInt rfl Ho.out rfl rfl (one_int _ _) (by omega) (by omega) hsz ?_;intro A2 c2 w2 hown2 hg2 hat2)
    have Ho2:=lh hown2;have Hg2:=lh hg2;clear hown2 hg2 hat2;go_wp2;go_roundw
    case rel=>exact ⟨k + 1,A2,c2,by omega,by go_num,rfl,by rw [hv.out];simpa using Ho2.out,He.out.gr Hg2.out fun g hg=>by simpa using (Ho.out.lt hg).1⟩
    case measure=>simp [intOf];omega
   ·have z1:(nk != 0)=true:=by simp [hz]
    have hok:=lh (Sg.validG_fok HG.out k hn hz);have hran:=lh (Sg.meanTo_range HG.out HC.out k hk);have hv:=lh (show Sg.meanTo g l (k + 1)=Sg.meanTo g l k++[(Sg.runF nf (Sg.meanTo g l k)).1] by simp only [Sg.meanTo];rw [valAt_form hn hz]);have HR:=lh (fun w hf hv=>s_run Ap A' cp c' k nf (Sg.meanTo g l k) hok.out hran.out w hf hv);have Hf:=lh hf;clear hn hx hz hf;obtain ⟨rs,hrs⟩:∃ rs,rs=Sg.runF nf (Sg.meanTo g l k):=⟨_,rfl⟩;rw [← hrs] at hv HR;have Hrs:=lh hrs;clear hrs;go_wp2_with fail
    refine (HR.out _ Hf.out Ho.out.rd).mono ?_;rintro e w1 ⟨A3,c3,rfl,ho3,he3,hx0,hx1⟩;have q1:=he3.cellE q0;have Ho1:=lh (Ho.out.ext he3);have He1:=lh (He.out.tr he3);have hsz1:w.heap.size + 1≤w1.heap.size:=by have:=he3.size;omega
    clear ho3 he3;go_wp2_with (at_builtin;refine wpList_app1 rfl rfl eiInt rfl Ho1.out rfl rfl (one_int _ _) (by omega) (by omega) hsz1 ?_;intro A2 c2 w2 hown2 hg2 hat2)
    have Ho2:=lh hown2;have Hg2:=lh hg2;clear hown2 hg2 hat2;go_wp2;go_roundw
    case rel=>exact ⟨k + 1,A2,c2,by omega,by go_num,rfl,by rw [hv.out];simpa using Ho2.out,He1.out.gr Hg2.out fun g hg=>by simpa using (Ho1.out.lt hg).1⟩
    case measure=>simp [intOf];omega
  ·obtain rfl:k=g.length:=by omega
   go_wp2;go_ret;exact ⟨A',c',rfl,Ho.out.mono (by omega),HE.out.tr He.out⟩
set_option maxRecDepth 100000 in
set_option maxHeartbeats 1000000 in
theorem s_deps (A Av:Option Addr) (c cv:Nat) (g:Sg.Graph) (v:List Int) (k:Nat) (w:World) (h:RdN w A g) (hv:Rd w 1 Av v.length (ints v)) (hG:Sg.validG g=true) (hk:k<g.length) (hvl:v.length=g.length) (hin:Sg.inRange v) :
  Calls Tryz.prog 142 #[.agg #[.slice A g.length c],.slice Av v.length cv,.int .i64 k] w fun e w'=>∃ A' c',e = .returned (.slice A' (Sg.depAt g v k).length c')∧Own w' w.heap.size 3 1 A' (Sg.depAt g v k).length c' (ints (Sg.depAt g v k))∧Ext w w':=by
 have hgl:=h.1;have e0:=(Ext.rfl' w).al (.cells #[.slice A g.length c] 33);obtain ⟨⟨nk,nf⟩,b,o,Ap,cp,hn,rfl,hkc,hs,hf,hfl⟩:=(h.ext e0).at_ hk;dsimp only at *;have hb1:=blt hkc;by_cases hz:nk=0
 ·have z1:(nk == 0)=true:=by simp [hz]
  have hd:=lh (depAt_cell (v:=v) hn hz);clear hn hz hf h hvl;go_enter Tryz.func142,Tryz.ntmps142;go_wp2;go_ret;rw [hd.out];exact ⟨_,_,rfl,Own.nw ((Ext.rfl' w).al _) _ [] #[] rfl (by simp) (by simp),((Ext.rfl' w).al _).al _⟩
 ·have z1:(nk == 0)=false:=by simp [hz]
  have hok:=Sg.validG_fok hG k hn hz;have hok':Sg.FOK nf v.length:=⟨hok.good,hok.len,hok.one,fun p hp h1=>by have:=hok.reads p hp h1;omega⟩;have hd:=lh (depAt_form (v:=v) hn hz);have HR:=lh (fun w hf hv=>s_run Ap Av cp cv v.length nf v hok' hin w hf hv);have Hf:=lh hf;have Hv:=lh (hv.ext e0);clear hn hz hf h hok hok' hv hvl;go_enter Tryz.func142,Tryz.ntmps142;go_wp2_with fail
  refine (HR.out _ Hf.out Hv.out).mono ?_;rintro e w1 ⟨A3,c3,rfl,ho3,he3,hx0,hx1⟩;have Ho3:=lh ho3;have He3:=lh he3;clear ho3 he3;go_wp2;go_ret;rw [hd.out];exact ⟨_,_,rfl,Ho3.out.mono (by simp),e0.tr He3.out⟩
end Go.Proofs.YtgojnefiephafaaGreat
namespace Go.Proofs.YtgojnefiephafaaGreat
open Go.RowKit
theorem depsTo_its (g:Sg.Graph) (v:List Int) (k:Nat):listIts (Sg.depsTo g v (k + 1))=listIts (Sg.depsTo g v k)++[⟨[],(Sg.depAt g v k).length,ints (Sg.depAt g v k)⟩]:=by rw [Sg.depsTo_succ];simp [listIts]
set_option maxRecDepth 100000 in
set_option maxHeartbeats 4000000 in
theorem s_startEager (A Ac:Option Addr) (c cc:Nat) (g:Sg.Graph) (l:List Int) (w:World) (h:RdN w A g) (hc:Rd w 1 Ac l.length (ints l)) (hG:Sg.validG g=true) (hC:Sg.validC g l=true) :
  Calls Tryz.prog 106 #[.agg #[.slice A g.length c],.slice Ac l.length cc] w fun e w'=>∃ A1 c1 A2 c2 hs,e = .returned (.agg #[.slice A1 g.length c1,.slice A2 g.length c2]) ∧
   Own w' w.heap.size 3 1 A1 g.length c1 (ints (Sg.mean g l))∧OwnL w' w.heap.size A2 c2 (Sg.depsTo g (Sg.mean g l) g.length) hs∧(∀ b,blk A1=some b→¬ fpD A2 hs b)∧Ext w w':=by
 have hgl:=h.1;have e0:=((Ext.rfl' w).al (.cells #[.slice A g.length c] 33)).al (.cells #[.slice none 0 0,.slice none 0 0] 139);have HM:=lh (fun w h hc=>s_meaning A Ac c cc g l w h hc hG hC);have hran:=Sg.meanTo_range hG hC g.length (Nat.le_refl _);have HDD:=fun (Av:Option Addr) (cv:Nat) (k:Nat) (w:World) (hk:k<g.length) (h:RdN w A g) (hv:Rd w 1 Av (Sg.mean g l).length (ints (Sg.mean g l)))=>s_deps A Av c cv g (Sg.mean g l) k w h hv hG hk (by simp) hran;simp only [Sg.length_mean] at HDD;have HDH:=lh HDD;have H:=lh h;have Hc:=lh hc;have HE:=lh e0;have hbox:((w.alloc (.cells #[.slice A g.length c] 33)).alloc (.cells #[.slice none 0 0,.slice none 0 0] 139)).cell? ⟨w.heap.size,0,none⟩=some (.slice A g.length c):=by simp [go_sem]
 have hres0:((w.alloc (.cells #[.slice A g.length c] 33)).alloc (.cells #[.slice none 0 0,.slice none 0 0] 139)).cell? ⟨w.heap.size + 1,0,none⟩=some (.slice none 0 0):=by simp [go_sem]
 have hres1:((w.alloc (.cells #[.slice A g.length c] 33)).alloc (.cells #[.slice none 0 0,.slice none 0 0] 139)).cell? ⟨w.heap.size + 1,1,none⟩=some (.slice none 0 0):=by simp [go_sem]
 have hresf:∀ j,((w.alloc (.cells #[.slice A g.length c] 33)).alloc (.cells #[.slice none 0 0,.slice none 0 0] 139)).frozen? ⟨w.heap.size + 1,j,none⟩=false:=fun j=>by simp [go_sem]
 clear h hc hG hC e0 HDD hran;go_enter Tryz.func106,Tryz.ntmps106;go_wp2_with fail
 refine (HM.out _ (H.out.ext HE.out) (Hc.out.ext HE.out)).mono ?_;rintro e w1 ⟨A1,c1,rfl,ho1,he1⟩;have p0:=he1.cellE hbox;have r0:=he1.cellE hres0;have r1:=he1.cellE hres1;have rf:∀ j,w1.frozen? ⟨w.heap.size + 1,j,none⟩=false:=fun j=>(he1.frozen (p:=⟨w.heap.size + 1,j,none⟩) (by simp)).trans (hresf j);have hb1:=blt r0;have Ho:=lh ho1;have E1:=lh (HE.out.tr he1);have hnA1:∀ b,b<w.heap.size + 1 + 1→blk A1≠some b:=fun b hb e=>by have:=(ho1.lt e).1;simp at this;omega
 have HnA1:=lh hnA1;clear ho1 he1 hbox hres0 hres1 hresf hnA1;go_wp2
 go_loopw [6] (fun i wr=>∃ (k:Nat) (A2:Option Addr) (c2:Nat) (hs:List (Option Addr × Nat)),k≤g.length∧i = .int .i64 k∧Ext w1 wr∧wr.cell? ⟨w1.heap.size,0,none⟩=some (.slice A1 g.length c1)∧wr.cell? ⟨w1.heap.size,1,none⟩=some (.slice A2 k c2)∧wr.frozen? ⟨w1.heap.size,1,none⟩=false ∧
   OwnL wr (w1.heap.size + 1) A2 c2 (Sg.depsTo g (Sg.mean g l) k) hs) (fun i _=>g.length - (intOf i).toNat)
 case atStart =>
  refine ⟨0,none,0,[],Nat.zero_le _,rfl,(Ext.rfl' _).al _,by simp [go_sem],by simp [go_sem],by simp [go_sem],?_⟩;exact OwnD.nil _ _ _ _ _ _
 case round =>
  obtain ⟨k,A2,c2,hs,hk,rfl,he,q1,q2,qf,hown⟩:=hrel;have q0:=he.cellE p0;have t0:=he.cellE r0;have t1:=he.cellE r1;have hsz:w1.heap.size + 1≤wr.heap.size:=blt q1;have hlen:(listIts (Sg.depsTo g (Sg.mean g l) k)).length=k:=by simp
  have Hout:Hid (Own wr (w1.heap.size + 1) 25 1 A2 k c2 (dcells (listIts (Sg.depsTo g (Sg.mean g l) k)) hs)):=lh (by have:=hown.out;rw [hlen] at this;exact this);have Hv:=lh (Ho.out.rd.ext he);have EC:=lh (E1.out.tr he);have ER:=lh he;have Ho2:=lh hown;have Hlen:=lh hlen;have HD:=lh (fun k w hk h hv=>HDH.out A1 c1 k w hk h hv);have hbN:=blt q0;have hbS:=blt q1;clear he hown hlen;by_cases hlt:k<g.length
  ·have ed:=(Ext.rfl' wr).dr
   have OD:∀ (A3:Option Addr) (c3:Nat) (w2:World) (A4:Option Addr) (c4:Nat) (w4:World),Ext wr w2→Own w2 wr.heap.size 3 1 A3 (Sg.depAt g (Sg.mean g l) k).length c3 (ints (Sg.depAt g (Sg.mean g l) k)) →
     Own w4 (w1.heap.size + 1) 25 1 A4 (k + 1) c4 (dcells (listIts (Sg.depsTo g (Sg.mean g l) k)) hs++[.slice A3 (Sg.depAt g (Sg.mean g l) k).length c3])→w2.grownBy w4 (blk A2)→(blk A4=blk A2∨∃ g,blk A4=some g∧w2.heap.size≤g) →
     OwnD w4 (w1.heap.size + 1) 25 1 3 1 A4 c4 (listIts (Sg.depsTo g (Sg.mean g l) k)++[⟨[],(Sg.depAt g (Sg.mean g l) k).length,ints (Sg.depAt g (Sg.mean g l) k)⟩]) (hs++[(A3,c3)]):=by
    intro A3 c3 w2 A4 c4 w4 e ho3 ho4 hg hat;exact OwnD.snoc Ho2.out e hsz (it:=⟨[],(Sg.depAt g (Sg.mean g l) k).length,ints (Sg.depAt g (Sg.mean g l) k)⟩) ho3 (by rw [Hlen.out];exact ho4) hg hat
   have OD:=lh OD;clear p0 r0 r1 rf t0 t1;go_wp2_with fail
   refine wp_region_held_drew (S:=(fun W=>W.cell? ⟨w.heap.size,0,none⟩=some (.slice A g.length c)∧W.cell? ⟨w1.heap.size,0,none⟩=some (.slice A1 g.length c1))) (by kernel_rfl) ?_ (fun hHeld=>?_)
   ·exact ⟨ed.cellE q0,ed.cellE q1⟩
   refine ty 0 ?_;refine ty 2 ?_;refine ty 3 ?_;refine ty 4 ?_;refine ty 5 ?_;refine wpAnyH_ready (rs:=[1,6]) (by kernel_rfl) (by simp) ?_;refine AllReadyH.cons rfl (fun K hK=>?_) ?_
   ·go_simp;clear hHeld;refine hK.out _ _ (by exact (by first | exact ⟨ed.cellE q0,ed.cellE q1⟩ | exact ⟨k0,k1⟩ | exact ⟨((Ext.rfl' _).al _).cellE k0,((Ext.rfl' _).al _).cellE k1⟩)) fun hHeld=>?_;clear hK K;try simp only [Act.put,pu]
    refine rd1 6 rfl fun K hK=>?_;go_simp;refine (HD.out k _ hlt (H.out.ext (EC.out.tr ed)) (Hv.out.ext ed)).mono ?_;rintro e w2 ⟨A3,c3,rfl,ho3,he3⟩;have k0:=(ed.tr he3).cellE q0;have k1:=(ed.tr he3).cellE q1;have k2:=(ed.tr he3).cellE q2;have kb:=blt k2;have e4:=ed.tr he3;try go_wp2_with fail
    clear hHeld;refine hK.out _ _ (by exact ⟨k0,k1⟩) fun hHeld=>?_;clear hK K;try simp only [Act.put,pu]
    refine rd1 7 rfl fun K hK=>?_;go_simp;clear hHeld;refine hK.out _ _ (by exact ⟨((Ext.rfl' _).al _).cellE k0,((Ext.rfl' _).al _).cellE k1⟩) fun hHeld=>?_;clear hK K;try simp only [Act.put,pu]
    refine rd1 8 rfl fun K hK=>?_;refine held_app1 rfl rfl eiInts rfl (Hout.out.ext e4) rfl rfl (one_slice _ _ _) (by omega) (by omega) (by have:=e4.size;have:=hsz;omega) ?_;intro A4 c4 w4 ho4 hg4 hat4;have hne:∀ b,b<w1.heap.size + 1→blk A2≠some b:=fun b hb e=>by have:=(Hout.out.lt e).1;omega
    have j0:=grown_cell hg4 k0 (hne _ (by omega));have j1:=grown_cell hg4 k1 (hne _ (by omega));have j2:=grown_cell hg4 k2 (hne _ (by omega));have jf:=grown_free hg4 kb (o:=1) (e4.frozen (p:=⟨w1.heap.size,1,none⟩) (by omega) |>.trans qf) (hne _ (by omega));have jb:=blt j2;clear hHeld;refine hK.out _ _ (by exact ⟨j0,j1⟩) fun hHeld=>?_;clear hK K;try simp only [Act.put,List.setIfInBounds_toArray]
    refine tv 9 (v:=?_) ?_ ?_;rotate_left
    ·intro w hSw;(try dsimp only at hSw);go_simp;try with_reducible rfl
    try simp only [Act.put]
    refine rd1 10 rfl fun K hK=>?_;go_simp;clear hHeld;refine hK.out _ _ (by exact ⟨(co).trans j0,(co).trans j1⟩) fun hHeld=>?_;clear hK K;try simp only [Act.put]
    refine dn ?_;go_wp2;go_roundw
    case rel =>
     have hd2:fpD A4 (hs++[(A3,c3)]) w1.heap.size→False:=fun e=>by have:=(OD.out A3 c3 w2 A4 c4 w4 e4 ho3 ho4 hg4 hat4).lt e;omega
     refine ⟨k + 1,A4,c4,hs++[(A3,c3)],by omega,by go_num,?_,?_,?_,?_,?_⟩
     ·exact ((ER.out.tr e4).gr hg4 (fun b hb=>by have:=(Hout.out.lt hb).1;simp;omega)).set (by simp) _
     ·refine (co).trans j1
     ·exact World.cell?_setCell_same _ _ _ j2
     ·rw [World.frozen?_setCell];exact jf
     ·unfold OwnL;rw [depsTo_its];exact (OD.out A3 c3 w2 A4 c4 w4 e4 ho3 ho4 hg4 hat4).below (by simp) _
    case measure=>simp [intOf];omega
   refine AllReadyH.cons rfl (fun K hK=>?_) ?_
   ·go_simp;refine (HD.out k _ hlt (H.out.ext (EC.out.tr ed)) (Hv.out.ext ed)).mono ?_;rintro e w2 ⟨A3,c3,rfl,ho3,he3⟩;have k0:=(ed.tr he3).cellE q0;have k1:=(ed.tr he3).cellE q1;have k2:=(ed.tr he3).cellE q2;have kb:=blt k2;have e4:=ed.tr he3;try go_wp2_with fail
    clear hHeld;refine hK.out _ _ (by exact ⟨k0,k1⟩) fun hHeld=>?_;clear hK K;try simp only [Act.put,pu]
    refine wpAnyH_ready (rs:=[1,7]) (by kernel_rfl) (by simp) ?_;refine AllReadyH.cons rfl (fun K hK=>?_) ?_
    ·go_simp;clear hHeld;refine hK.out _ _ (by exact (by first | exact ⟨ed.cellE q0,ed.cellE q1⟩ | exact ⟨k0,k1⟩ | exact ⟨((Ext.rfl' _).al _).cellE k0,((Ext.rfl' _).al _).cellE k1⟩)) fun hHeld=>?_;clear hK K;try simp only [Act.put,pu]
     refine rd1 7 rfl fun K hK=>?_;go_simp;clear hHeld;refine hK.out _ _ (by exact ⟨((Ext.rfl' _).al _).cellE k0,((Ext.rfl' _).al _).cellE k1⟩) fun hHeld=>?_;clear hK K;try simp only [Act.put,pu]
     refine rd1 8 rfl fun K hK=>?_;refine held_app1 rfl rfl eiInts rfl (Hout.out.ext e4) rfl rfl (one_slice _ _ _) (by omega) (by omega) (by have:=e4.size;have:=hsz;omega) ?_;intro A4 c4 w4 ho4 hg4 hat4;have hne:∀ b,b<w1.heap.size + 1→blk A2≠some b:=fun b hb e=>by have:=(Hout.out.lt e).1;omega
     have j0:=grown_cell hg4 k0 (hne _ (by omega));have j1:=grown_cell hg4 k1 (hne _ (by omega));have j2:=grown_cell hg4 k2 (hne _ (by omega));have jf:=grown_free hg4 kb (o:=1) (e4.frozen (p:=⟨w1.heap.size,1,none⟩) (by omega) |>.trans qf) (hne _ (by omega));have jb:=blt j2;clear hHeld;refine hK.out _ _ (by exact ⟨j0,j1⟩) fun hHeld=>?_;clear hK K;try simp only [Act.put,List.setIfInBounds_toArray]
     refine tv 9 (v:=?_) ?_ ?_;rotate_left
     ·intro w hSw;(try dsimp only at hSw);go_simp;try with_reducible rfl
     try simp only [Act.put]
     refine rd1 10 rfl fun K hK=>?_;go_simp;clear hHeld;refine hK.out _ _ (by exact ⟨(co).trans j0,(co).trans j1⟩) fun hHeld=>?_;clear hK K;try simp only [Act.put]
     refine dn ?_;go_wp2;go_roundw
     case rel =>
      have hd2:fpD A4 (hs++[(A3,c3)]) w1.heap.size→False:=fun e=>by have:=(OD.out A3 c3 w2 A4 c4 w4 e4 ho3 ho4 hg4 hat4).lt e;omega
      refine ⟨k + 1,A4,c4,hs++[(A3,c3)],by omega,by go_num,?_,?_,?_,?_,?_⟩
      ·exact ((ER.out.tr e4).gr hg4 (fun b hb=>by have:=(Hout.out.lt hb).1;simp;omega)).set (by simp) _
      ·refine (co).trans j1
      ·exact World.cell?_setCell_same _ _ _ j2
      ·rw [World.frozen?_setCell];exact jf
      ·unfold OwnL;rw [depsTo_its];exact (OD.out A3 c3 w2 A4 c4 w4 e4 ho3 ho4 hg4 hat4).below (by simp) _
     case measure=>simp [intOf];omega
    refine AllReadyH.cons rfl (fun K hK=>?_) ?_
    ·go_simp;clear hHeld;refine hK.out _ _ (by exact ⟨((Ext.rfl' _).al _).cellE k0,((Ext.rfl' _).al _).cellE k1⟩) fun hHeld=>?_;clear hK K;try simp only [Act.put,pu]
     refine rd1 1 rfl fun K hK=>?_;go_simp;clear hHeld;refine hK.out _ _ (by exact (by first | exact ⟨ed.cellE q0,ed.cellE q1⟩ | exact ⟨k0,k1⟩ | exact ⟨((Ext.rfl' _).al _).cellE k0,((Ext.rfl' _).al _).cellE k1⟩)) fun hHeld=>?_;clear hK K;try simp only [Act.put,pu]
     refine rd1 8 rfl fun K hK=>?_;refine held_app1 rfl rfl eiInts rfl (Hout.out.ext e4) rfl rfl (one_slice _ _ _) (by omega) (by omega) (by have:=e4.size;have:=hsz;omega) ?_;intro A4 c4 w4 ho4 hg4 hat4;have hne:∀ b,b<w1.heap.size + 1→blk A2≠some b:=fun b hb e=>by have:=(Hout.out.lt e).1;omega
     have j0:=grown_cell hg4 k0 (hne _ (by omega));have j1:=grown_cell hg4 k1 (hne _ (by omega));have j2:=grown_cell hg4 k2 (hne _ (by omega));have jf:=grown_free hg4 kb (o:=1) (e4.frozen (p:=⟨w1.heap.size,1,none⟩) (by omega) |>.trans qf) (hne _ (by omega));have jb:=blt j2;clear hHeld;refine hK.out _ _ (by exact ⟨j0,j1⟩) fun hHeld=>?_;clear hK K;try simp only [Act.put,List.setIfInBounds_toArray]
     refine tv 9 (v:=?_) ?_ ?_;rotate_left
     ·intro w hSw;(try dsimp only at hSw);go_simp;try with_reducible rfl
     try simp only [Act.put]
     refine rd1 10 rfl fun K hK=>?_;go_simp;clear hHeld;refine hK.out _ _ (by exact ⟨(co).trans j0,(co).trans j1⟩) fun hHeld=>?_;clear hK K;try simp only [Act.put]
     refine dn ?_;go_wp2;go_roundw
     case rel =>
      have hd2:fpD A4 (hs++[(A3,c3)]) w1.heap.size→False:=fun e=>by have:=(OD.out A3 c3 w2 A4 c4 w4 e4 ho3 ho4 hg4 hat4).lt e;omega
      refine ⟨k + 1,A4,c4,hs++[(A3,c3)],by omega,by go_num,?_,?_,?_,?_,?_⟩
      ·exact ((ER.out.tr e4).gr hg4 (fun b hb=>by have:=(Hout.out.lt hb).1;simp;omega)).set (by simp) _
      ·refine (co).trans j1
      ·exact World.cell?_setCell_same _ _ _ j2
      ·rw [World.frozen?_setCell];exact jf
      ·unfold OwnL;rw [depsTo_its];exact (OD.out A3 c3 w2 A4 c4 w4 e4 ho3 ho4 hg4 hat4).below (by simp) _
     case measure=>simp [intOf];omega
    exact AllReadyH.nil
   exact AllReadyH.nil
  ·obtain rfl:k=g.length:=by omega
   have tf:∀ j,wr.frozen? ⟨w.heap.size + 1,j,none⟩=false:=fun j=>(ER.out.frozen (p:=⟨w.heap.size + 1,j,none⟩) hb1).trans (rf j);have tf0:=tf 0;have tf1:=tf 1;have hbt:=blt t0;clear p0 r0 r1 rf tf;go_wp2;have g0:∀ u v:Value,((wr.setCell ⟨w.heap.size + 1,0,none⟩ u).setCell ⟨w.heap.size + 1,1,none⟩ v).cell? ⟨w.heap.size + 1,0,none⟩=some u:=fun u v=>(co).trans (World.cell?_setCell_same _ _ _ t0);have g1:∀ u v:Value,((wr.setCell ⟨w.heap.size + 1,0,none⟩ u).setCell ⟨w.heap.size + 1,1,none⟩ v).cell? ⟨w.heap.size + 1,1,none⟩=some v:=fun u v=>World.cell?_setCell_same _ _ _ (u := .slice none 0 0) ((co).trans t1);refine bodyPost_ret (v := .agg #[.slice A1 g.length c1,.slice A2 g.length c2]) (by simp [results,Tryz.results106,go_sem,g0,g1];try rfl) rfl ?_;have hx:=Ho.out.ext ER.out;refine ⟨A1,c1,A2,c2,hs,rfl,(((hx.set (p:=⟨w.heap.size + 1,0,none⟩) (HnA1.out _ (by simp)) _).set (p:=⟨w.heap.size + 1,1,none⟩) (HnA1.out _ (by simp)) _).mono (by simp;omega)),((Ho2.out.below (p:=⟨w.heap.size + 1,0,none⟩) (by simp;omega) _).below (p:=⟨w.heap.size + 1,1,none⟩) (by simp;omega) _).mono (by omega),?_,(EC.out.set (by simp) _).set (by simp) _⟩;intro b hb hf;have h1:=(Ho.out.lt hb).2;have h2:=(Ho2.out.lt hf).1;omega
end Go.Proofs.YtgojnefiephafaaGreat
