/- The laws' helpers at lists of strings: readings of arguments, copies, sizes, comparisons; contracts. Conditions: bounds on sizes. -/
import Derived.Handy
import Derived.Test.YthibllkleakiiaaGreatDoorOpenAll
import Derived.Test.YthibllkleakiiaaGreatDoorPlX
namespace Go.Proofs.YthibllkleakiiaaGreatDoor
open Go.RowKit Go.ChangeShapes Go.WideShapes Go.Deep
section
variable {H:Type} {enc:TypeId × Value->H} {w:World} {base:Nat} {spare:Nat->Bool} {held:Bool}
theorem XQ {n:Nat}{cs:List Value}{x:DataW H × List MemPlace}(h:DataW.trod enc Tryz.prog w base spare held n 9 cs=some x):∃ s:ByteArray,cs=[.string s]/\s.size<=maxLen:=by
 obtain⟨z,hz,_,hw⟩:=DataW.trod_string Tryz.underlying9 h;exact⟨z,hz,hw⟩
theorem WC {n:Nat}{cs:List Value}{x:DataW H × List MemPlace}(h:DataW.trod enc Tryz.prog w base spare held n 22 cs=some x):∃ (A:Option Addr) (c:Nat) (l:List ByteArray),cs=[.slice A l.length c]/\Rd w 1 A l.length (Bh l)/\∀ s ∈ l,s.size<=maxLen:=by
 obtain⟨A,len,cap,m,rfl,hm,hi⟩:=Kx Tryz.underlying22 (show Tryz.prog.cellsOf 9=1 by kernel_rfl) (by omega) h
 obtain⟨l,hl,hQ⟩:=Ig len (fun i z=>(∃ b o,A=some ⟨b,o,none⟩/\w.cell? ⟨b,o+i,none⟩=some (.string z))/\z.size<=maxLen) (fun i hil=>by
  obtain⟨b,o,cs',y,ha,_,hat,ht⟩:=hi i hil;obtain⟨z,rfl,hz⟩:=XQ ht;exact⟨z,⟨b,o,ha,by have:=hat 0 _ rfl;simpa using this⟩,hz⟩)
 subst hl;refine⟨A,cap,l,rfl,⟨by simp,hm,fun h0=>?_⟩,fun s hs=>by obtain⟨i,hi⟩:=List.getElem?_of_mem hs;exact(hQ i s hi).2⟩;have hp:0<l.length:=by omega
 obtain⟨⟨b,o,ha,_⟩,-⟩:=hQ 0 _ (gg hp);refine⟨b,o,ha,fun j u hu=>?_⟩;rw[Pj] at hu;cases hj:l[j]? with
 | none=>simp[hj] at hu
 | some z =>
  simp[hj] at hu
  subst hu;obtain⟨⟨b',o',ha',hc⟩,-⟩:=hQ j z hj;rw[ha] at ha';simp only[Option.some.injEq,Addr.mk.injEq,and_true] at ha';obtain⟨rfl,rfl⟩:=ha';exact hc
variable {r:Reach} {b0:Nat} {v:Value} {d:DataW H} {ps:List MemPlace}
set_option maxRecDepth 100000 in
theorem Vm (hw:Value.okWide Tryz.prog w r b0 22 v)(h:DataW.Trod enc Tryz.prog w base spare held 22 v d ps):∃ (A:Option Addr) (c:Nat) (l:List ByteArray),v= .slice A l.length c/\Rd w 1 A l.length (Bh l)/\∀ s ∈ l,s.size<=maxLen:=by
 obtain⟨A0,n0,c0,rfl⟩:=okWide_slice Tryz.underlying22 hw;obtain⟨fuel,hf⟩:=h;obtain⟨A,c,l,hc,hr⟩:=WC hf;simp only[Value.cells,List.cons.injEq,Value.slice.injEq,and_true] at hc;obtain⟨rfl,rfl,rfl⟩:=hc;exact⟨_,_,l,rfl,hr⟩
end
theorem Un (a:List ByteArray)(k:Nat){x:ByteArray}(hx:a[k]? = some x):(Bh (a.take k++List.replicate (a.length - k) ByteArray.empty)).set k (.string x)=Bh (a.take (k+1)++List.replicate (a.length - (k+1)) ByteArray.empty):=by
 obtain⟨hk,rfl⟩:=ge_.1 hx;unfold Bh;rw[<- List.map_set (f:=Value.string)];congr 1
 rw[List.set_append_right _ _ (by simp;omega),C6 a k (gg hk)];have h1:k - (a.take k).length=0:=by simp;omega
 rw[h1,show a.length - k=(a.length - (k+1))+1 from by omega,List.replicate_succ,List.set_cons_zero,List.append_assoc];rfl
set_option maxHeartbeats 1000000 in
theorem QD (A:Option Addr)(c:Nat)(a:List ByteArray)(w:World)(h:Rd w 1 A a.length (Bh a))(hb:a.length<=1048576) :
  Calls Tryz.prog 7 #[.slice A a.length c] w fun e w'=>∃ A',e= .returned (.slice A' a.length a.length)/\Au w' w.heap.size 9 1 A' a.length a.length (Bh a)/\Aa w w':=by
 go_enter Tryz.func7,Tryz.ntmps7;go_wp2_with (at_make;refine ID rfl rfl Lr (B:=w.heap.size) rfl rfl (by omega) (by omega) (by simp) ?_;intro w1 hown hext)
 rw[Fj _ _ rfl] at hown;have hu0:List.replicate a.length (Value.string ByteArray.empty)=Bh (a.take 0++List.replicate (a.length - 0) ByteArray.empty):=by simp[Bh]
 rw[hu0] at hown;clear hu0;go_loopw [4] (fun i wr=>∃ k:Nat,k<=a.length/\i= .int .i64 k/\Aa w wr/\Au wr w.heap.size 9 1 (some ⟨w.heap.size,0,none⟩) a.length a.length (Bh (a.take k++List.replicate (a.length - k) ByteArray.empty))) (fun i _=>a.length - (intOf i).toNat)
 case atStart=>exact⟨0,Nat.zero_le _,rfl,hext,hown⟩
 case round =>
  clear hown hext;obtain⟨k,hk,rfl,he,hown⟩:=hrel;by_cases hlt:k<a.length
  ·obtain⟨b,o,x,rfl,hx,hcx⟩:=(h.ext he).atT hlt;have hbw:=AA hcx;obtain⟨y,hy⟩:∃ y,(Bh (a.take k++List.replicate (a.length - k) ByteArray.empty))[k]? = some y:=⟨_,gg (by simp;omega)⟩;have hcy:=hown.cell hy;have hfy:=hown.free k;have Hf:=lh (Un a k hx);have Ho:=lh hown;have Hx:=lh hx;clear hy hown hx;go_wp2;go_roundw
   case rel=>exact⟨k+1,by omega,by go_num,he.set (by simp) _,by rw[<- Hf.out];exact Ho.out.st k _⟩
   case measure=>simp[intOf];omega
  ·obtain rfl:k=a.length:=by omega
   have hfin:a.take a.length++List.replicate (a.length - a.length) ByteArray.empty=a:=by simp
   rw[hfin] at hown;have Ho:=lh hown;clear hown hfin;go_wp2;go_ret;exact⟨_,rfl,Ho.out,he⟩
set_option maxHeartbeats 1000000 in
theorem QE (A B:Option Addr)(ca cb:Nat)(a:List ByteArray)(w:World)(h:Rd w 1 A a.length (Bh a))(k:Rd w 1 B a.length (Bh a)) :
  Calls Tryz.prog 9 #[.slice A a.length ca,.slice B a.length cb] w fun e w'=>e= .returned (.bool true)/\Aa w w':=by
 have hk:=k.big;go_enter Tryz.func9,Tryz.ntmps9;go_wp2;go_loopw [5] (fun i wr=>∃ n:Nat,n<=a.length/\i= .int .i64 n/\Aa w wr) (fun i _=>a.length - (intOf i).toNat)
 case atStart=>exact⟨0,Nat.zero_le _,rfl,Aa.rfl' w⟩
 case round =>
  obtain⟨n,hn,rfl,hext⟩:=hrel;by_cases hlt:n<a.length
  ·obtain⟨ba,oa,x,rfl,hx,hcx⟩:=(h.ext hext).atT hlt;obtain⟨bb,ob,y,rfl,hy,hcy⟩:=(k.ext hext).atT hlt;rw[hx] at hy;injection hy with hy;subst hy;have hb1:(x.toList != x.toList)=false:=by simp
   clear hx;go_wp2;go_quiet (fail)
   go_wp2;go_roundw
   case rel=>exact⟨n+1,by omega,by go_num,hext.drN _⟩
   case measure=>simp[intOf];omega
  ·obtain rfl:n=a.length:=by omega
   go_wp2;go_ret;exact⟨rfl,hext⟩
theorem QH (A:Option Addr)(c:Nat)(ll:List ByteArray)(L:Nat)(w:World)(h:Rd w 1 A ll.length (Bh ll))(hz:∀ s ∈ ll,s.size<=maxLen)(hL:L<=1048576) :
  Calls Tryz.prog 5 #[.slice A ll.length c,.int .i64 (L:Int)] w fun e w'=>e= .returned (.int .i64 (Sg.Tt (ll.map ByteArray.size) L))/\Aa w w':=by
 have hm:=h.big;have HZ:=lh hz;clear hz;by_cases hl:L<ll.length
 ·have hs:Sg.Tt (ll.map ByteArray.size) L = -1:=by unfold Sg.Tt;rw[if_pos (by simpa using hl)]
  rw[hs];clear hs;go_enter Tryz.func5,Tryz.ntmps5;go_wp2;go_ret;exact⟨rfl,Aa.rfl' w⟩
 ·have hs:Sg.Tt (ll.map ByteArray.size) L=Sg.Ec (ll.map ByteArray.size) (L - ll.length):=by unfold Sg.Tt;rw[if_neg (by simpa using hl)];simp
  rw[hs];clear hs;have hM:L - ll.length<=1048576:=by omega
  have hM2:(L:Int) - (ll.length:Int)=((L - ll.length:Nat):Int):=by omega
  generalize hz:L - ll.length=M at *;go_enter Tryz.func5,Tryz.ntmps5;go_wp2;go_loopw [1,5] (fun u i wr=>∃ k N:Nat,k<=ll.length/\N<=1048576/\i= .int .i64 k/\u= .int .i64 N/\Aa w wr/\Sg.Ec ((ll.map ByteArray.size).drop k) N=Sg.Ec (ll.map ByteArray.size) M) (fun _ i _=>ll.length - (intOf i).toNat)
  case atStart=>exact⟨0,M,Nat.zero_le _,hM,rfl,by first | rfl | (rw[hM2]) | (congr 1;omega),Aa.rfl' _,rfl⟩
  case round =>
   obtain⟨k,N,hk,hN,rfl,rfl,he,hf⟩:=hrel;by_cases hlt:k<ll.length
   ·obtain⟨b,o,x,rfl,hx,hcx⟩:=(h.ext he).atT hlt;have hx':(ll.map ByteArray.size)[k]? = some x.size:=by simp[hx]
    rw[DO _ k hx'] at hf;have hxs:=HZ.out x (List.mem_of_getElem? hx);unfold maxLen at hxs;clear hx hx';by_cases hlN:N<x.size
    ·have hf':Sg.Ec (ll.map ByteArray.size) M = -1:=by rw[<- hf];unfold Sg.Ec;rw[if_pos hlN]
     have Hf:=lh hf';clear hf hf' hz hM2;go_wp2;go_ret;exact⟨Fk Hf.out.symm,he⟩
    ·obtain⟨N2,hN2⟩:∃ N2,N2=N - x.size:=⟨_,rfl⟩
     have hf':Sg.Ec ((ll.map ByteArray.size).drop (k+1)) N2=Sg.Ec (ll.map ByteArray.size) M:=by
      rw[<- hf,hN2];simp only[Sg.Ec];rw[if_neg hlN]
     have Hf:=lh hf';have hN':N2<=1048576:=by omega
     have HN2:=lh hN2;clear hN2 hf hf' hz hM2;go_wp2;go_roundw
     case rel=>exact⟨k+1,N2,by omega,hN',by go_num,by (have:=HN2.out;congr 1;omega),he,Hf.out⟩
     case measure=>simp[intOf];omega
   ·obtain rfl:k=ll.length:=by omega
    have hf':(N:Int)=Sg.Ec (ll.map ByteArray.size) M:=by rw[<- hf,List.drop_eq_nil_of_le (by simp)];rfl
    have Hf:=lh hf';clear hf hf' hz hM2;go_wp2;go_ret;exact⟨Fk Hf.out,he⟩
theorem Ok (ss:List ByteArray):(ss.map tx).map ts=ss:=by
 rw[List.map_map];have:ss.map (ts ∘ tx)=ss.map id:=List.map_congr_left fun x _=>Ti x;rw[this,List.map_id]
theorem QI (ls:List Sg.AO):(ls.map ts).map ByteArray.size=ls.map List.length:=by
 rw[List.map_map];exact List.map_congr_left fun x _=>BB x
theorem QJ (A:Option Addr)(c:Nat)(ls:List Sg.AO)(w:World)(h:Rd w 1 A ls.length (Bh (ls.map ts)))(hb:ls.length<=1048576) :
  Calls Tryz.prog 7 #[.slice A ls.length c] w fun e w'=>∃ A',e= .returned (.slice A' ls.length ls.length)/\Rd w' 1 A' ls.length (Bh (ls.map ts))/\Aa w w':=by
 have hl:(ls.map ts).length=ls.length:=List.length_map _;have:=QD A c (ls.map ts) w (by rw[hl];exact h) (by rw[hl];exact hb);rw[hl] at this;exact this.mono fun e w' ⟨A',h1,h2,h3⟩=>⟨A',h1,h2.rd,h3⟩
theorem QK (A B:Option Addr)(ca cb:Nat)(ls:List Sg.AO)(w:World)(h:Rd w 1 A ls.length (Bh (ls.map ts)))(k:Rd w 1 B ls.length (Bh (ls.map ts))) :
  Calls Tryz.prog 9 #[.slice A ls.length ca,.slice B ls.length cb] w fun e w'=>e= .returned (.bool true)/\Aa w w':=by
 have hl:(ls.map ts).length=ls.length:=List.length_map _;have:=QE A B ca cb (ls.map ts) w (by rw[hl];exact h) (by rw[hl];exact k);rw[hl] at this;exact this
theorem QL (A:Option Addr)(c:Nat)(ls:List Sg.AO)(L:Nat)(w:World)(h:Rd w 1 A ls.length (Bh (ls.map ts)))(hz:∀ s ∈ ls.map ts,s.size<=maxLen)(hL:L<=1048576) :
  Calls Tryz.prog 5 #[.slice A ls.length c,.int .i64 (L:Int)] w fun e w'=>e= .returned (.int .i64 (Sg.Tt (ls.map List.length) L))/\Aa w w':=by
 have hl:(ls.map ts).length=ls.length:=List.length_map _;have:=QH A c (ls.map ts) L w (by rw[hl];exact h) hz hL;rw[hl,QI] at this;exact this
end Go.Proofs.YthibllkleakiiaaGreatDoor
