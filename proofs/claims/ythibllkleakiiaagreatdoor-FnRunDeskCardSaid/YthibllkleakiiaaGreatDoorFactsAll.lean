/- Parts of one proof, joined. Parts of one proof, joined. StartEager of the program and of the reference: contracts, and more. Conditions: in the theorems. -/
import Derived.Deep.DeepCutAuto
import Derived.Lib.SliceRun
import Derived.Deep.QuietTactic
import Derived.BigQuiet
import Derived.Test.YthibllkleakiiaaGreatDoorImplQ
namespace Go.Proofs.YthibllkleakiiaaGreatDoor
open Go.RowKit
def DK (g:Sg.Ae)(l:List Int):Sg.BZ:=if (Sg.AG g && Sg.AT g l)=true then Sg.BQ g l else ⟨[],[]⟩
structure JN (w:World) (B:Nat) (A1:Option Addr) (c1:Nat) (A2:Option Addr) (c2:Nat) (hs:List (Option Addr × Nat)) (st:Sg.BZ):Prop where
 v:Au w B 3 1 A1 st.vals.length c1 (Ah st.vals)
 r:CG w B A2 c2 st.reads hs
 d:∀ b,AE A1=some b->¬ Gi A2 hs b
theorem JN.nil (w:World)(B:Nat):JN w B none 0 none 0 [] ⟨[],[]⟩:=⟨Au.nil _ _ _ _,Bj.nil _ _ _ _ _ _,by intro b h;simp[AE] at h⟩
end Go.Proofs.YthibllkleakiiaaGreatDoor
namespace Sg
theorem MC:∀ (ns:List Nat)(L:Nat),0<=Ec ns L->ns.sum<=L
 | [],L,_=>by simp
 | n :: r,L,h=>by
  unfold Ec at h;split at h
  ·omega
  ·have:=MC r _ h;simp only[List.sum_cons];omega
theorem V9 (ns:List Nat)(L:Nat)(h:0<=Tt ns L):ns.length+ns.sum<=L:=by
 unfold Tt at h;split at h
 ·omega
 ·have:=MC ns _ h;omega
theorem UX {f:List At}{k:Nat}(h:TA f k)(v:List Int):(AJ f v).2.length<=4096:=by
 have h1:=FY f v f.length ((f.length:Int) - 1);have h2:2 ^ f.length<=2 ^ 12:=Nat.pow_le_pow_right (by omega) h.len
 have h3:(AJ f v).2.length<=(Cq f v f.length ((f.length:Int) - 1)).2.length:=by
  unfold AJ
  have:∀ (l out:List Int),(l.foldl C5 out).length<=out.length+l.length:=by
   intro l;induction l with
   | nil=>intro out;simp
   | cons x l ih =>
    intro out;have h4:=ih (C5 out x);have h5:(C5 out x).length<=out.length+1:=by unfold C5;split <;> simp
    simp only[List.foldl_cons,List.length_cons];omega
  have:=this (Cq f v f.length ((f.length:Int) - 1)).2 [];simpa[AU] using this
 omega
theorem KO {g:Ae}(hg:AG g=true)(v:List Int){k:Nat}(hk:k<g.length):(Cf g v k).length<=4096:=by
 unfold Cf;obtain⟨n,hn⟩:∃ n,g[k]? = some n:=⟨_,List.getElem?_eq_getElem hk⟩;have hd:g.getD k default=n:=by simp[hn]
 rw[hd];split
 ·simp
 ·rename_i h0
  exact UX (Bo hg k hn h0) v
end Sg
namespace Go.Proofs.YthibllkleakiiaaGreatDoor
open Go.RowKit
theorem YW (g:Sg.Ae)(L:Nat)(h:0<=Sg.Tt (g.map (fun n=>n.f.length)) L):IZ g<=5 * L:=by
 have h1:=Sg.V9 _ _ h
 have h2:IZ g<=g.length+5 * (g.map (fun n=>n.f.length)).sum:=by
  clear h h1;induction g with
  | nil=>simp[IZ]
  | cons n g ih=>simp[IZ] at ih ⊢;omega
 simp only[List.length_map] at h1;omega
structure VB (st:Sg.BZ):Prop where
 v:st.vals.length<=1048576
 r:st.reads.length<=1048576
 e:∀ l ∈ st.reads,l.length<=1048576
 t:Io st.reads<=100000000000
theorem SD (ll:List (List Int))(c:Nat)(h:∀ l ∈ ll,l.length<=c):Io ll<=ll.length * c:=by
 induction ll with
 | nil=>simp[Io]
 | cons l r ih =>
  have h1:=h l (by simp);have h2:=ih (fun x hx=>h x (by simp[hx]));simp only[Io,List.map_cons,List.sum_cons,List.length_cons] at h2 ⊢;rw[Nat.add_mul,Nat.one_mul];omega
theorem Ka {g:Sg.Ae}(h:Sg.AG g=true):g.length<=10:=by
 unfold Sg.AG at h;simp only[Bool.and_eq_true,decide_eq_true_eq] at h;exact h.2
theorem SE {g:Sg.Ae}(hg:Sg.AG g=true)(v:List Int)(k:Nat)(hk:k<=g.length):(∀ l ∈ Sg.Cv g v k,l.length<=4096):=by
 intro l hl;unfold Sg.Cv at hl;rw[List.mem_map] at hl;obtain⟨i,hi,rfl⟩:=hl;rw[List.mem_range] at hi;exact Sg.KO hg v (by omega)
theorem WK (g:Sg.Ae)(l:List Int):VB (DK g l):=by
 unfold DK;split
 ·rename_i h
  simp only[Bool.and_eq_true] at h;have h10:=Ka h.1;have hd:=SE h.1 (Sg.BF g l) g.length (Nat.le_refl _);have ht:=SD _ 4096 hd;refine⟨by simp[Sg.BQ];omega,by simp[Sg.BQ];omega,fun x hx=>Nat.le_trans (hd x hx) (by omega),?_⟩;simp only[Sg.length_depsTo] at ht;simp only[Sg.BQ];omega
 ·exact⟨by simp,by simp,by simp,by simp[Io]⟩
theorem Sc.up2 {w:World}{A:Option Addr}{g:Sg.Ae}(h:Sc w A g)(hb:g.length<=1048576)(hl:∀ n ∈ g,n.f.length<=1048576):Eg w A g :=
 ⟨hb,fun i n hn=>let ⟨b,o,Ap,cp,ha,h1,h2,h3⟩:=h.2 i n hn;⟨b,o,Ap,cp,ha,h1,h2,h3,hl n (List.mem_of_getElem? hn)⟩⟩
theorem XZ (k:Int)(ll:List (List Int))(h:∀ l ∈ ll,l.length<=1048576):∀ l ∈ Ja k ll,l.length<=1048576:=by
 induction ll generalizing k with
 | nil=>intro l hl;cases hl
 | cons x r ih =>
  intro l hl;simp only[Ja,List.mem_cons] at hl;rcases hl with rfl | hl
  ·simpa using h x (by simp)
  ·exact ih _ (fun y hy=>h y (by simp[hy])) l hl
theorem JN.lt {w:World}{B c1 c2:Nat}{A1 A2:Option Addr}{hs:List (Option Addr × Nat)}{st:Sg.BZ}(k:JN w B A1 c1 A2 c2 hs st){b:Nat}(h:AE A1=some b\/Gi A2 hs b):B<=b/\b<w.heap.size:=by
 rcases h with h | h
 ·exact k.v.lt h
 ·exact k.r.lt h
theorem JN.ext {w w':World}{B c1 c2:Nat}{A1 A2:Option Addr}{hs:List (Option Addr × Nat)}{st:Sg.BZ}(k:JN w B A1 c1 A2 c2 hs st)(e:Aa w w'):JN w' B A1 c1 A2 c2 hs st:=⟨k.v.ext e,Bj.ext k.r e,k.d⟩
theorem JN.mod {F:Nat->Prop}{w w':World}{B c1 c2:Nat}{A1 A2:Option Addr}{hs:List (Option Addr × Nat)}{st:Sg.BZ}(k:JN w B A1 c1 A2 c2 hs st)(m:AF F w w')(hF:∀ b,(AE A1=some b\/Gi A2 hs b)->¬ F b):JN w' B A1 c1 A2 c2 hs st :=
 ⟨k.v.mod m fun b hb=>hF b (.inl hb),Bj.mod k.r m fun b hb=>hF b (.inr hb),k.d⟩
theorem JN.rv {w:World}{B c1 c2:Nat}{A1 A2:Option Addr}{hs:List (Option Addr × Nat)}{st:Sg.BZ}(k:JN w B A1 c1 A2 c2 hs st):Rd w 1 A1 st.vals.length (Ah st.vals):=k.v.rd
theorem JN.rr {w:World}{B c1 c2:Nat}{A1 A2:Option Addr}{hs:List (Option Addr × Nat)}{st:Sg.BZ}(k:JN w B A1 c1 A2 c2 hs st)(s:VB st):Lq w A2 st.reads:=CG.rdL k.r s.r s.e
open Go.RowKit
set_option maxHeartbeats 1000000 in
theorem Qr (A:Option Addr)(c:Nat)(ll:List (List Int))(w:World)(h:Lq w A ll) :
  Calls Tryz.prog 138 #[.slice A ll.length c] w fun e w'=>∃ A' hs,e= .returned (.slice A' ll.length ll.length)/\CG w' w.heap.size A' ll.length ll hs/\Aa w w':=by
 have hb:=h.1;go_enter Tryz.func138,Tryz.ntmps138;go_wp2_with (at_make;refine ID rfl rfl Da (B:=w.heap.size) rfl rfl (by omega) (by omega) (by simp) ?_;intro w1 hown hext)
 rw[Fj _ _ rfl] at hown;go_loopw [11] (fun i wr=>∃ (k:Nat) (hs:List (Option Addr × Nat)),k<=ll.length/\i= .int .i64 k/\hs.length=k/\Aa w wr/\Ey wr w.heap.size 3 1 w.heap.size (AK ll) hs/\Au wr w.heap.size 36 1 (some ⟨w.heap.size,0,none⟩) ll.length ll.length (A_ (AK ll) hs++List.replicate (ll.length - k) (.slice none 0 0))) (fun i _=>ll.length - (intOf i).toNat)
 case atStart=>exact⟨0,[],Nat.zero_le _,rfl,rfl,hext,Ey.nil _ _ _ _ _ _,by rw[G_];exact hown⟩
 case round =>
  clear hown hext;obtain⟨k,hs,hk,rfl,hlen,he,hinn,hown⟩:=hrel;have hwr:w.heap.size<wr.heap.size:=(hown.lt (g:=w.heap.size) rfl).2;have hdl:(A_ (AK ll) hs).length=k:=by rw[JS (ET ll) (by simp;omega),hlen,Nat.mul_one]
  by_cases hlt:k<ll.length
  ·obtain⟨l,b,o,Al,cl,hl,rfl,hc,hr,hll⟩:=(h.ext he).at_ hlt;have hbw:=AA hc;have HC:=lh (fun w h=>Kv Al l.length cl l w h (by omega));obtain⟨y,hy⟩:∃ y,(A_ (AK ll) hs++List.replicate (ll.length - k) (.slice none 0 0))[k]? = some y:=⟨_,gg (by simp[hdl];omega)⟩;have Hy:=lh hy;have Ho:=lh hown;have Hl:=lh hl;have Hinn:=lh hinn;have Hlen:=lh hlen;have Hdl:=lh hdl;clear hy hown hl hinn hlen hdl;go_wp2_with (go_at_call 50;refine(HC.out _ hr).mono ?_;rintro e w2 ⟨A2,rfl,ho2,he2⟩;have hor:=Ho.out.ext he2;have q0:=hor.cell Hy.out;have q1:=hor.free k)
   go_roundw
   case rel =>
    have hat:(AK ll)[hs.length]? = some ⟨[],l.length,Ah l⟩:=by rw[Hlen.out];exact DJ Hl.out
    refine⟨k+1,hs++[(A2,l.length)],by omega,by go_num,by simp[Hlen.out],(he.tr he2).set (by simp) _,(Hinn.out.snoc he2 (by omega) hwr hat ho2).st _ _,?_⟩;rw[Jq _ hat,show Nv ⟨[],l.length,Ah l⟩ (A2,l.length)=[.slice A2 l.length l.length] from rfl,<- WY _ k ll.length Hdl.out hlt];exact hor.st k _
   case measure=>simp[intOf];omega
  ·obtain rfl:k=ll.length:=by omega
   rw[Nat.sub_self,List.replicate_zero,List.append_nil] at hown;have Hfin:=lh (hinn.own (eo:=36) (so:=1) (c:=ll.length) (by simp[hlen]) (by simpa using hown));clear hown hinn hlen hdl;go_wp2;go_ret;exact⟨_,hs,rfl,Hfin.out,he⟩
set_option maxHeartbeats 1000000 in
theorem Qs (A:Option Addr)(c:Nat)(ll:List (List Int))(w:World)(h:Lq w A ll) :
  Calls Tryz.prog 113 #[.slice A ll.length c] w fun e w'=>∃ A' c' hs,e= .returned (.slice A' ll.length c')/\CG w' w.heap.size A' c' ll hs/\Aa w w':=by
 have hb:=h.1;have H:=lh h;have O0:=lh (show CG (World.alloc w (.cells #[] 36)) w.heap.size (some ⟨w.heap.size,0,none⟩) 0 (ll.take 0) [] from ⟨by simp,by have:=Au.new w 36 1 #[] 0 (Nat.le_refl _) (by unfold maxLen;omega) rfl;simpa[A_,AK] using this,by simp[AK],by simp,by simp⟩);have E0:=lh ((Aa.rfl' w).al (.cells #[] 36));clear h;go_enter Tryz.func113,Tryz.ntmps113;go_wp2_with fail
 go_loopw [3,4] (fun s i wr=>∃ (k:Nat) (A':Option Addr) (c':Nat) (hs:List (Option Addr × Nat)),k<=ll.length/\s= .slice A' k c'/\i= .int .i64 k/\Hid (CG wr w.heap.size A' c' (ll.take k) hs)/\Hid (Aa w wr)) (fun _ i _=>ll.length - (intOf i).toNat)
 case atStart=>exact⟨0,_,_,[],Nat.zero_le _,rfl,rfl,O0,E0⟩
 case round =>
  clear O0 E0;obtain⟨k,A',c',hs,hk,rfl,rfl,hO,hE⟩:=hrel;by_cases hlt:k<ll.length
  ·obtain⟨l,b,o,Al,cl,hl,rfl,hc,hr,hll⟩:=(H.out.ext hE.out).at_ hlt;have hbw:=AA hc;have HC:=lh (fun w h=>DZ Al l.length cl l w h (by omega));have Hl:=lh hl;have Hr:=lh hr;have hws:=hE.out.size;clear hl hr;go_wp2_with fail
   refine(HC.out _ Hr.out).mono ?_;rintro e w2 ⟨A2,c2,rfl,ho2,he2⟩;have Ho2:=lh ho2;have He2:=lh he2;have hw2:=he2.size;have hout:=lh (show Au w2 w.heap.size 36 1 A' k c' (A_ (AK (ll.take k)) hs) from by have:=hO.out.out.ext he2;simpa[Nat.min_eq_left hk] using this);clear ho2 he2 hbw hc;go_wp2_with (at_builtin;refine AB rfl rfl Da rfl hout.out rfl rfl (GI _ _ _) (by omega) (by omega) (by omega) ?_;intro A9 c9 w9 ho9 hg9 hat9;have Ho9:=lh ho9;have Hg9:=lh hg9;have Ha9:=lh hat9;clear ho9 hg9 hat9)
   go_roundw
   case rel =>
    have hits:AK (ll.take (k+1))=AK (ll.take k)++[⟨[],l.length,Ah l⟩]:=by
     have:=List.take_succ_eq_append_getElem hlt;obtain⟨h1,h2⟩:=ge_.1 Hl.out;rw[this,h2];simp[AK]
    refine⟨k+1,A9,c9,hs++[(A2,c2)],by omega,by simp,by go_num,lh ?_,lh ((hE.out.tr He2.out).gr Hg9.out (fun b hb=>by have:=(hout.out.lt hb).1;omega))⟩;unfold CG;rw[hits];exact hO.out.snoc He2.out hws (it:=⟨[],l.length,Ah l⟩) Ho2.out (by have:=Ho9.out;simpa[Nat.min_eq_left hk,Nv] using this) Hg9.out Ha9.out
   case measure=>simp[intOf];omega
  ·obtain rfl:k=ll.length:=by omega
   have hfin:=hO.out;rw[List.take_length] at hfin;have Hfin:=lh hfin;clear hfin;go_wp2;go_ret;exact⟨A',c',hs,rfl,Hfin.out,hE.out⟩
end Go.Proofs.YthibllkleakiiaaGreatDoor
namespace Sg
theorem KR {g:Ae}{k:Nat}{n:BV}(h:g[k]? = some n):BA g (k:Int)=decide (n.kind=0):=by
 have hk:=(List.getElem?_eq_some_iff.1 h).1;unfold BA Cb CU;rw[Int.toNat_natCast];simp only[List.getD_eq_getElem?_getD,h,Option.getD_some];have h1:decide ((0:Int)<=(k:Int))=true:=by simp
 have h2:decide ((k:Int)<=(g.length:Int) - 1)=true:=by simp;omega
 rw[h1,h2];rfl
theorem NS {g:Ae}{k:Int}(h:k<0\/(g.length:Int)<=k):BA g k=false:=by
 unfold BA;have:Cb k 0 ((g.length:Int) - 1)=false:=by simp[Cb];omega
 rw[this];rfl
theorem PK (n:Nat):∀ (l:List Int),l.Nodup->(∀ x ∈ l,0<=x/\x<(n:Int))->l.length<=n:=by
 induction n with
 | zero =>
  intro l _ h;cases l with
  | nil=>simp
  | cons x l=>have:=h x (by simp);omega
 | succ n ih =>
  intro l hn h;by_cases hm:(n:Int) ∈ l
  ·have h1:=ih (l.erase (n:Int)) (hn.erase _) (fun x hx=>by
    have hx2:=h x (List.mem_of_mem_erase hx)
    have hne:x≠(n:Int):=fun e=>by
     subst e;exact(List.Nodup.mem_erase_iff hn).1 hx |>.1 rfl
    omega)
   rw[List.length_erase_of_mem hm] at h1;omega
  ·have:=ih l hn (fun x hx=>by
    have hx2:=h x hx;have hne:x≠(n:Int):=fun e=>hm (e ▸ hx);omega)
   omega
theorem I7 {g:Ae}{nodes:List Int}(h:B_ g nodes=true):nodes.length<=g.length:=by
 refine PK _ _ (Kj h) fun x hx=>?_;obtain⟨i,hi⟩:=List.getElem?_of_mem hx;obtain⟨k,n,rfl,hn,_⟩:=Fx (CH h hi).1;have:=(List.getElem?_eq_some_iff.1 hn).1;omega
end Sg
namespace Go.Proofs.YthibllkleakiiaaGreatDoor
open Go.RowKit
theorem OP (A:Option Addr)(c:Nat)(g:Sg.Ae)(k:Int)(w:World)(h:Eg w A g):Calls Tryz.prog 52 #[.agg #[.slice A g.length c],.int .i64 k] w fun e w'=>e= .returned (.bool (Sg.BA g k))/\Aa w w':=by
 by_cases hk:k<0\/(g.length:Int)<=k
 ·rw[Sg.NS hk];exact Ud A c g k w h hk
 ·obtain⟨j,rfl⟩:=Int.eq_ofNat_of_zero_le (show 0<=k by omega);obtain⟨n,hn⟩:∃ n,g[j]? = some n:=⟨_,gg (by omega)⟩;rw[Sg.KR hn];exact Jt A c g j n w h hn
theorem zl0{p:Prop}(h:p:=by
 have Hz:=lh hz;clear hz;go_enter Tryz.func36,Tryz.ntmps36;go_wp2_with (go_at_call 39;refine(HI.out _).mono ?_;rintro e w1 ⟨rfl,rfl⟩;rw[Hin.out])
 go_ret;exact⟨Aj (by rw[HS.out];simp[Hz.out]),HE.out⟩):p:=h
set_option maxHeartbeats 1000000 in
theorem Vd (A:Option Addr)(c:Nat)(g:Sg.Ae)(k:Int)(w:World)(h:Eg w A g):Calls Tryz.prog 36 #[.agg #[.slice A g.length c],.int .i64 k] w fun e w'=>e= .returned (.bool (Sg.BA g k))/\Aa w w':=by
 have hgl:=h.1;have e0:=(Aa.rfl' w).al (.cells #[.slice A g.length c] 35);have HE:=lh e0;have q0:(w.alloc (.cells #[.slice A g.length c] 35)).cell? ⟨w.heap.size,0,none⟩=some (.slice A g.length c):=by simp[go_sem]
 by_cases hk:k<0\/(g.length:Int)<=k
 ·have Hin:=lh (show Sg.Cb k 0 ((g.length:Int) - 1)=false by simp[Sg.Cb];omega);have HS:=lh (Sg.NS (g:=g) hk);have HI:=lh (fun w=>Cx k 0 ((g.length:Int) - 1) w);have hw:IntKind.i64.wrap ((g.length:Int) - 1)=(g.length:Int) - 1:=IntWalk.i64_in _ (by omega);clear hk h e0;go_enter Tryz.func36,Tryz.ntmps36;go_wp2_with (go_at_call 39;refine(HI.out _).mono ?_;rintro e w1 ⟨rfl,rfl⟩;rw[Hin.out])
  go_ret;exact⟨Aj HS.out.symm,HE.out⟩
 ·obtain⟨j,rfl⟩:=Int.eq_ofNat_of_zero_le (show 0<=k by omega);have hj:j<g.length:=by omega
  obtain⟨n,b,o,Ap,cp,hn,rfl,hkc,hs,hf,hfl⟩:=(h.ext e0).at_ hj;have Hin:=lh (show Sg.Cb (j:Int) 0 ((g.length:Int) - 1)=true by simp[Sg.Cb];omega);have HS:=lh (Sg.KR hn);have HI:=lh (fun w=>Cx (j:Int) 0 ((g.length:Int) - 1) w);have hw:IntKind.i64.wrap ((g.length:Int) - 1)=(g.length:Int) - 1:=IntWalk.i64_in _ (by omega);have bk:=AA hkc;clear hk h e0 hn hs hf hfl;by_cases hz:n.kind=0
  ·have z:(n.kind == 0)=true:=by simp[hz]
   exact zl0
  ·have z:(n.kind == 0)=false:=by simp[hz]
   exact zl0
theorem Rd.front {w:World}{A:Option Addr}{n:Nat}{l:List Int}(h:Rd w 1 A n (Ah l))(i:Nat)(hi:i<=n):Rd w 1 A i (Ah (l.take i)):=by
 have hl:=h.len;refine⟨by simp;omega,by have:=h.2.1;omega,fun h0=>?_⟩;obtain⟨b0,o0,ha,hc⟩:=h.2.2 (by omega);refine⟨b0,o0,ha,fun j u hu=>hc j u ?_⟩;rw[CB] at hu ⊢;rw[List.getElem?_take] at hu;split at hu
 ·exact hu
 ·simp at hu
end Go.Proofs.YthibllkleakiiaaGreatDoor
namespace Sg
end Sg
namespace Go.Proofs.YthibllkleakiiaaGreatDoor
open Go.RowKit
structure Dr (w:World) (B:Nat) (A1:Option Addr) (c1:Nat) (A2:Option Addr) (c2:Nat) (A3:Option Addr) (c3:Nat) (hs:List (Option Addr × Nat)) (st:Sg.BC):Prop where
 v:Au w B 3 1 A1 st.vals.length c1 (Ah st.vals)
 r:CG w B A2 c2 st.reads hs
 q:Au w B 3 1 A3 st.cols.length c3 (Ah st.cols)
 d:∀ b,AE A1=some b->¬ Gi A2 hs b/\AE A3≠some b
 e:∀ b,AE A3=some b->¬ Gi A2 hs b
def Oc (A1 A2 A3:Option Addr)(hs:List (Option Addr × Nat))(b:Nat):Prop:=AE A1=some b\/Gi A2 hs b\/AE A3=some b
section
variable {w w':World} {B c1 c2 c3:Nat} {A1 A2 A3:Option Addr} {hs:List (Option Addr × Nat)} {st:Sg.BC}
theorem Dr.ext (k:Dr w B A1 c1 A2 c2 A3 c3 hs st)(e:Aa w w'):Dr w' B A1 c1 A2 c2 A3 c3 hs st:=⟨k.v.ext e,Bj.ext k.r e,k.q.ext e,k.d,k.e⟩
theorem Dr.mono {B':Nat}(k:Dr w B A1 c1 A2 c2 A3 c3 hs st)(h:B'<=B):Dr w B' A1 c1 A2 c2 A3 c3 hs st:=⟨k.v.mono h,Bj.mono k.r h,k.q.mono h,k.d,k.e⟩
theorem Dr.mod {F:Nat->Prop}(k:Dr w B A1 c1 A2 c2 A3 c3 hs st)(m:AF F w w')(hF:∀ b,Oc A1 A2 A3 hs b->¬ F b):Dr w' B A1 c1 A2 c2 A3 c3 hs st :=
 ⟨k.v.mod m fun b hb=>hF b (.inl hb),Bj.mod k.r m fun b hb=>hF b (.inr (.inl hb)),k.q.mod m fun b hb=>hF b (.inr (.inr hb)),k.d,k.e⟩
theorem Dr.lt (k:Dr w B A1 c1 A2 c2 A3 c3 hs st){b:Nat}(h:Oc A1 A2 A3 hs b):B<=b/\b<w.heap.size:=by
 rcases h with h | h | h
 ·exact k.v.lt h
 ·exact Bj.lt k.r h
 ·exact k.q.lt h
end
theorem CG.rdLC {w:World}{B c:Nat}{A:Option Addr}{ll:List (List Int)}{hs:List (Option Addr × Nat)}(k:CG w B A c ll hs)(hb:ll.length<=1048576)(hl:∀ l ∈ ll,l.length<=1048576):Ex w A ll:=by
 refine⟨hb,fun i l hi=>?_⟩;obtain⟨h,hh,ho⟩:=Bj.at_ k (DJ hi);have hil:=(ge_.1 hi).1;have hout:=k.out;obtain⟨g,rfl,_⟩:=hout.at_ (by simp;omega)
 have hc:=hout.cell (j:=i) (u := .slice h.1 l.length h.2) (by
  have:=GH (ET ll) i 0 (by omega) (DJ hi) hh;rw[Nat.mul_one,Nat.add_zero] at this;rw[this];rfl)
 exact⟨g,0,h.1,h.2,rfl,by simpa using hc,ho.rd,hl l (List.mem_of_getElem? hi),ho.2.1,ho.2.2.1⟩
open Go.RowKit
set_option maxRecDepth 100000 in
set_option maxHeartbeats 4000000 in
theorem WM (Av Ar Aq:Option Addr)(kv kr kq:Nat)(v q:List Int)(r:List (List Int))(w:World)(hv:Rd w 1 Av v.length (Ah v))(hr:Lq w Ar r)(hq:Rd w 1 Aq q.length (Ah q))(hvl:v.length<=1048576)(hql:q.length<=1048576) :
  Calls Tryz.prog 100 #[.agg #[.slice Av v.length kv,.slice Ar r.length kr,.slice Aq q.length kq]] w fun e w'=>∃ A1 c1 A2 c2 A3 c3 hs,e= .returned (.agg #[.slice A1 v.length c1,.slice A2 r.length c2,.slice A3 q.length c3])/\Dr w' w.heap.size A1 c1 A2 c2 A3 c3 hs ⟨v,r,q⟩/\Aa w w':=by
 have E0:=lh (show Aa w (World.alloc (World.alloc w (.cells #[.slice Av v.length kv,.slice Ar r.length kr,.slice Aq q.length kq] 44)) (.cells #[.slice none 0 0,.slice none 0 0,.slice none 0 0] 44)) from ((Aa.rfl' w).al _).al _);have b0:=Bx.new (World.alloc w (.cells #[.slice Av v.length kv,.slice Ar r.length kr,.slice Aq q.length kq] 44)) #[.slice none 0 0,.slice none 0 0,.slice none 0 0] 44;simp only[World.size_alloc] at b0;have B0:=lh b0;clear b0;have q0:World.cell? (World.alloc (World.alloc w (.cells #[.slice Av v.length kv,.slice Ar r.length kr,.slice Aq q.length kq] 44)) (.cells #[.slice none 0 0,.slice none 0 0,.slice none 0 0] 44)) ⟨w.heap.size,0,none⟩=some (.slice Av v.length kv):=by simp[go_sem]
 have q1:World.cell? (World.alloc (World.alloc w (.cells #[.slice Av v.length kv,.slice Ar r.length kr,.slice Aq q.length kq] 44)) (.cells #[.slice none 0 0,.slice none 0 0,.slice none 0 0] 44)) ⟨w.heap.size,1,none⟩=some (.slice Ar r.length kr):=by simp[go_sem]
 have q2:World.cell? (World.alloc (World.alloc w (.cells #[.slice Av v.length kv,.slice Ar r.length kr,.slice Aq q.length kq] 44)) (.cells #[.slice none 0 0,.slice none 0 0,.slice none 0 0] 44)) ⟨w.heap.size,2,none⟩=some (.slice Aq q.length kq):=by simp[go_sem]
 have Hv:=lh hv;have Hr:=lh hr;have Hq:=lh hq;clear hv hr hq;go_enter Tryz.func100,Tryz.ntmps100;go_wp2_with fail
 refine wp_region_held_drew (S:=(fun W=>W.cell? ⟨w.heap.size,0,none⟩=some (.slice Av v.length kv)/\W.cell? ⟨w.heap.size,1,none⟩=some (.slice Ar r.length kr)/\W.cell? ⟨w.heap.size,2,none⟩=some (.slice Aq q.length kq))) (by kernel_rfl) ?_ (fun hHeld=>?_)
 ·exact⟨xd.cellE q0,xd.cellE q1,xd.cellE q2⟩
 refine ty 0 ?_;refine ty 1 ?_;refine ty 3 ?_;refine ty 4 ?_;refine ty 6 ?_;refine ty 7 ?_;refine DL 2 rfl fun K hK=>?_;go_simp;refine(Kv Av v.length kv v _ (Hv.out.ext (E0.out.dr)) (by omega)).mono ?_;rintro e w3 ⟨A1,rfl,ho3,he3⟩;have E3:=lh ((E0.out.dr).tr he3);have O3:=lh (ho3.mono (B':=w.heap.size+2) (by simp));have hz3:w.heap.size+2<=w3.heap.size:=by have:=he3.size;simpa using this
 have B3:=lh ((B0.out.ext xd).ext he3);have q03:=he3.cellE (xd.cellE q0);have q13:=he3.cellE (xd.cellE q1);have q23:=he3.cellE (xd.cellE q2);clear ho3 he3 q0 q1 q2 B0;try go_wp2_with fail
 clear hHeld;refine hK.out _ _ (by exact⟨q03,q13,q23⟩) fun hHeld=>?_;clear hK K;try simp only[Act.put,pu]
 refine DL 5 rfl fun K hK=>?_;go_simp;refine(Qr Ar kr r _ (Hr.out.ext E3.out)).mono ?_;rintro e w4 ⟨A2,hs,rfl,ho4,he4⟩;have E4:=lh (E3.out.tr he4);have O4:=lh (O3.out.ext he4);have R4:=lh (Bj.mono ho4 (B':=w.heap.size+2) hz3);have D4:=lh (show ∀ b,AE A1=some b->¬ Gi A2 hs b from fun b hb hb'=>by have h1:=(O3.out.lt hb).2;have h2:=(ho4.lt hb').1;omega);have B4:=lh (B3.out.ext he4);have hz4:=he4.size;have q04:=he4.cellE q03;have q14:=he4.cellE q13;have q24:=he4.cellE q23;clear ho4 he4 q03 q13 q23 B3;try go_wp2_with fail
 clear hHeld;refine hK.out _ _ (by exact⟨q04,q14,q24⟩) fun hHeld=>?_;clear hK K;try simp only[Act.put,pu]
 refine DL 8 rfl fun K hK=>?_;go_simp;refine(Kv Aq q.length kq q _ (Hq.out.ext E4.out) (by omega)).mono ?_;rintro e w5 ⟨A3,rfl,ho5,he5⟩;have E5:=lh (E4.out.tr he5);have O5:=lh (O4.out.ext he5);have R5:=lh (Bj.ext R4.out he5);have Q5:=lh (ho5.mono (B':=w.heap.size+2) (by omega));have D5:=lh (show (∀ b,AE A1=some b->¬ Gi A2 hs b/\AE A3≠some b)/\∀ b,AE A3=some b->¬ Gi A2 hs b from ⟨fun b hb=>⟨D4.out b hb,fun e=>by have h1:=(O4.out.lt hb).2;have h2:=(ho5.lt e).1;omega⟩,fun b hb hf=>by have h1:=(Bj.lt R4.out hf).2;have h2:=(ho5.lt hb).1;omega⟩);have B5:=lh (B4.out.ext he5);have q05:=he5.cellE q04;have q15:=he5.cellE q14;have q25:=he5.cellE q24;have f0:=B5.out.free 0;have f1:=B5.out.free 1;have f2:=B5.out.free 2;have bl:=B5.out.lt;have x0:=B5.out.cell (j:=0) rfl;have x1:=B5.out.cell (j:=1) rfl;have x2:=B5.out.cell (j:=2) rfl;clear ho5 he5 q04 q14 q24 B4 O4 R4 D4;try go_wp2_with fail
 clear hHeld;refine hK.out _ _ (by exact⟨q05,q15,q25⟩) fun hHeld=>?_;clear hK K;try simp only[Act.put,pu]
 refine ty 9 ?_;refine DL 10 rfl fun K hK=>?_;go_simp;clear hHeld;refine hK.out _ _ (by exact⟨(co).trans ((co).trans ((co).trans q05)),(co).trans ((co).trans ((co).trans q15)),(co).trans ((co).trans ((co).trans q25))⟩) fun hHeld=>?_;clear hK K;try simp only[Act.put]
 refine dn ?_;go_wp2;have hz:w.heap.size<=w.heap.size+1:=by omega
 have hS:=AF.set (F:=fun b=>b=w.heap.size+1) (AF.set (F:=fun b=>b=w.heap.size+1) (AF.set (F:=fun b=>b=w.heap.size+1) (AF.rfl' (fun b=>b=w.heap.size+1) w5) (p:=⟨w.heap.size+1,0,none⟩) (.inl rfl) (.slice A1 v.length v.length)) (p:=⟨w.heap.size+1,1,none⟩) (.inl rfl) (.slice A2 r.length r.length)) (p:=⟨w.heap.size+1,2,none⟩) (.inl rfl) (.slice A3 q.length q.length);have s0:∀ u0 u1 u2:Value,World.cell? (World.setCell (World.setCell (World.setCell w5 ⟨w.heap.size+1,0,none⟩ u0) ⟨w.heap.size+1,1,none⟩ u1) ⟨w.heap.size+1,2,none⟩ u2) ⟨w.heap.size+1,0,none⟩=some u0:=fun u0 u1 u2=>(((B5.out.set 0 u0).set 1 u1).set 2 u2).cell (j:=0) rfl;have s1:∀ u0 u1 u2:Value,World.cell? (World.setCell (World.setCell (World.setCell w5 ⟨w.heap.size+1,0,none⟩ u0) ⟨w.heap.size+1,1,none⟩ u1) ⟨w.heap.size+1,2,none⟩ u2) ⟨w.heap.size+1,1,none⟩=some u1:=fun u0 u1 u2=>(((B5.out.set 0 u0).set 1 u1).set 2 u2).cell (j:=1) rfl;have s2:∀ u0 u1 u2:Value,World.cell? (World.setCell (World.setCell (World.setCell w5 ⟨w.heap.size+1,0,none⟩ u0) ⟨w.heap.size+1,1,none⟩ u1) ⟨w.heap.size+1,2,none⟩ u2) ⟨w.heap.size+1,2,none⟩=some u2:=fun u0 u1 u2=>(((B5.out.set 0 u0).set 1 u1).set 2 u2).cell (j:=2) rfl;refine bodyPost_ret (v := .agg #[.slice A1 v.length v.length,.slice A2 r.length r.length,.slice A3 q.length q.length]) (by simp[results,Tryz.results100,go_sem,s0,s1,s2];try rfl) rfl ?_;exact⟨A1,v.length,A2,r.length,A3,q.length,hs,rfl,⟨(O5.out.mod hS (fun b hb e=>by have:=(O5.out.lt hb).1;omega)).mono (by omega),Bj.mono (Bj.mod R5.out hS (fun b hb e=>by have:=(Bj.lt R5.out hb).1;omega)) (by omega),(Q5.out.mod hS (fun b hb e=>by have:=(Q5.out.lt hb).1;omega)).mono (by omega),D5.out.1,D5.out.2⟩,(((E5.out.set (p:=⟨w.heap.size+1,0,none⟩) hz _).set (p:=⟨w.heap.size+1,1,none⟩) hz _).set (p:=⟨w.heap.size+1,2,none⟩) hz _)⟩
set_option maxRecDepth 100000 in
set_option maxHeartbeats 4000000 in
theorem Tm (Av Ar Aq:Option Addr)(kv kr kq:Nat)(v q:List Int)(r:List (List Int))(w:World)(hv:Rd w 1 Av v.length (Ah v))(hr:Lq w Ar r)(hq:Rd w 1 Aq q.length (Ah q))(hvl:v.length<=1048576)(hql:q.length<=1048576) :
  Calls Tryz.prog 76 #[.agg #[.slice Av v.length kv,.slice Ar r.length kr,.slice Aq q.length kq]] w fun e w'=>∃ A1 c1 A2 c2 A3 c3 hs,e= .returned (.agg #[.slice A1 v.length c1,.slice A2 r.length c2,.slice A3 q.length c3])/\Dr w' w.heap.size A1 c1 A2 c2 A3 c3 hs ⟨v,r,q⟩/\Aa w w':=by
 have E0:=lh (show Aa w (World.alloc (World.alloc w (.cells #[.slice Av v.length kv,.slice Ar r.length kr,.slice Aq q.length kq] 44)) (.cells #[.slice none 0 0,.slice none 0 0,.slice none 0 0] 44)) from ((Aa.rfl' w).al _).al _);have b0:=Bx.new (World.alloc w (.cells #[.slice Av v.length kv,.slice Ar r.length kr,.slice Aq q.length kq] 44)) #[.slice none 0 0,.slice none 0 0,.slice none 0 0] 44;simp only[World.size_alloc] at b0;have B0:=lh b0;clear b0;have q0:World.cell? (World.alloc (World.alloc w (.cells #[.slice Av v.length kv,.slice Ar r.length kr,.slice Aq q.length kq] 44)) (.cells #[.slice none 0 0,.slice none 0 0,.slice none 0 0] 44)) ⟨w.heap.size,0,none⟩=some (.slice Av v.length kv):=by simp[go_sem]
 have q1:World.cell? (World.alloc (World.alloc w (.cells #[.slice Av v.length kv,.slice Ar r.length kr,.slice Aq q.length kq] 44)) (.cells #[.slice none 0 0,.slice none 0 0,.slice none 0 0] 44)) ⟨w.heap.size,1,none⟩=some (.slice Ar r.length kr):=by simp[go_sem]
 have q2:World.cell? (World.alloc (World.alloc w (.cells #[.slice Av v.length kv,.slice Ar r.length kr,.slice Aq q.length kq] 44)) (.cells #[.slice none 0 0,.slice none 0 0,.slice none 0 0] 44)) ⟨w.heap.size,2,none⟩=some (.slice Aq q.length kq):=by simp[go_sem]
 have Hv:=lh hv;have Hr:=lh hr;have Hq:=lh hq;clear hv hr hq;go_enter Tryz.func76,Tryz.ntmps76;go_wp2_with fail
 refine wp_region_held_drew (S:=(fun W=>W.cell? ⟨w.heap.size,0,none⟩=some (.slice Av v.length kv)/\W.cell? ⟨w.heap.size,1,none⟩=some (.slice Ar r.length kr)/\W.cell? ⟨w.heap.size,2,none⟩=some (.slice Aq q.length kq))) (by kernel_rfl) ?_ (fun hHeld=>?_)
 ·exact⟨xd.cellE q0,xd.cellE q1,xd.cellE q2⟩
 refine ty 0 ?_;refine ty 1 ?_;refine ty 3 ?_;refine ty 4 ?_;refine ty 6 ?_;refine ty 7 ?_;refine DL 2 rfl fun K hK=>?_;go_simp;refine(DZ Av v.length kv v _ (Hv.out.ext (E0.out.dr)) (by omega)).mono ?_;rintro e w3 ⟨A1,c1,rfl,ho3,he3⟩;have E3:=lh ((E0.out.dr).tr he3);have O3:=lh (ho3.mono (B':=w.heap.size+2) (by simp));have hz3:w.heap.size+2<=w3.heap.size:=by have:=he3.size;simpa using this
 have B3:=lh ((B0.out.ext xd).ext he3);have q03:=he3.cellE (xd.cellE q0);have q13:=he3.cellE (xd.cellE q1);have q23:=he3.cellE (xd.cellE q2);clear ho3 he3 q0 q1 q2 B0;try go_wp2_with fail
 clear hHeld;refine hK.out _ _ (by exact⟨q03,q13,q23⟩) fun hHeld=>?_;clear hK K;try simp only[Act.put,pu]
 refine DL 5 rfl fun K hK=>?_;go_simp;refine(Qs Ar kr r _ (Hr.out.ext E3.out)).mono ?_;rintro e w4 ⟨A2,c2,hs,rfl,ho4,he4⟩;have E4:=lh (E3.out.tr he4);have O4:=lh (O3.out.ext he4);have R4:=lh (Bj.mono ho4 (B':=w.heap.size+2) hz3);have D4:=lh (show ∀ b,AE A1=some b->¬ Gi A2 hs b from fun b hb hb'=>by have h1:=(O3.out.lt hb).2;have h2:=(ho4.lt hb').1;omega);have B4:=lh (B3.out.ext he4);have hz4:=he4.size;have q04:=he4.cellE q03;have q14:=he4.cellE q13;have q24:=he4.cellE q23;clear ho4 he4 q03 q13 q23 B3;try go_wp2_with fail
 clear hHeld;refine hK.out _ _ (by exact⟨q04,q14,q24⟩) fun hHeld=>?_;clear hK K;try simp only[Act.put,pu]
 refine DL 8 rfl fun K hK=>?_;go_simp;refine(DZ Aq q.length kq q _ (Hq.out.ext E4.out) (by omega)).mono ?_;rintro e w5 ⟨A3,c3,rfl,ho5,he5⟩;have E5:=lh (E4.out.tr he5);have O5:=lh (O4.out.ext he5);have R5:=lh (Bj.ext R4.out he5);have Q5:=lh (ho5.mono (B':=w.heap.size+2) (by omega));have D5:=lh (show (∀ b,AE A1=some b->¬ Gi A2 hs b/\AE A3≠some b)/\∀ b,AE A3=some b->¬ Gi A2 hs b from ⟨fun b hb=>⟨D4.out b hb,fun e=>by have h1:=(O4.out.lt hb).2;have h2:=(ho5.lt e).1;omega⟩,fun b hb hf=>by have h1:=(Bj.lt R4.out hf).2;have h2:=(ho5.lt hb).1;omega⟩);have B5:=lh (B4.out.ext he5);have q05:=he5.cellE q04;have q15:=he5.cellE q14;have q25:=he5.cellE q24;have f0:=B5.out.free 0;have f1:=B5.out.free 1;have f2:=B5.out.free 2;have bl:=B5.out.lt;have x0:=B5.out.cell (j:=0) rfl;have x1:=B5.out.cell (j:=1) rfl;have x2:=B5.out.cell (j:=2) rfl;clear ho5 he5 q04 q14 q24 B4 O4 R4 D4;try go_wp2_with fail
 clear hHeld;refine hK.out _ _ (by exact⟨q05,q15,q25⟩) fun hHeld=>?_;clear hK K;try simp only[Act.put,pu]
 refine ty 9 ?_;refine DL 10 rfl fun K hK=>?_;go_simp;clear hHeld;refine hK.out _ _ (by exact⟨(co).trans ((co).trans ((co).trans q05)),(co).trans ((co).trans ((co).trans q15)),(co).trans ((co).trans ((co).trans q25))⟩) fun hHeld=>?_;clear hK K;try simp only[Act.put]
 refine dn ?_;go_wp2;have hz:w.heap.size<=w.heap.size+1:=by omega
 have hS:=AF.set (F:=fun b=>b=w.heap.size+1) (AF.set (F:=fun b=>b=w.heap.size+1) (AF.set (F:=fun b=>b=w.heap.size+1) (AF.rfl' (fun b=>b=w.heap.size+1) w5) (p:=⟨w.heap.size+1,0,none⟩) (.inl rfl) (.slice A1 v.length c1)) (p:=⟨w.heap.size+1,1,none⟩) (.inl rfl) (.slice A2 r.length c2)) (p:=⟨w.heap.size+1,2,none⟩) (.inl rfl) (.slice A3 q.length c3);have s0:∀ u0 u1 u2:Value,World.cell? (World.setCell (World.setCell (World.setCell w5 ⟨w.heap.size+1,0,none⟩ u0) ⟨w.heap.size+1,1,none⟩ u1) ⟨w.heap.size+1,2,none⟩ u2) ⟨w.heap.size+1,0,none⟩=some u0:=fun u0 u1 u2=>(((B5.out.set 0 u0).set 1 u1).set 2 u2).cell (j:=0) rfl;have s1:∀ u0 u1 u2:Value,World.cell? (World.setCell (World.setCell (World.setCell w5 ⟨w.heap.size+1,0,none⟩ u0) ⟨w.heap.size+1,1,none⟩ u1) ⟨w.heap.size+1,2,none⟩ u2) ⟨w.heap.size+1,1,none⟩=some u1:=fun u0 u1 u2=>(((B5.out.set 0 u0).set 1 u1).set 2 u2).cell (j:=1) rfl;have s2:∀ u0 u1 u2:Value,World.cell? (World.setCell (World.setCell (World.setCell w5 ⟨w.heap.size+1,0,none⟩ u0) ⟨w.heap.size+1,1,none⟩ u1) ⟨w.heap.size+1,2,none⟩ u2) ⟨w.heap.size+1,2,none⟩=some u2:=fun u0 u1 u2=>(((B5.out.set 0 u0).set 1 u1).set 2 u2).cell (j:=2) rfl;refine bodyPost_ret (v := .agg #[.slice A1 v.length c1,.slice A2 r.length c2,.slice A3 q.length c3]) (by simp[results,Tryz.results76,go_sem,s0,s1,s2];try rfl) rfl ?_;exact⟨A1,c1,A2,c2,A3,c3,hs,rfl,⟨(O5.out.mod hS (fun b hb e=>by have:=(O5.out.lt hb).1;omega)).mono (by omega),Bj.mono (Bj.mod R5.out hS (fun b hb e=>by have:=(Bj.lt R5.out hb).1;omega)) (by omega),(Q5.out.mod hS (fun b hb e=>by have:=(Q5.out.lt hb).1;omega)).mono (by omega),D5.out.1,D5.out.2⟩,(((E5.out.set (p:=⟨w.heap.size+1,0,none⟩) hz _).set (p:=⟨w.heap.size+1,1,none⟩) hz _).set (p:=⟨w.heap.size+1,2,none⟩) hz _)⟩
open Go.RowKit
open Go.RowKit
def Wr (Bx By:Nat)(Ax Ay:Option Addr)(cx cy n:Nat)(X Y:List Int)(w:World):Prop :=
 w.cell? ⟨Bx,0,none⟩=some (.slice Ax n cx)/\w.cell? ⟨By,0,none⟩=some (.slice Ay n cy)/\Rd w 1 Ax n (Ah X)/\Rd w 1 Ay n (Ah Y)
theorem Wr.ext {Bx By:Nat}{Ax Ay:Option Addr}{cx cy n:Nat}{X Y:List Int}{w w':World}(h:Wr Bx By Ax Ay cx cy n X Y w)(e:Aa w w'):Wr Bx By Ax Ay cx cy n X Y w' :=
 ⟨e.cellE h.1,e.cellE h.2.1,h.2.2.1.ext e,h.2.2.2.ext e⟩
def XE (Bg Bx By Br:Nat)(A Ax Ay Ar:Option Addr)(c cx cy cr:Nat)(g:Sg.Ae)(X Y:List Int)(w:World):Prop :=
 w.cell? ⟨Bg,0,none⟩=some (.slice A g.length c)/\Wr Bx By Ax Ay cx cy g.length X Y w/\w.cell? ⟨Br,0,none⟩=some (.slice Ar g.length cr)/\Eg w A g/\Lq w Ar (Sg.Cv g X g.length)
theorem XE.ext {Bg Bx By Br:Nat}{A Ax Ay Ar:Option Addr}{c cx cy cr:Nat}{g:Sg.Ae}{X Y:List Int}{w w':World}(h:XE Bg Bx By Br A Ax Ay Ar c cx cy cr g X Y w)(e:Aa w w'):XE Bg Bx By Br A Ax Ay Ar c cx cy cr g X Y w' :=
 ⟨e.cellE h.1,h.2.1.ext e,e.cellE h.2.2.1,h.2.2.2.1.ext e,h.2.2.2.2.ext e⟩
structure Qw (p:Int->Bool) (l:List Int) (i j:Nat) (m:List Int):Prop where
 len:m.length=l.length
 lt:i<j
 le:j<=l.length
 got:m.take i=(l.take j).filter fun x=>!p x
 rest:m.drop j=l.drop j
theorem Qw.at_ {p:Int->Bool}{l m:List Int}{i j:Nat}(h:Qw p l i j m)(hj:j<l.length):∃ x,l[j]? = some x/\m[j]? = some x:=by
 have hm:j<m.length:=by rw[h.len];exact hj
 have hx:l[j]? = some l[j]:=gg hj;refine⟨_,hx,?_⟩;have h1:=congrArg (fun t=>t[0]?) h.rest;simp only[List.getElem?_drop,Nat.add_zero] at h1;rw[h1];exact hx
theorem Qw.skip {p:Int->Bool}{l m:List Int}{i j:Nat}(h:Qw p l i j m){x:Int}(hx:l[j]? = some x)(hp:p x=true):Qw p l i (j+1) m:=by
 have hj:=(ge_.1 hx).1;refine⟨h.len,by have:=h.lt;omega,hj,?_,?_⟩
 ·rw[C6 l j hx,List.filter_append,h.got];simp[hp]
 ·have:=congrArg (List.drop 1) h.rest;simpa[List.drop_drop] using this
theorem Qw.keep {p:Int->Bool}{l m:List Int}{i j:Nat}(h:Qw p l i j m){x:Int}(hx:l[j]? = some x)(hp:p x=false):Qw p l (i+1) (j+1) (m.set i x):=by
 have hj:=(ge_.1 hx).1;have hl:=h.lt;have hm:=h.len;refine⟨by simpa using h.len,by omega,hj,?_,?_⟩
 ·rw[C6 l j hx,List.filter_append,<- h.got,C6 (m.set i x) i (x:=x) (by rw[List.getElem?_set_self (by omega)])];rw[List.take_set_of_le (Nat.le_refl _)];simp[hp]
 ·rw[List.drop_set_of_lt (by omega)];have:=congrArg (List.drop 1) h.rest;simpa[List.drop_drop] using this
theorem Au.cut {w:World}{B e n c:Nat}{A:Option Addr}{xs:List Value}(h:Au w B e 1 A n c xs)(i:Nat)(hi:i<=n):Au w B e 1 A i c (xs.take i):=by
 have h1:=h.1;refine⟨by simp;omega,Nat.le_trans hi h.2.1,h.2.2.1,?_⟩;rcases h.2.2.2 with h2 | ⟨g,cur,ha,hb,hh,hc,ht⟩
 ·exact .inl h2
 ·refine .inr ⟨g,cur,ha,hb,hh,hc,?_⟩;rw[<- ht,List.take_take];congr 1
  omega
theorem Au.behind {B e g n c:Nat}{xs:List Value}(vs:List Value):∀ (w:World) (o:Nat),Au w B e 1 (some ⟨g,0,none⟩) n c xs->n<=o->Au (w.setCells g o vs) B e 1 (some ⟨g,0,none⟩) n c xs:=by
 induction vs with
 | nil=>intro w o h _;exact h
 | cons v vs ih =>
  intro w o h ho;have h1:=h.st o v;have hl:=h.1;rw[List.set_eq_of_length_le (by omega)] at h1;exact ih _ (o+1) h1 (by omega)
theorem AF.cells {F:Nat->Prop}{a:World}(g:Nat)(hg:F g)(vs:List Value):∀ (w:World) (o:Nat),AF F a w->AF F a (w.setCells g o vs):=by
 induction vs with
 | nil=>intro w o h;exact h
 | cons v vs ih=>intro w o h;exact ih _ (o+1) (h.set (.inl hg) v)
open Go.RowKit
set_option maxHeartbeats 1000000 in
theorem Pg (A Ac:Option Addr)(c cc:Nat)(g:Sg.Ae)(l:List Int)(w:World)(h:Eg w A g)(hc:Rd w 1 Ac l.length (Ah l)) :
  Calls Tryz.prog 17 #[.agg #[.slice A g.length c],.slice Ac l.length cc] w fun e w'=>∃ A1 A2 hs,e= .returned (.agg #[.slice A1 (DK g l).vals.length (DK g l).vals.length,.slice A2 (DK g l).reads.length (DK g l).reads.length]) /\
   JN w' w.heap.size A1 (DK g l).vals.length A2 (DK g l).reads.length hs (DK g l)/\Aa w w':=by
 have e0:=((Aa.rfl' w).al (.cells #[.slice A g.length c] 35)).al (.cells #[.slice none 0 0,.slice none 0 0] 41);have HVC:=lh (Gu A Ac c cc g l);have q0:((w.alloc (.cells #[.slice A g.length c] 35)).alloc (.cells #[.slice none 0 0,.slice none 0 0] 41)).cell? ⟨w.heap.size,0,none⟩=some (.slice A g.length c):=by simp[go_sem]
 have r0:((w.alloc (.cells #[.slice A g.length c] 35)).alloc (.cells #[.slice none 0 0,.slice none 0 0] 41)).cell? ⟨w.heap.size+1,0,none⟩=some (.slice none 0 0):=by simp[go_sem]
 have r1:((w.alloc (.cells #[.slice A g.length c] 35)).alloc (.cells #[.slice none 0 0,.slice none 0 0] 41)).cell? ⟨w.heap.size+1,1,none⟩=some (.slice none 0 0):=by simp[go_sem]
 have rf:∀ j,((w.alloc (.cells #[.slice A g.length c] 35)).alloc (.cells #[.slice none 0 0,.slice none 0 0] 41)).frozen? ⟨w.heap.size+1,j,none⟩=false:=fun j=>by simp[go_sem]
 have HE:=lh e0;have H:=lh h;have Hc:=lh hc;have Q0:=lh q0;have R0:=lh r0;have R1:=lh r1;have RF:=lh rf;clear e0 h hc q0 r0 r1 rf;cases hV:(Sg.AG g && Sg.AT g l)
 ·have HV:=lh hV;have hS:DK g l=⟨[],[]⟩:=by unfold DK;rw[hV];rfl
  have HS:=lh hS;clear hV hS;go_enter Tryz.func17,Tryz.ntmps17;go_wp2_with (go_at_call 45;refine(HVC.out _ (H.out.ext HE.out) (Hc.out.ext HE.out)).mono ?_;rintro e w1 ⟨rfl,he1⟩;rw[HV.out];have t0:=he1.cellE R0.out;have t1:=he1.cellE R1.out;have tb:=AA t0;have tf0:=(he1.frozen (p:=⟨w.heap.size+1,0,none⟩) (by simp)).trans (RF.out 0);have tf1:=(he1.frozen (p:=⟨w.heap.size+1,1,none⟩) (by simp)).trans (RF.out 1))
  have g0:∀ u v:Value,((w1.setCell ⟨w.heap.size+1,0,none⟩ u).setCell ⟨w.heap.size+1,1,none⟩ v).cell? ⟨w.heap.size+1,0,none⟩=some u:=fun u v=>(co).trans (World.cell?_setCell_same _ _ _ t0);have g1:∀ u v:Value,((w1.setCell ⟨w.heap.size+1,0,none⟩ u).setCell ⟨w.heap.size+1,1,none⟩ v).cell? ⟨w.heap.size+1,1,none⟩=some v:=fun u v=>World.cell?_setCell_same _ _ _ (u := .slice none 0 0) ((co).trans t1);refine bodyPost_ret (v := .agg #[.slice none 0 0,.slice none 0 0]) (by simp[results,Tryz.results17,go_sem,g0,g1];try rfl) rfl ?_;rw[HS.out];exact⟨none,none,[],rfl,JN.nil _ _,((HE.out.tr he1).set (by simp) _).set (by simp) _⟩
 ·have HV:=lh hV;have hS:DK g l=Sg.BQ g l:=by unfold DK;rw[hV];rfl
  have HS:=lh hS;simp only[Bool.and_eq_true] at hV;have HM:=lh (fun w h hc=>Uh A Ac c cc g l w h hc hV.1 hV.2);clear hV hS;go_enter Tryz.func17,Tryz.ntmps17;go_wp2_with (go_at_call 45;refine(HVC.out _ (H.out.ext HE.out) (Hc.out.ext HE.out)).mono ?_;rintro e w1 ⟨rfl,he1⟩;rw[HV.out];have k0:=he1.cellE Q0.out;have t0:=he1.cellE R0.out;have t1:=he1.cellE R1.out;have tb:=AA t0;have tf0:=(he1.frozen (p:=⟨w.heap.size+1,0,none⟩) (by simp)).trans (RF.out 0);have tf1:=(he1.frozen (p:=⟨w.heap.size+1,1,none⟩) (by simp)).trans (RF.out 1))
  refine(HM.out _ (H.out.ext (HE.out.tr he1)) (Hc.out.ext (HE.out.tr he1))).mono ?_;rintro e w2 ⟨A1,A2,hs,rfl,ho1,ho2,hd,he2⟩;have s0:=he2.cellE t0;have s1:=he2.cellE t1;have sb:=AA s0;have sf0:=(he2.frozen (p:=⟨w.heap.size+1,0,none⟩) tb).trans tf0;have sf1:=(he2.frozen (p:=⟨w.heap.size+1,1,none⟩) tb).trans tf1;have Ho1:=lh ho1;have Ho2:=lh ho2;have Hd:=lh hd;have E2:=lh ((HE.out.tr he1).tr he2);clear ho1 ho2 hd he1 he2 k0 t0 t1 tf0 tf1;go_wp2;have g0:∀ u v:Value,((w2.setCell ⟨w.heap.size+1,0,none⟩ u).setCell ⟨w.heap.size+1,1,none⟩ v).cell? ⟨w.heap.size+1,0,none⟩=some u:=fun u v=>(co).trans (World.cell?_setCell_same _ _ _ s0);have g1:∀ u v:Value,((w2.setCell ⟨w.heap.size+1,0,none⟩ u).setCell ⟨w.heap.size+1,1,none⟩ v).cell? ⟨w.heap.size+1,1,none⟩=some v:=fun u v=>World.cell?_setCell_same _ _ _ (u := .slice none 0 0) ((co).trans s1);refine bodyPost_ret (v := .agg #[.slice A1 g.length g.length,.slice A2 g.length g.length]) (by simp[results,Tryz.results17,go_sem,g0,g1];try rfl) rfl ?_;rw[HS.out];have l1:(Sg.BQ g l).vals.length=g.length:=by simp[Sg.BQ]
  have l2:(Sg.BQ g l).reads.length=g.length:=by simp[Sg.BQ]
  have hn:∀ b,b<w1.heap.size->AE A1≠some b:=fun b hb e=>by have:=(Ho1.out.lt e).1;omega
  rw[l1,l2];refine⟨A1,A2,hs,rfl,⟨?_,?_,Hd.out⟩,(E2.out.set (by simp) _).set (by simp) _⟩
  ·rw[l1];exact((Ho1.out.set (p:=⟨w.heap.size+1,0,none⟩) (hn _ tb) _).set (p:=⟨w.heap.size+1,1,none⟩) (hn _ tb) _).mono (by omega)
  ·exact((Ho2.out.below (p:=⟨w.heap.size+1,0,none⟩) tb _).below (p:=⟨w.heap.size+1,1,none⟩) tb _).mono (by omega)
end Go.Proofs.YthibllkleakiiaaGreatDoor
