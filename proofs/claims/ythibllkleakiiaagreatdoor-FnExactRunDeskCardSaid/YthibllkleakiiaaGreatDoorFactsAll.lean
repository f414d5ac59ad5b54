/- Parts of one proof, joined. The reference's goodFormula: its contract. Conditions: bounds on the number of draws. -/
import Derived.Deep.DeepCutAuto
import Derived.Lib.SliceRun
import Derived.Deep.QuietTactic
import Derived.BigQuiet
import Derived.Test.YthibllkleakiiaaGreatDoorImplQ
namespace Go.Proofs.YthibllkleakiiaaGreatDoor
open Go.RowKit
def Dw (g:Sg.Ae)(l:List Int):Sg.BT:=if (Sg.AG g && Sg.AT g l)=true then Sg.BJ g l else ⟨[],[]⟩
structure Jj (w:World) (B:Nat) (A1:Option Addr) (c1:Nat) (A2:Option Addr) (c2:Nat) (hs:List (Option Addr × Nat)) (st:Sg.BT):Prop where
 v:AA w B 3 1 A1 st.vals.length c1 (Ah st.vals)
 r:Cy w B A2 c2 st.reads hs
 d:∀ b,AD A1=some b->¬ FR A2 hs b
theorem Jj.nil (w:World)(B:Nat):Jj w B none 0 none 0 [] ⟨[],[]⟩:=⟨AA.nil _ _ _ _,Bn.nil _ _ _ _ _ _,by intro b h;simp[AD] at h⟩
end Go.Proofs.YthibllkleakiiaaGreatDoor
namespace Sg
theorem LX:∀ (ns:List Nat)(L:Nat),0<=DW ns L->ns.sum<=L
 | [],L,_=>by simp
 | n :: r,L,h=>by
  unfold DW at h;split at h
  ·omega
  ·have:=LX r _ h;simp only[List.sum_cons];omega
theorem UL (ns:List Nat)(L:Nat)(h:0<=RS ns L):ns.length+ns.sum<=L:=by
 unfold RS at h;split at h
 ·omega
 ·have:=LX ns _ h;omega
theorem TJ {f:List At}{k:Nat}(h:RZ f k)(v:List Int):(AK f v).2.length<=4096:=by
 have h1:=FC f v f.length ((f.length:Int) - 1);have h2:2 ^ f.length<=2 ^ 12:=Nat.pow_le_pow_right (by omega) h.len
 have h3:(AK f v).2.length<=(Cj f v f.length ((f.length:Int) - 1)).2.length:=by
  unfold AK
  have:∀ (l out:List Int),(l.foldl CT out).length<=out.length+l.length:=by
   intro l;induction l with
   | nil=>intro out;simp
   | cons x l ih =>
    intro out;have h4:=ih (CT out x);have h5:(CT out x).length<=out.length+1:=by unfold CT;split <;> simp
    simp only[List.foldl_cons,List.length_cons];omega
  have:=this (Cj f v f.length ((f.length:Int) - 1)).2 [];simpa[AV] using this
 omega
theorem Kf {g:Ae}(hg:AG g=true)(v:List Int){k:Nat}(hk:k<g.length):(Cb g v k).length<=4096:=by
 unfold Cb;obtain⟨n,hn⟩:∃ n,g[k]? = some n:=⟨_,List.getElem?_eq_getElem hk⟩;have hd:g.getD k default=n:=by simp[hn]
 rw[hd];split
 ·simp
 ·rename_i h0
  exact TJ (Bj hg k hn h0) v
end Sg
namespace Go.Proofs.YthibllkleakiiaaGreatDoor
open Go.RowKit
theorem Xj (g:Sg.Ae)(L:Nat)(h:0<=Sg.RS (g.map (fun n=>n.f.length)) L):Iv g<=5 * L:=by
 have h1:=Sg.UL _ _ h
 have h2:Iv g<=g.length+5 * (g.map (fun n=>n.f.length)).sum:=by
  clear h h1;induction g with
  | nil=>simp[Iv]
  | cons n g ih=>simp[Iv] at ih ⊢;omega
 simp only[List.length_map] at h1;omega
structure Ug (st:Sg.BT):Prop where
 v:st.vals.length<=1048576
 r:st.reads.length<=1048576
 e:∀ l ∈ st.reads,l.length<=1048576
 t:G_ st.reads<=100000000000
theorem Rf (ll:List (List Int))(c:Nat)(h:∀ l ∈ ll,l.length<=c):G_ ll<=ll.length * c:=by
 induction ll with
 | nil=>simp[G_]
 | cons l r ih =>
  have h1:=h l (by simp);have h2:=ih (fun x hx=>h x (by simp[hx]));simp only[G_,List.map_cons,List.sum_cons,List.length_cons] at h2 ⊢;rw[Nat.add_mul,Nat.one_mul];omega
theorem JI {g:Sg.Ae}(h:Sg.AG g=true):g.length<=10:=by
 unfold Sg.AG at h;simp only[Bool.and_eq_true,decide_eq_true_eq] at h;exact h.2
theorem Rg {g:Sg.Ae}(hg:Sg.AG g=true)(v:List Int)(k:Nat)(hk:k<=g.length):(∀ l ∈ Sg.Cm g v k,l.length<=4096):=by
 intro l hl;unfold Sg.Cm at hl;rw[List.mem_map] at hl;obtain⟨i,hi,rfl⟩:=hl;rw[List.mem_range] at hi;exact Sg.Kf hg v (by omega)
theorem Vj (g:Sg.Ae)(l:List Int):Ug (Dw g l):=by
 unfold Dw;split
 ·rename_i h
  simp only[Bool.and_eq_true] at h;have h10:=JI h.1;have hd:=Rg h.1 (Sg.Bz g l) g.length (Nat.le_refl _);have ht:=Rf _ 4096 hd;refine⟨by simp[Sg.BJ];omega,by simp[Sg.BJ];omega,fun x hx=>Nat.le_trans (hd x hx) (by omega),?_⟩;simp only[Sg.length_depsTo] at ht;simp only[Sg.BJ];omega
 ·exact⟨by simp,by simp,by simp,by simp[G_]⟩
theorem QM.up2 {w:World}{A:Option Addr}{g:Sg.Ae}(h:QM w A g)(hb:g.length<=1048576)(hl:∀ n ∈ g,n.f.length<=1048576):Eg w A g :=
 ⟨hb,fun i n hn=>let ⟨b,o,Ap,cp,ha,h1,h2,h3⟩:=h.2 i n hn;⟨b,o,Ap,cp,ha,h1,h2,h3,hl n (List.mem_of_getElem? hn)⟩⟩
theorem Wm (k:Int)(ll:List (List Int))(h:∀ l ∈ ll,l.length<=1048576):∀ l ∈ IE k ll,l.length<=1048576:=by
 induction ll generalizing k with
 | nil=>intro l hl;cases hl
 | cons x r ih =>
  intro l hl;simp only[IE,List.mem_cons] at hl;rcases hl with rfl | hl
  ·simpa using h x (by simp)
  ·exact ih _ (fun y hy=>h y (by simp[hy])) l hl
theorem Jj.lt {w:World}{B c1 c2:Nat}{A1 A2:Option Addr}{hs:List (Option Addr × Nat)}{st:Sg.BT}(k:Jj w B A1 c1 A2 c2 hs st){b:Nat}(h:AD A1=some b\/FR A2 hs b):B<=b/\b<w.heap.size:=by
 rcases h with h | h
 ·exact k.v.lt h
 ·exact k.r.lt h
theorem Jj.ext {w w':World}{B c1 c2:Nat}{A1 A2:Option Addr}{hs:List (Option Addr × Nat)}{st:Sg.BT}(k:Jj w B A1 c1 A2 c2 hs st)(e:Aa w w'):Jj w' B A1 c1 A2 c2 hs st:=⟨k.v.ext e,Bn.ext k.r e,k.d⟩
theorem Jj.mod {F:Nat->Prop}{w w':World}{B c1 c2:Nat}{A1 A2:Option Addr}{hs:List (Option Addr × Nat)}{st:Sg.BT}(k:Jj w B A1 c1 A2 c2 hs st)(m:AH F w w')(hF:∀ b,(AD A1=some b\/FR A2 hs b)->¬ F b):Jj w' B A1 c1 A2 c2 hs st :=
 ⟨k.v.mod m fun b hb=>hF b (.inl hb),Bn.mod k.r m fun b hb=>hF b (.inr hb),k.d⟩
theorem Jj.rv {w:World}{B c1 c2:Nat}{A1 A2:Option Addr}{hs:List (Option Addr × Nat)}{st:Sg.BT}(k:Jj w B A1 c1 A2 c2 hs st):Rd w 1 A1 st.vals.length (Ah st.vals):=k.v.rd
theorem Jj.rr {w:World}{B c1 c2:Nat}{A1 A2:Option Addr}{hs:List (Option Addr × Nat)}{st:Sg.BT}(k:Jj w B A1 c1 A2 c2 hs st)(s:Ug st):KO w A2 st.reads:=Cy.rdL k.r s.r s.e
open Go.RowKit
set_option maxHeartbeats 1000000 in
theorem Ph (A:Option Addr)(c:Nat)(ll:List (List Int))(w:World)(h:KO w A ll) :
  Calls Tryz.prog 138 #[.slice A ll.length c] w fun e w'=>∃ A' hs,e= .returned (.slice A' ll.length ll.length)/\Cy w' w.heap.size A' ll.length ll hs/\Aa w w':=by
 have hb:=h.1;go_enter Tryz.func138,Tryz.ntmps138;go_wp2_with (at_make;refine Ie rfl rfl Bq (B:=w.heap.size) rfl rfl (by omega) (by omega) (by simp) ?_;intro w1 hown hext)
 rw[AJ _ _ rfl] at hown;go_loopw [11] (fun i wr=>∃ (k:Nat) (hs:List (Option Addr × Nat)),k<=ll.length/\i= .int .i64 k/\hs.length=k/\Aa w wr/\En wr w.heap.size 3 1 w.heap.size (AM ll) hs/\AA wr w.heap.size 36 1 (some ⟨w.heap.size,0,none⟩) ll.length ll.length (Bb (AM ll) hs++List.replicate (ll.length - k) (.slice none 0 0))) (fun i _=>ll.length - (intOf i).toNat)
 case atStart=>exact⟨0,[],Nat.zero_le _,rfl,rfl,hext,En.nil _ _ _ _ _ _,by rw[GD];exact hown⟩
 case round =>
  clear hown hext;obtain⟨k,hs,hk,rfl,hlen,he,hinn,hown⟩:=hrel;have hwr:w.heap.size<wr.heap.size:=(hown.lt (g:=w.heap.size) rfl).2;have hdl:(Bb (AM ll) hs).length=k:=by rw[Jn (EJ ll) (by simp;omega),hlen,Nat.mul_one]
  by_cases hlt:k<ll.length
  ·obtain⟨l,b,o,Al,cl,hl,rfl,hc,hr,hll⟩:=(h.ext he).at_ hlt;have hbw:=Au hc;have HC:=lh (fun w h=>J1 Al l.length cl l w h (by omega));obtain⟨y,hy⟩:∃ y,(Bb (AM ll) hs++List.replicate (ll.length - k) (.slice none 0 0))[k]? = some y:=⟨_,List.getElem?_eq_getElem (by simp[hdl];omega)⟩;have Hy:=lh hy;have Ho:=lh hown;have Hl:=lh hl;have Hinn:=lh hinn;have Hlen:=lh hlen;have Hdl:=lh hdl;clear hy hown hl hinn hlen hdl;go_wp2_with (go_at_call 50;refine(HC.out _ hr).mono ?_;rintro e w2 ⟨A2,rfl,ho2,he2⟩;have hor:=Ho.out.ext he2;have q0:=hor.cell Hy.out;have q1:=hor.free k)
   go_roundw
   case rel =>
    have hat:(AM ll)[hs.length]? = some ⟨[],l.length,Ah l⟩:=by rw[Hlen.out];exact Dv Hl.out
    refine⟨k+1,hs++[(A2,l.length)],by omega,by go_num,by simp[Hlen.out],(he.tr he2).set (by simp) _,(Hinn.out.snoc he2 (by omega) hwr hat ho2).st _ _,?_⟩;rw[IW _ hat,show Mt ⟨[],l.length,Ah l⟩ (A2,l.length)=[.slice A2 l.length l.length] from rfl,<- Vx _ k ll.length Hdl.out hlt];exact hor.st k _
   case measure=>simp[intOf];omega
  ·obtain rfl:k=ll.length:=by omega
   rw[Nat.sub_self,List.replicate_zero,List.append_nil] at hown;have Hfin:=lh (hinn.own (eo:=36) (so:=1) (c:=ll.length) (by simp[hlen]) (by simpa using hown));clear hown hinn hlen hdl;go_wp2;go_ret;exact⟨_,hs,rfl,Hfin.out,he⟩
set_option maxHeartbeats 1000000 in
theorem Pi (A:Option Addr)(c:Nat)(ll:List (List Int))(w:World)(h:KO w A ll) :
  Calls Tryz.prog 113 #[.slice A ll.length c] w fun e w'=>∃ A' c' hs,e= .returned (.slice A' ll.length c')/\Cy w' w.heap.size A' c' ll hs/\Aa w w':=by
 have hb:=h.1;have H:=lh h;have O0:=lh (show Cy (World.alloc w (.cells #[] 36)) w.heap.size (some ⟨w.heap.size,0,none⟩) 0 (ll.take 0) [] from ⟨by simp,by have:=AA.new w 36 1 #[] 0 (Nat.le_refl _) (by unfold maxLen;omega) rfl;simpa[Bb,AM] using this,by simp[AM],by simp,by simp⟩);have E0:=lh ((Aa.rfl' w).al (.cells #[] 36));clear h;go_enter Tryz.func113,Tryz.ntmps113;go_wp2_with fail
 go_loopw [3,4] (fun s i wr=>∃ (k:Nat) (A':Option Addr) (c':Nat) (hs:List (Option Addr × Nat)),k<=ll.length/\s= .slice A' k c'/\i= .int .i64 k/\Hid (Cy wr w.heap.size A' c' (ll.take k) hs)/\Hid (Aa w wr)) (fun _ i _=>ll.length - (intOf i).toNat)
 case atStart=>exact⟨0,_,_,[],Nat.zero_le _,rfl,rfl,O0,E0⟩
 case round =>
  clear O0 E0;obtain⟨k,A',c',hs,hk,rfl,rfl,hO,hE⟩:=hrel;by_cases hlt:k<ll.length
  ·obtain⟨l,b,o,Al,cl,hl,rfl,hc,hr,hll⟩:=(H.out.ext hE.out).at_ hlt;have hbw:=Au hc;have HC:=lh (fun w h=>DL Al l.length cl l w h (by omega));have Hl:=lh hl;have Hr:=lh hr;have hws:=hE.out.size;clear hl hr;go_wp2_with fail
   refine(HC.out _ Hr.out).mono ?_;rintro e w2 ⟨A2,c2,rfl,ho2,he2⟩;have Ho2:=lh ho2;have He2:=lh he2;have hw2:=he2.size;have hout:=lh (show AA w2 w.heap.size 36 1 A' k c' (Bb (AM (ll.take k)) hs) from by have:=hO.out.out.ext he2;simpa[Nat.min_eq_left hk] using this);clear ho2 he2 hbw hc;go_wp2_with (at_builtin;refine AF rfl rfl Bq rfl hout.out rfl rfl (Gm _ _ _) (by omega) (by omega) (by omega) ?_;intro A9 c9 w9 ho9 hg9 hat9;have Ho9:=lh ho9;have Hg9:=lh hg9;have Ha9:=lh hat9;clear ho9 hg9 hat9)
   go_roundw
   case rel =>
    have hits:AM (ll.take (k+1))=AM (ll.take k)++[⟨[],l.length,Ah l⟩]:=by
     have:=List.take_succ_eq_append_getElem hlt;obtain⟨h1,h2⟩:=List.getElem?_eq_some_iff.1 Hl.out;rw[this,h2];simp[AM]
    refine⟨k+1,A9,c9,hs++[(A2,c2)],by omega,by simp,by go_num,lh ?_,lh ((hE.out.tr He2.out).gr Hg9.out (fun b hb=>by have:=(hout.out.lt hb).1;omega))⟩;unfold Cy;rw[hits];exact hO.out.snoc He2.out hws (it:=⟨[],l.length,Ah l⟩) Ho2.out (by have:=Ho9.out;simpa[Nat.min_eq_left hk,Mt] using this) Hg9.out Ha9.out
   case measure=>simp[intOf];omega
  ·obtain rfl:k=ll.length:=by omega
   have hfin:=hO.out;rw[List.take_length] at hfin;have Hfin:=lh hfin;clear hfin;go_wp2;go_ret;exact⟨A',c',hs,rfl,Hfin.out,hE.out⟩
end Go.Proofs.YthibllkleakiiaaGreatDoor
namespace Sg
theorem Kh {g:Ae}{k:Nat}{n:BQ}(h:g[k]? = some n):Bt g (k:Int)=decide (n.kind=0):=by
 have hk:=(List.getElem?_eq_some_iff.1 h).1;unfold Bt BZ CL;rw[Int.toNat_natCast];simp only[List.getD_eq_getElem?_getD,h,Option.getD_some];have h1:decide ((0:Int)<=(k:Int))=true:=by simp
 have h2:decide ((k:Int)<=(g.length:Int) - 1)=true:=by simp;omega
 rw[h1,h2];rfl
theorem MK {g:Ae}{k:Int}(h:k<0\/(g.length:Int)<=k):Bt g k=false:=by
 unfold Bt;have:BZ k 0 ((g.length:Int) - 1)=false:=by simp[BZ];omega
 rw[this];rfl
theorem Ok (n:Nat):∀ (l:List Int),l.Nodup->(∀ x ∈ l,0<=x/\x<(n:Int))->l.length<=n:=by
 induction n with
 | zero =>
  intro l _ h;cases l with
  | nil=>simp
  | cons x l=>have:=h x (by simp);omega
 | succ n ih =>
  intro l hn h;by_cases hm:(n:Int) ∈ l
  ·have h1:=ih (l.erase (n:Int)) (hn.erase _) (fun x hx=>by
    have hx2:=h x (List.mem_of_mem_erase hx)
    have hne:x≠(n:Int):=fun e=>by
     subst e;exact(List.Nodup.mem_erase_iff hn).1 hx |>.1 rfl
    omega)
   rw[List.length_erase_of_mem hm] at h1;omega
  ·have:=ih l hn (fun x hx=>by
    have hx2:=h x hx;have hne:x≠(n:Int):=fun e=>hm (e ▸ hx);omega)
   omega
theorem Iz {g:Ae}{nodes:List Int}(h:BV g nodes=true):nodes.length<=g.length:=by
 refine Ok _ _ (JR h) fun x hx=>?_;obtain⟨i,hi⟩:=List.getElem?_of_mem hx;obtain⟨k,n,rfl,hn,_⟩:=Fh (CA h hi).1;have:=(List.getElem?_eq_some_iff.1 hn).1;omega
end Sg
namespace Go.Proofs.YthibllkleakiiaaGreatDoor
open Go.RowKit
theorem NA (A:Option Addr)(c:Nat)(g:Sg.Ae)(k:Int)(w:World)(h:Eg w A g):Calls Tryz.prog 52 #[.agg #[.slice A g.length c],.int .i64 k] w fun e w'=>e= .returned (.bool (Sg.Bt g k))/\Aa w w':=by
 by_cases hk:k<0\/(g.length:Int)<=k
 ·rw[Sg.MK hk];exact SK A c g k w h hk
 ·obtain⟨j,rfl⟩:=Int.eq_ofNat_of_zero_le (show 0<=k by omega);obtain⟨n,hn⟩:∃ n,g[j]? = some n:=⟨_,List.getElem?_eq_getElem (by omega)⟩;rw[Sg.Kh hn];exact IZ A c g j n w h hn
set_option maxHeartbeats 1000000 in
theorem TS (A:Option Addr)(c:Nat)(g:Sg.Ae)(k:Int)(w:World)(h:Eg w A g):Calls Tryz.prog 36 #[.agg #[.slice A g.length c],.int .i64 k] w fun e w'=>e= .returned (.bool (Sg.Bt g k))/\Aa w w':=by
 have hgl:=h.1;have e0:=(Aa.rfl' w).al (.cells #[.slice A g.length c] 35);have HE:=lh e0;have q0:(w.alloc (.cells #[.slice A g.length c] 35)).cell? ⟨w.heap.size,0,none⟩=some (.slice A g.length c):=by simp[go_sem]
 by_cases hk:k<0\/(g.length:Int)<=k
 ·have Hin:=lh (show Sg.BZ k 0 ((g.length:Int) - 1)=false by simp[Sg.BZ];omega);have HS:=lh (Sg.MK (g:=g) hk);have HI:=lh (fun w=>Cp k 0 ((g.length:Int) - 1) w);have hw:IntKind.i64.wrap ((g.length:Int) - 1)=(g.length:Int) - 1:=IntWalk.i64_in _ (by omega);clear hk h e0;go_enter Tryz.func36,Tryz.ntmps36;go_wp2_with (go_at_call 39;refine(HI.out _).mono ?_;rintro e w1 ⟨rfl,rfl⟩;rw[Hin.out])
  go_ret;exact⟨Aj HS.out.symm,HE.out⟩
 ·obtain⟨j,rfl⟩:=Int.eq_ofNat_of_zero_le (show 0<=k by omega);have hj:j<g.length:=by omega
  obtain⟨n,b,o,Ap,cp,hn,rfl,hkc,hs,hf,hfl⟩:=(h.ext e0).at_ hj;have Hin:=lh (show Sg.BZ (j:Int) 0 ((g.length:Int) - 1)=true by simp[Sg.BZ];omega);have HS:=lh (Sg.Kh hn);have HI:=lh (fun w=>Cp (j:Int) 0 ((g.length:Int) - 1) w);have hw:IntKind.i64.wrap ((g.length:Int) - 1)=(g.length:Int) - 1:=IntWalk.i64_in _ (by omega);have bk:=Au hkc;clear hk h e0 hn hs hf hfl;by_cases hz:n.kind=0
  ·have z:(n.kind == 0)=true:=by simp[hz]
   have Hz:=lh hz;clear hz;go_enter Tryz.func36,Tryz.ntmps36;go_wp2_with (go_at_call 39;refine(HI.out _).mono ?_;rintro e w1 ⟨rfl,rfl⟩;rw[Hin.out])
   go_ret;exact⟨Aj (by rw[HS.out];simp[Hz.out]),HE.out⟩
  ·have z:(n.kind == 0)=false:=by simp[hz]
   have Hz:=lh hz;clear hz;go_enter Tryz.func36,Tryz.ntmps36;go_wp2_with (go_at_call 39;refine(HI.out _).mono ?_;rintro e w1 ⟨rfl,rfl⟩;rw[Hin.out])
   go_ret;exact⟨Aj (by rw[HS.out];simp[Hz.out]),HE.out⟩
theorem Rd.front {w:World}{A:Option Addr}{n:Nat}{l:List Int}(h:Rd w 1 A n (Ah l))(i:Nat)(hi:i<=n):Rd w 1 A i (Ah (l.take i)):=by
 have hl:=h.len;refine⟨by simp;omega,by have:=h.2.1;omega,fun h0=>?_⟩;obtain⟨b0,o0,ha,hc⟩:=h.2.2 (by omega);refine⟨b0,o0,ha,fun j u hu=>hc j u ?_⟩;rw[Ct] at hu ⊢;rw[List.getElem?_take] at hu;split at hu
 ·exact hu
 ·simp at hu
end Go.Proofs.YthibllkleakiiaaGreatDoor
namespace Sg
end Sg
namespace Go.Proofs.YthibllkleakiiaaGreatDoor
open Go.RowKit
structure Dd (w:World) (B:Nat) (A1:Option Addr) (c1:Nat) (A2:Option Addr) (c2:Nat) (A3:Option Addr) (c3:Nat) (hs:List (Option Addr × Nat)) (st:Sg.Bv):Prop where
 v:AA w B 3 1 A1 st.vals.length c1 (Ah st.vals)
 r:Cy w B A2 c2 st.reads hs
 q:AA w B 3 1 A3 st.cols.length c3 (Ah st.cols)
 d:∀ b,AD A1=some b->¬ FR A2 hs b/\AD A3≠some b
 e:∀ b,AD A3=some b->¬ FR A2 hs b
def M8 (A1 A2 A3:Option Addr)(hs:List (Option Addr × Nat))(b:Nat):Prop:=AD A1=some b\/FR A2 hs b\/AD A3=some b
section
variable {w w':World} {B c1 c2 c3:Nat} {A1 A2 A3:Option Addr} {hs:List (Option Addr × Nat)} {st:Sg.Bv}
theorem Dd.ext (k:Dd w B A1 c1 A2 c2 A3 c3 hs st)(e:Aa w w'):Dd w' B A1 c1 A2 c2 A3 c3 hs st:=⟨k.v.ext e,Bn.ext k.r e,k.q.ext e,k.d,k.e⟩
theorem Dd.mono {B':Nat}(k:Dd w B A1 c1 A2 c2 A3 c3 hs st)(h:B'<=B):Dd w B' A1 c1 A2 c2 A3 c3 hs st:=⟨k.v.mono h,Bn.mono k.r h,k.q.mono h,k.d,k.e⟩
theorem Dd.mod {F:Nat->Prop}(k:Dd w B A1 c1 A2 c2 A3 c3 hs st)(m:AH F w w')(hF:∀ b,M8 A1 A2 A3 hs b->¬ F b):Dd w' B A1 c1 A2 c2 A3 c3 hs st :=
 ⟨k.v.mod m fun b hb=>hF b (.inl hb),Bn.mod k.r m fun b hb=>hF b (.inr (.inl hb)),k.q.mod m fun b hb=>hF b (.inr (.inr hb)),k.d,k.e⟩
theorem Dd.lt (k:Dd w B A1 c1 A2 c2 A3 c3 hs st){b:Nat}(h:M8 A1 A2 A3 hs b):B<=b/\b<w.heap.size:=by
 rcases h with h | h | h
 ·exact k.v.lt h
 ·exact Bn.lt k.r h
 ·exact k.q.lt h
end
theorem Cy.rdLC {w:World}{B c:Nat}{A:Option Addr}{ll:List (List Int)}{hs:List (Option Addr × Nat)}(k:Cy w B A c ll hs)(hb:ll.length<=1048576)(hl:∀ l ∈ ll,l.length<=1048576):Em w A ll:=by
 refine⟨hb,fun i l hi=>?_⟩;obtain⟨h,hh,ho⟩:=Bn.at_ k (Dv hi);have hil:=(List.getElem?_eq_some_iff.1 hi).1;have hout:=k.out;obtain⟨g,rfl,_⟩:=hout.at_ (by simp;omega)
 have hc:=hout.cell (j:=i) (u := .slice h.1 l.length h.2) (by
  have:=Gi (EJ ll) i 0 (by omega) (Dv hi) hh;rw[Nat.mul_one,Nat.add_zero] at this;rw[this];rfl)
 exact⟨g,0,h.1,h.2,rfl,by simpa using hc,ho.rd,hl l (List.mem_of_getElem? hi),ho.2.1,ho.2.2.1⟩
open Go.RowKit
set_option maxRecDepth 100000 in
set_option maxHeartbeats 4000000 in
theorem Vl (Av Ar Aq:Option Addr)(kv kr kq:Nat)(v q:List Int)(r:List (List Int))(w:World)(hv:Rd w 1 Av v.length (Ah v))(hr:KO w Ar r)(hq:Rd w 1 Aq q.length (Ah q))(hvl:v.length<=1048576)(hql:q.length<=1048576) :
  Calls Tryz.prog 100 #[.agg #[.slice Av v.length kv,.slice Ar r.length kr,.slice Aq q.length kq]] w fun e w'=>∃ A1 c1 A2 c2 A3 c3 hs,e= .returned (.agg #[.slice A1 v.length c1,.slice A2 r.length c2,.slice A3 q.length c3])/\Dd w' w.heap.size A1 c1 A2 c2 A3 c3 hs ⟨v,r,q⟩/\Aa w w':=by
 have E0:=lh (show Aa w (World.alloc (World.alloc w (.cells #[.slice Av v.length kv,.slice Ar r.length kr,.slice Aq q.length kq] 44)) (.cells #[.slice none 0 0,.slice none 0 0,.slice none 0 0] 44)) from ((Aa.rfl' w).al _).al _);have b0:=Bx.new (World.alloc w (.cells #[.slice Av v.length kv,.slice Ar r.length kr,.slice Aq q.length kq] 44)) #[.slice none 0 0,.slice none 0 0,.slice none 0 0] 44;simp only[World.size_alloc] at b0;have B0:=lh b0;clear b0;have q0:World.cell? (World.alloc (World.alloc w (.cells #[.slice Av v.length kv,.slice Ar r.length kr,.slice Aq q.length kq] 44)) (.cells #[.slice none 0 0,.slice none 0 0,.slice none 0 0] 44)) ⟨w.heap.size,0,none⟩=some (.slice Av v.length kv):=by simp[go_sem]
 have q1:World.cell? (World.alloc (World.alloc w (.cells #[.slice Av v.length kv,.slice Ar r.length kr,.slice Aq q.length kq] 44)) (.cells #[.slice none 0 0,.slice none 0 0,.slice none 0 0] 44)) ⟨w.heap.size,1,none⟩=some (.slice Ar r.length kr):=by simp[go_sem]
 have q2:World.cell? (World.alloc (World.alloc w (.cells #[.slice Av v.length kv,.slice Ar r.length kr,.slice Aq q.length kq] 44)) (.cells #[.slice none 0 0,.slice none 0 0,.slice none 0 0] 44)) ⟨w.heap.size,2,none⟩=some (.slice Aq q.length kq):=by simp[go_sem]
 have Hv:=lh hv;have Hr:=lh hr;have Hq:=lh hq;clear hv hr hq;go_enter Tryz.func100,Tryz.ntmps100;go_wp2_with fail
 refine wp_region_held_drew (S:=(fun W=>W.cell? ⟨w.heap.size,0,none⟩=some (.slice Av v.length kv)/\W.cell? ⟨w.heap.size,1,none⟩=some (.slice Ar r.length kr)/\W.cell? ⟨w.heap.size,2,none⟩=some (.slice Aq q.length kq))) (by kernel_rfl) ?_ (fun hHeld=>?_)
 ·exact⟨((Aa.rfl' _).dr).cellE q0,((Aa.rfl' _).dr).cellE q1,((Aa.rfl' _).dr).cellE q2⟩
 refine ty 0 ?_;refine ty 1 ?_;refine ty 3 ?_;refine ty 4 ?_;refine ty 6 ?_;refine ty 7 ?_;refine Cu 2 rfl fun K hK=>?_;go_simp;refine(J1 Av v.length kv v _ (Hv.out.ext (E0.out.dr)) (by omega)).mono ?_;rintro e w3 ⟨A1,rfl,ho3,he3⟩;have E3:=lh ((E0.out.dr).tr he3);have O3:=lh (ho3.mono (B':=w.heap.size+2) (by simp));have hz3:w.heap.size+2<=w3.heap.size:=by have:=he3.size;simpa using this
 have B3:=lh ((B0.out.ext ((Aa.rfl' _).dr)).ext he3);have q03:=he3.cellE (((Aa.rfl' _).dr).cellE q0);have q13:=he3.cellE (((Aa.rfl' _).dr).cellE q1);have q23:=he3.cellE (((Aa.rfl' _).dr).cellE q2);clear ho3 he3 q0 q1 q2 B0;try go_wp2_with fail
 clear hHeld;refine hK.out _ _ (by exact⟨q03,q13,q23⟩) fun hHeld=>?_;clear hK K;try simp only[Act.put,pu]
 refine Cu 5 rfl fun K hK=>?_;go_simp;refine(Ph Ar kr r _ (Hr.out.ext E3.out)).mono ?_;rintro e w4 ⟨A2,hs,rfl,ho4,he4⟩;have E4:=lh (E3.out.tr he4);have O4:=lh (O3.out.ext he4);have R4:=lh (Bn.mono ho4 (B':=w.heap.size+2) hz3);have D4:=lh (show ∀ b,AD A1=some b->¬ FR A2 hs b from fun b hb hb'=>by have h1:=(O3.out.lt hb).2;have h2:=(ho4.lt hb').1;omega);have B4:=lh (B3.out.ext he4);have hz4:=he4.size;have q04:=he4.cellE q03;have q14:=he4.cellE q13;have q24:=he4.cellE q23;clear ho4 he4 q03 q13 q23 B3;try go_wp2_with fail
 clear hHeld;refine hK.out _ _ (by exact⟨q04,q14,q24⟩) fun hHeld=>?_;clear hK K;try simp only[Act.put,pu]
 refine Cu 8 rfl fun K hK=>?_;go_simp;refine(J1 Aq q.length kq q _ (Hq.out.ext E4.out) (by omega)).mono ?_;rintro e w5 ⟨A3,rfl,ho5,he5⟩;have E5:=lh (E4.out.tr he5);have O5:=lh (O4.out.ext he5);have R5:=lh (Bn.ext R4.out he5);have Q5:=lh (ho5.mono (B':=w.heap.size+2) (by omega));have D5:=lh (show (∀ b,AD A1=some b->¬ FR A2 hs b/\AD A3≠some b)/\∀ b,AD A3=some b->¬ FR A2 hs b from ⟨fun b hb=>⟨D4.out b hb,fun e=>by have h1:=(O4.out.lt hb).2;have h2:=(ho5.lt e).1;omega⟩,fun b hb hf=>by have h1:=(Bn.lt R4.out hf).2;have h2:=(ho5.lt hb).1;omega⟩);have B5:=lh (B4.out.ext he5);have q05:=he5.cellE q04;have q15:=he5.cellE q14;have q25:=he5.cellE q24;have f0:=B5.out.free 0;have f1:=B5.out.free 1;have f2:=B5.out.free 2;have bl:=B5.out.lt;have x0:=B5.out.cell (j:=0) rfl;have x1:=B5.out.cell (j:=1) rfl;have x2:=B5.out.cell (j:=2) rfl;clear ho5 he5 q04 q14 q24 B4 O4 R4 D4;try go_wp2_with fail
 clear hHeld;refine hK.out _ _ (by exact⟨q05,q15,q25⟩) fun hHeld=>?_;clear hK K;try simp only[Act.put,pu]
 refine ty 9 ?_;refine Cu 10 rfl fun K hK=>?_;go_simp;clear hHeld;refine hK.out _ _ (by exact⟨(co).trans ((co).trans ((co).trans q05)),(co).trans ((co).trans ((co).trans q15)),(co).trans ((co).trans ((co).trans q25))⟩) fun hHeld=>?_;clear hK K;try simp only[Act.put]
 refine dn ?_;go_wp2;have hz:w.heap.size<=w.heap.size+1:=by omega
 have hS:=AH.set (F:=fun b=>b=w.heap.size+1) (AH.set (F:=fun b=>b=w.heap.size+1) (AH.set (F:=fun b=>b=w.heap.size+1) (AH.rfl' (fun b=>b=w.heap.size+1) w5) (p:=⟨w.heap.size+1,0,none⟩) (.inl rfl) (.slice A1 v.length v.length)) (p:=⟨w.heap.size+1,1,none⟩) (.inl rfl) (.slice A2 r.length r.length)) (p:=⟨w.heap.size+1,2,none⟩) (.inl rfl) (.slice A3 q.length q.length);have s0:∀ u0 u1 u2:Value,World.cell? (World.setCell (World.setCell (World.setCell w5 ⟨w.heap.size+1,0,none⟩ u0) ⟨w.heap.size+1,1,none⟩ u1) ⟨w.heap.size+1,2,none⟩ u2) ⟨w.heap.size+1,0,none⟩=some u0:=fun u0 u1 u2=>(((B5.out.set 0 u0).set 1 u1).set 2 u2).cell (j:=0) rfl;have s1:∀ u0 u1 u2:Value,World.cell? (World.setCell (World.setCell (World.setCell w5 ⟨w.heap.size+1,0,none⟩ u0) ⟨w.heap.size+1,1,none⟩ u1) ⟨w.heap.size+1,2,none⟩ u2) ⟨w.heap.size+1,1,none⟩=some u1:=fun u0 u1 u2=>(((B5.out.set 0 u0).set 1 u1).set 2 u2).cell (j:=1) rfl;have s2:∀ u0 u1 u2:Value,World.cell? (World.setCell (World.setCell (World.setCell w5 ⟨w.heap.size+1,0,none⟩ u0) ⟨w.heap.size+1,1,none⟩ u1) ⟨w.heap.size+1,2,none⟩ u2) ⟨w.heap.size+1,2,none⟩=some u2:=fun u0 u1 u2=>(((B5.out.set 0 u0).set 1 u1).set 2 u2).cell (j:=2) rfl;refine bodyPost_ret (v := .agg #[.slice A1 v.length v.length,.slice A2 r.length r.length,.slice A3 q.length q.length]) (by simp[results,Tryz.results100,go_sem,s0,s1,s2];try rfl) rfl ?_;exact⟨A1,v.length,A2,r.length,A3,q.length,hs,rfl,⟨(O5.out.mod hS (fun b hb e=>by have:=(O5.out.lt hb).1;omega)).mono (by omega),Bn.mono (Bn.mod R5.out hS (fun b hb e=>by have:=(Bn.lt R5.out hb).1;omega)) (by omega),(Q5.out.mod hS (fun b hb e=>by have:=(Q5.out.lt hb).1;omega)).mono (by omega),D5.out.1,D5.out.2⟩,(((E5.out.set (p:=⟨w.heap.size+1,0,none⟩) hz _).set (p:=⟨w.heap.size+1,1,none⟩) hz _).set (p:=⟨w.heap.size+1,2,none⟩) hz _)⟩
set_option maxRecDepth 100000 in
set_option maxHeartbeats 4000000 in
theorem RJ (Av Ar Aq:Option Addr)(kv kr kq:Nat)(v q:List Int)(r:List (List Int))(w:World)(hv:Rd w 1 Av v.length (Ah v))(hr:KO w Ar r)(hq:Rd w 1 Aq q.length (Ah q))(hvl:v.length<=1048576)(hql:q.length<=1048576) :
  Calls Tryz.prog 76 #[.agg #[.slice Av v.length kv,.slice Ar r.length kr,.slice Aq q.length kq]] w fun e w'=>∃ A1 c1 A2 c2 A3 c3 hs,e= .returned (.agg #[.slice A1 v.length c1,.slice A2 r.length c2,.slice A3 q.length c3])/\Dd w' w.heap.size A1 c1 A2 c2 A3 c3 hs ⟨v,r,q⟩/\Aa w w':=by
 have E0:=lh (show Aa w (World.alloc (World.alloc w (.cells #[.slice Av v.length kv,.slice Ar r.length kr,.slice Aq q.length kq] 44)) (.cells #[.slice none 0 0,.slice none 0 0,.slice none 0 0] 44)) from ((Aa.rfl' w).al _).al _);have b0:=Bx.new (World.alloc w (.cells #[.slice Av v.length kv,.slice Ar r.length kr,.slice Aq q.length kq] 44)) #[.slice none 0 0,.slice none 0 0,.slice none 0 0] 44;simp only[World.size_alloc] at b0;have B0:=lh b0;clear b0;have q0:World.cell? (World.alloc (World.alloc w (.cells #[.slice Av v.length kv,.slice Ar r.length kr,.slice Aq q.length kq] 44)) (.cells #[.slice none 0 0,.slice none 0 0,.slice none 0 0] 44)) ⟨w.heap.size,0,none⟩=some (.slice Av v.length kv):=by simp[go_sem]
 have q1:World.cell? (World.alloc (World.alloc w (.cells #[.slice Av v.length kv,.slice Ar r.length kr,.slice Aq q.length kq] 44)) (.cells #[.slice none 0 0,.slice none 0 0,.slice none 0 0] 44)) ⟨w.heap.size,1,none⟩=some (.slice Ar r.length kr):=by simp[go_sem]
 have q2:World.cell? (World.alloc (World.alloc w (.cells #[.slice Av v.length kv,.slice Ar r.length kr,.slice Aq q.length kq] 44)) (.cells #[.slice none 0 0,.slice none 0 0,.slice none 0 0] 44)) ⟨w.heap.size,2,none⟩=some (.slice Aq q.length kq):=by simp[go_sem]
 have Hv:=lh hv;have Hr:=lh hr;have Hq:=lh hq;clear hv hr hq;go_enter Tryz.func76,Tryz.ntmps76;go_wp2_with fail
 refine wp_region_held_drew (S:=(fun W=>W.cell? ⟨w.heap.size,0,none⟩=some (.slice Av v.length kv)/\W.cell? ⟨w.heap.size,1,none⟩=some (.slice Ar r.length kr)/\W.cell? ⟨w.heap.size,2,none⟩=some (.slice Aq q.length kq))) (by kernel_rfl) ?_ (fun hHeld=>?_)
 ·exact⟨((Aa.rfl' _).dr).cellE q0,((Aa.rfl' _).dr).cellE q1,((Aa.rfl' _).dr).cellE q2⟩
 refine ty 0 ?_;refine ty 1 ?_;refine ty 3 ?_;refine ty 4 ?_;refine ty 6 ?_;refine ty 7 ?_;refine Cu 2 rfl fun K hK=>?_;go_simp;refine(DL Av v.length kv v _ (Hv.out.ext (E0.out.dr)) (by omega)).mono ?_;rintro e w3 ⟨A1,c1,rfl,ho3,he3⟩;have E3:=lh ((E0.out.dr).tr he3);have O3:=lh (ho3.mono (B':=w.heap.size+2) (by simp));have hz3:w.heap.size+2<=w3.heap.size:=by have:=he3.size;simpa using this
 have B3:=lh ((B0.out.ext ((Aa.rfl' _).dr)).ext he3);have q03:=he3.cellE (((Aa.rfl' _).dr).cellE q0);have q13:=he3.cellE (((Aa.rfl' _).dr).cellE q1);have q23:=he3.cellE (((Aa.rfl' _).dr).cellE q2);clear ho3 he3 q0 q1 q2 B0;try go_wp2_with fail
 clear hHeld;refine hK.out _ _ (by exact⟨q03,q13,q23⟩) fun hHeld=>?_;clear hK K;try simp only[Act.put,pu]
 refine Cu 5 rfl fun K hK=>?_;go_simp;refine(Pi Ar kr r _ (Hr.out.ext E3.out)).mono ?_;rintro e w4 ⟨A2,c2,hs,rfl,ho4,he4⟩;have E4:=lh (E3.out.tr he4);have O4:=lh (O3.out.ext he4);have R4:=lh (Bn.mono ho4 (B':=w.heap.size+2) hz3);have D4:=lh (show ∀ b,AD A1=some b->¬ FR A2 hs b from fun b hb hb'=>by have h1:=(O3.out.lt hb).2;have h2:=(ho4.lt hb').1;omega);have B4:=lh (B3.out.ext he4);have hz4:=he4.size;have q04:=he4.cellE q03;have q14:=he4.cellE q13;have q24:=he4.cellE q23;clear ho4 he4 q03 q13 q23 B3;try go_wp2_with fail
 clear hHeld;refine hK.out _ _ (by exact⟨q04,q14,q24⟩) fun hHeld=>?_;clear hK K;try simp only[Act.put,pu]
 refine Cu 8 rfl fun K hK=>?_;go_simp;refine(DL Aq q.length kq q _ (Hq.out.ext E4.out) (by omega)).mono ?_;rintro e w5 ⟨A3,c3,rfl,ho5,he5⟩;have E5:=lh (E4.out.tr he5);have O5:=lh (O4.out.ext he5);have R5:=lh (Bn.ext R4.out he5);have Q5:=lh (ho5.mono (B':=w.heap.size+2) (by omega));have D5:=lh (show (∀ b,AD A1=some b->¬ FR A2 hs b/\AD A3≠some b)/\∀ b,AD A3=some b->¬ FR A2 hs b from ⟨fun b hb=>⟨D4.out b hb,fun e=>by have h1:=(O4.out.lt hb).2;have h2:=(ho5.lt e).1;omega⟩,fun b hb hf=>by have h1:=(Bn.lt R4.out hf).2;have h2:=(ho5.lt hb).1;omega⟩);have B5:=lh (B4.out.ext he5);have q05:=he5.cellE q04;have q15:=he5.cellE q14;have q25:=he5.cellE q24;have f0:=B5.out.free 0;have f1:=B5.out.free 1;have f2:=B5.out.free 2;have bl:=B5.out.lt;have x0:=B5.out.cell (j:=0) rfl;have x1:=B5.out.cell (j:=1) rfl;have x2:=B5.out.cell (j:=2) rfl;clear ho5 he5 q04 q14 q24 B4 O4 R4 D4;try go_wp2_with fail
 clear hHeld;refine hK.out _ _ (by exact⟨q05,q15,q25⟩) fun hHeld=>?_;clear hK K;try simp only[Act.put,pu]
 refine ty 9 ?_;refine Cu 10 rfl fun K hK=>?_;go_simp;clear hHeld;refine hK.out _ _ (by exact⟨(co).trans ((co).trans ((co).trans q05)),(co).trans ((co).trans ((co).trans q15)),(co).trans ((co).trans ((co).trans q25))⟩) fun hHeld=>?_;clear hK K;try simp only[Act.put]
 refine dn ?_;go_wp2;have hz:w.heap.size<=w.heap.size+1:=by omega
 have hS:=AH.set (F:=fun b=>b=w.heap.size+1) (AH.set (F:=fun b=>b=w.heap.size+1) (AH.set (F:=fun b=>b=w.heap.size+1) (AH.rfl' (fun b=>b=w.heap.size+1) w5) (p:=⟨w.heap.size+1,0,none⟩) (.inl rfl) (.slice A1 v.length c1)) (p:=⟨w.heap.size+1,1,none⟩) (.inl rfl) (.slice A2 r.length c2)) (p:=⟨w.heap.size+1,2,none⟩) (.inl rfl) (.slice A3 q.length c3);have s0:∀ u0 u1 u2:Value,World.cell? (World.setCell (World.setCell (World.setCell w5 ⟨w.heap.size+1,0,none⟩ u0) ⟨w.heap.size+1,1,none⟩ u1) ⟨w.heap.size+1,2,none⟩ u2) ⟨w.heap.size+1,0,none⟩=some u0:=fun u0 u1 u2=>(((B5.out.set 0 u0).set 1 u1).set 2 u2).cell (j:=0) rfl;have s1:∀ u0 u1 u2:Value,World.cell? (World.setCell (World.setCell (World.setCell w5 ⟨w.heap.size+1,0,none⟩ u0) ⟨w.heap.size+1,1,none⟩ u1) ⟨w.heap.size+1,2,none⟩ u2) ⟨w.heap.size+1,1,none⟩=some u1:=fun u0 u1 u2=>(((B5.out.set 0 u0).set 1 u1).set 2 u2).cell (j:=1) rfl;have s2:∀ u0 u1 u2:Value,World.cell? (World.setCell (World.setCell (World.setCell w5 ⟨w.heap.size+1,0,none⟩ u0) ⟨w.heap.size+1,1,none⟩ u1) ⟨w.heap.size+1,2,none⟩ u2) ⟨w.heap.size+1,2,none⟩=some u2:=fun u0 u1 u2=>(((B5.out.set 0 u0).set 1 u1).set 2 u2).cell (j:=2) rfl;refine bodyPost_ret (v := .agg #[.slice A1 v.length c1,.slice A2 r.length c2,.slice A3 q.length c3]) (by simp[results,Tryz.results76,go_sem,s0,s1,s2];try rfl) rfl ?_;exact⟨A1,c1,A2,c2,A3,c3,hs,rfl,⟨(O5.out.mod hS (fun b hb e=>by have:=(O5.out.lt hb).1;omega)).mono (by omega),Bn.mono (Bn.mod R5.out hS (fun b hb e=>by have:=(Bn.lt R5.out hb).1;omega)) (by omega),(Q5.out.mod hS (fun b hb e=>by have:=(Q5.out.lt hb).1;omega)).mono (by omega),D5.out.1,D5.out.2⟩,(((E5.out.set (p:=⟨w.heap.size+1,0,none⟩) hz _).set (p:=⟨w.heap.size+1,1,none⟩) hz _).set (p:=⟨w.heap.size+1,2,none⟩) hz _)⟩
open Go.RowKit
open Go.RowKit
def UZ (Bx By:Nat)(Ax Ay:Option Addr)(cx cy n:Nat)(X Y:List Int)(w:World):Prop :=
 w.cell? ⟨Bx,0,none⟩=some (.slice Ax n cx)/\w.cell? ⟨By,0,none⟩=some (.slice Ay n cy)/\Rd w 1 Ax n (Ah X)/\Rd w 1 Ay n (Ah Y)
theorem UZ.ext {Bx By:Nat}{Ax Ay:Option Addr}{cx cy n:Nat}{X Y:List Int}{w w':World}(h:UZ Bx By Ax Ay cx cy n X Y w)(e:Aa w w'):UZ Bx By Ax Ay cx cy n X Y w' :=
 ⟨e.cellE h.1,e.cellE h.2.1,h.2.2.1.ext e,h.2.2.2.ext e⟩
def V9 (Bg Bx By Br:Nat)(A Ax Ay Ar:Option Addr)(c cx cy cr:Nat)(g:Sg.Ae)(X Y:List Int)(w:World):Prop :=
 w.cell? ⟨Bg,0,none⟩=some (.slice A g.length c)/\UZ Bx By Ax Ay cx cy g.length X Y w/\w.cell? ⟨Br,0,none⟩=some (.slice Ar g.length cr)/\Eg w A g/\KO w Ar (Sg.Cm g X g.length)
theorem V9.ext {Bg Bx By Br:Nat}{A Ax Ay Ar:Option Addr}{c cx cy cr:Nat}{g:Sg.Ae}{X Y:List Int}{w w':World}(h:V9 Bg Bx By Br A Ax Ay Ar c cx cy cr g X Y w)(e:Aa w w'):V9 Bg Bx By Br A Ax Ay Ar c cx cy cr g X Y w' :=
 ⟨e.cellE h.1,h.2.1.ext e,e.cellE h.2.2.1,h.2.2.2.1.ext e,h.2.2.2.2.ext e⟩
structure Pn (p:Int->Bool) (l:List Int) (i j:Nat) (m:List Int):Prop where
 len:m.length=l.length
 lt:i<j
 le:j<=l.length
 got:m.take i=(l.take j).filter fun x=>!p x
 rest:m.drop j=l.drop j
theorem Pn.at_ {p:Int->Bool}{l m:List Int}{i j:Nat}(h:Pn p l i j m)(hj:j<l.length):∃ x,l[j]? = some x/\m[j]? = some x:=by
 have hm:j<m.length:=by rw[h.len];exact hj
 have hx:l[j]? = some l[j]:=List.getElem?_eq_getElem hj;refine⟨_,hx,?_⟩;have h1:=congrArg (fun t=>t[0]?) h.rest;simp only[List.getElem?_drop,Nat.add_zero] at h1;rw[h1];exact hx
theorem Pn.skip {p:Int->Bool}{l m:List Int}{i j:Nat}(h:Pn p l i j m){x:Int}(hx:l[j]? = some x)(hp:p x=true):Pn p l i (j+1) m:=by
 have hj:=(List.getElem?_eq_some_iff.1 hx).1;refine⟨h.len,by have:=h.lt;omega,hj,?_,?_⟩
 ·rw[CU l j hx,List.filter_append,h.got];simp[hp]
 ·have:=congrArg (List.drop 1) h.rest;simpa[List.drop_drop] using this
theorem Pn.keep {p:Int->Bool}{l m:List Int}{i j:Nat}(h:Pn p l i j m){x:Int}(hx:l[j]? = some x)(hp:p x=false):Pn p l (i+1) (j+1) (m.set i x):=by
 have hj:=(List.getElem?_eq_some_iff.1 hx).1;have hl:=h.lt;have hm:=h.len;refine⟨by simpa using h.len,by omega,hj,?_,?_⟩
 ·rw[CU l j hx,List.filter_append,<- h.got,CU (m.set i x) i (x:=x) (by rw[List.getElem?_set_self (by omega)])];rw[List.take_set_of_le (Nat.le_refl _)];simp[hp]
 ·rw[List.drop_set_of_lt (by omega)];have:=congrArg (List.drop 1) h.rest;simpa[List.drop_drop] using this
theorem AA.cut {w:World}{B e n c:Nat}{A:Option Addr}{xs:List Value}(h:AA w B e 1 A n c xs)(i:Nat)(hi:i<=n):AA w B e 1 A i c (xs.take i):=by
 have h1:=h.1;refine⟨by simp;omega,Nat.le_trans hi h.2.1,h.2.2.1,?_⟩;rcases h.2.2.2 with h2 | ⟨g,cur,ha,hb,hh,hc,ht⟩
 ·exact .inl h2
 ·refine .inr ⟨g,cur,ha,hb,hh,hc,?_⟩;rw[<- ht,List.take_take];congr 1
  omega
theorem AA.behind {B e g n c:Nat}{xs:List Value}(vs:List Value):∀ (w:World) (o:Nat),AA w B e 1 (some ⟨g,0,none⟩) n c xs->n<=o->AA (w.setCells g o vs) B e 1 (some ⟨g,0,none⟩) n c xs:=by
 induction vs with
 | nil=>intro w o h _;exact h
 | cons v vs ih =>
  intro w o h ho;have h1:=h.st o v;have hl:=h.1;rw[List.set_eq_of_length_le (by omega)] at h1;exact ih _ (o+1) h1 (by omega)
theorem AH.cells {F:Nat->Prop}{a:World}(g:Nat)(hg:F g)(vs:List Value):∀ (w:World) (o:Nat),AH F a w->AH F a (w.setCells g o vs):=by
 induction vs with
 | nil=>intro w o h;exact h
 | cons v vs ih=>intro w o h;exact ih _ (o+1) (h.set (.inl hg) v)
open Go.RowKit
set_option maxHeartbeats 1000000 in
theorem NS (A Ac:Option Addr)(c cc:Nat)(g:Sg.Ae)(l:List Int)(w:World)(h:Eg w A g)(hc:Rd w 1 Ac l.length (Ah l)) :
  Calls Tryz.prog 17 #[.agg #[.slice A g.length c],.slice Ac l.length cc] w fun e w'=>∃ A1 A2 hs,e= .returned (.agg #[.slice A1 (Dw g l).vals.length (Dw g l).vals.length,.slice A2 (Dw g l).reads.length (Dw g l).reads.length]) /\
   Jj w' w.heap.size A1 (Dw g l).vals.length A2 (Dw g l).reads.length hs (Dw g l)/\Aa w w':=by
 have e0:=((Aa.rfl' w).al (.cells #[.slice A g.length c] 35)).al (.cells #[.slice none 0 0,.slice none 0 0] 41);have HVC:=lh (F4 A Ac c cc g l);have q0:((w.alloc (.cells #[.slice A g.length c] 35)).alloc (.cells #[.slice none 0 0,.slice none 0 0] 41)).cell? ⟨w.heap.size,0,none⟩=some (.slice A g.length c):=by simp[go_sem]
 have r0:((w.alloc (.cells #[.slice A g.length c] 35)).alloc (.cells #[.slice none 0 0,.slice none 0 0] 41)).cell? ⟨w.heap.size+1,0,none⟩=some (.slice none 0 0):=by simp[go_sem]
 have r1:((w.alloc (.cells #[.slice A g.length c] 35)).alloc (.cells #[.slice none 0 0,.slice none 0 0] 41)).cell? ⟨w.heap.size+1,1,none⟩=some (.slice none 0 0):=by simp[go_sem]
 have rf:∀ j,((w.alloc (.cells #[.slice A g.length c] 35)).alloc (.cells #[.slice none 0 0,.slice none 0 0] 41)).frozen? ⟨w.heap.size+1,j,none⟩=false:=fun j=>by simp[go_sem]
 have HE:=lh e0;have H:=lh h;have Hc:=lh hc;have Q0:=lh q0;have R0:=lh r0;have R1:=lh r1;have RF:=lh rf;clear e0 h hc q0 r0 r1 rf;cases hV:(Sg.AG g && Sg.AT g l)
 ·have HV:=lh hV;have hS:Dw g l=⟨[],[]⟩:=by unfold Dw;rw[hV];rfl
  have HS:=lh hS;clear hV hS;go_enter Tryz.func17,Tryz.ntmps17;go_wp2_with (go_at_call 45;refine(HVC.out _ (H.out.ext HE.out) (Hc.out.ext HE.out)).mono ?_;rintro e w1 ⟨rfl,he1⟩;rw[HV.out];have t0:=he1.cellE R0.out;have t1:=he1.cellE R1.out;have tb:=Au t0;have tf0:=(he1.frozen (p:=⟨w.heap.size+1,0,none⟩) (by simp)).trans (RF.out 0);have tf1:=(he1.frozen (p:=⟨w.heap.size+1,1,none⟩) (by simp)).trans (RF.out 1))
  have g0:∀ u v:Value,((w1.setCell ⟨w.heap.size+1,0,none⟩ u).setCell ⟨w.heap.size+1,1,none⟩ v).cell? ⟨w.heap.size+1,0,none⟩=some u:=fun u v=>(co).trans (World.cell?_setCell_same _ _ _ t0);have g1:∀ u v:Value,((w1.setCell ⟨w.heap.size+1,0,none⟩ u).setCell ⟨w.heap.size+1,1,none⟩ v).cell? ⟨w.heap.size+1,1,none⟩=some v:=fun u v=>World.cell?_setCell_same _ _ _ (u := .slice none 0 0) ((co).trans t1);refine bodyPost_ret (v := .agg #[.slice none 0 0,.slice none 0 0]) (by simp[results,Tryz.results17,go_sem,g0,g1];try rfl) rfl ?_;rw[HS.out];exact⟨none,none,[],rfl,Jj.nil _ _,((HE.out.tr he1).set (by simp) _).set (by simp) _⟩
 ·have HV:=lh hV;have hS:Dw g l=Sg.BJ g l:=by unfold Dw;rw[hV];rfl
  have HS:=lh hS;simp only[Bool.and_eq_true] at hV;have HM:=lh (fun w h hc=>SM A Ac c cc g l w h hc hV.1 hV.2);clear hV hS;go_enter Tryz.func17,Tryz.ntmps17;go_wp2_with (go_at_call 45;refine(HVC.out _ (H.out.ext HE.out) (Hc.out.ext HE.out)).mono ?_;rintro e w1 ⟨rfl,he1⟩;rw[HV.out];have k0:=he1.cellE Q0.out;have t0:=he1.cellE R0.out;have t1:=he1.cellE R1.out;have tb:=Au t0;have tf0:=(he1.frozen (p:=⟨w.heap.size+1,0,none⟩) (by simp)).trans (RF.out 0);have tf1:=(he1.frozen (p:=⟨w.heap.size+1,1,none⟩) (by simp)).trans (RF.out 1))
  refine(HM.out _ (H.out.ext (HE.out.tr he1)) (Hc.out.ext (HE.out.tr he1))).mono ?_;rintro e w2 ⟨A1,A2,hs,rfl,ho1,ho2,hd,he2⟩;have s0:=he2.cellE t0;have s1:=he2.cellE t1;have sb:=Au s0;have sf0:=(he2.frozen (p:=⟨w.heap.size+1,0,none⟩) tb).trans tf0;have sf1:=(he2.frozen (p:=⟨w.heap.size+1,1,none⟩) tb).trans tf1;have Ho1:=lh ho1;have Ho2:=lh ho2;have Hd:=lh hd;have E2:=lh ((HE.out.tr he1).tr he2);clear ho1 ho2 hd he1 he2 k0 t0 t1 tf0 tf1;go_wp2;have g0:∀ u v:Value,((w2.setCell ⟨w.heap.size+1,0,none⟩ u).setCell ⟨w.heap.size+1,1,none⟩ v).cell? ⟨w.heap.size+1,0,none⟩=some u:=fun u v=>(co).trans (World.cell?_setCell_same _ _ _ s0);have g1:∀ u v:Value,((w2.setCell ⟨w.heap.size+1,0,none⟩ u).setCell ⟨w.heap.size+1,1,none⟩ v).cell? ⟨w.heap.size+1,1,none⟩=some v:=fun u v=>World.cell?_setCell_same _ _ _ (u := .slice none 0 0) ((co).trans s1);refine bodyPost_ret (v := .agg #[.slice A1 g.length g.length,.slice A2 g.length g.length]) (by simp[results,Tryz.results17,go_sem,g0,g1];try rfl) rfl ?_;rw[HS.out];have l1:(Sg.BJ g l).vals.length=g.length:=by simp[Sg.BJ]
  have l2:(Sg.BJ g l).reads.length=g.length:=by simp[Sg.BJ]
  have hn:∀ b,b<w1.heap.size->AD A1≠some b:=fun b hb e=>by have:=(Ho1.out.lt e).1;omega
  rw[l1,l2];refine⟨A1,A2,hs,rfl,⟨?_,?_,Hd.out⟩,(E2.out.set (by simp) _).set (by simp) _⟩
  ·rw[l1];exact((Ho1.out.set (p:=⟨w.heap.size+1,0,none⟩) (hn _ tb) _).set (p:=⟨w.heap.size+1,1,none⟩) (hn _ tb) _).mono (by omega)
  ·exact((Ho2.out.below (p:=⟨w.heap.size+1,0,none⟩) tb _).below (p:=⟨w.heap.size+1,1,none⟩) tb _).mono (by omega)
open Go.RowKit
def Xw (v:Value):Nat:=match v with | .slice _ n _=>n | _=>0
theorem GF.start {R m:Nat}{w:World}(h:Lf w R m):GF w.heap.size R m w 0 0 (some ⟨w.heap.size+1+1,0,none⟩) 0 (World.alloc (World.alloc (World.alloc (World.alloc w (.cells #[.slice none 0 0] 68)) (.cells #[.slice none 0 0] 68)) (.cells #[] 3)) (.cells #[.int .i64 3,.int .i64 4,.int .i64 5,.int .i64 6,.int .i64 2,.int .i64 1] 3)):=by
 have hR:=h.lt;have b0:=((Bx.new w #[.slice none 0 0] 68).al (.cells #[.slice none 0 0] 68)).al (.cells #[] 3) |>.al (.cells #[.int .i64 3,.int .i64 4,.int .i64 5,.int .i64 6,.int .i64 2,.int .i64 1] 3);have b1:=((Bx.new (World.alloc w (.cells #[.slice none 0 0] 68)) #[.slice none 0 0] 68).al (.cells #[] 3)).al (.cells #[.int .i64 3,.int .i64 4,.int .i64 5,.int .i64 6,.int .i64 2,.int .i64 1] 3);have o1:=(AA.new (World.alloc (World.alloc w (.cells #[.slice none 0 0] 68)) (.cells #[.slice none 0 0] 68)) (B:=w.heap.size+2) 3 1 #[] 0 (by simp) (by unfold maxLen;omega) rfl).al (.cells #[.int .i64 3,.int .i64 4,.int .i64 5,.int .i64 6,.int .i64 2,.int .i64 1] 3);simp only[World.size_alloc] at b1 o1;have e1:Aa w (World.alloc (World.alloc (World.alloc (World.alloc w (.cells #[.slice none 0 0] 68)) (.cells #[.slice none 0 0] 68)) (.cells #[] 3)) (.cells #[.int .i64 3,.int .i64 4,.int .i64 5,.int .i64 6,.int .i64 2,.int .i64 1] 3)):=((((Aa.rfl' w).al _).al _).al _).al _;exact⟨[],none,0,[],rfl,rfl,rfl,hR,b0,b1,AA.nil _ _ _ _,o1,by intro b hb;simp[AD] at hb,h.ext e1,AH.of e1⟩
end Go.Proofs.YthibllkleakiiaaGreatDoor
