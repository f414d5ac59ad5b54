/- Parts of one proof, joined. Copies of states: contracts. Conditions: bounds on lengths. Cells of graphs, and lists of cells that can be written: contracts. Conditions: bounds on lengths. -/
import Derived.Test.YtgojnefiephafaaGreatSepAll
import Derived.Test.YtgojnefiephafaaGreatImplPX
import Derived.Test.YtgojnefiephafaaGreatFactsAll
import Derived.Test.YtgojnefiephafaaGreatSpecTO
import Derived.Deep.DeepCutAuto
namespace Go.Proofs.YtgojnefiephafaaGreat
open Go.RowKit
set_option maxHeartbeats 1000000 in
theorem s_copyLists (A:Option Addr) (c:Nat) (ll:List (List Int)) (w:World) (h:RdL w A ll) :
  Calls Tryz.prog 150 #[.slice A ll.length c] w fun e w'=>∃ A' c' hs,e = .returned (.slice A' ll.length c')∧OwnL w' w.heap.size A' c' ll hs∧Ext w w':=by
 have hb:=h.1;have H:=lh h;have O0:=lh (show OwnL (World.alloc w (.cells #[] 25)) w.heap.size (some ⟨w.heap.size,0,none⟩) 0 (ll.take 0) [] from ⟨by simp,by have:=Own.new w 25 1 #[] 0 (Nat.le_refl _) (by unfold maxLen;omega) rfl;simpa [dcells,listIts] using this,by simp [listIts],by simp,by simp⟩);have E0:=lh ((Ext.rfl' w).al (.cells #[] 25));clear h;go_enter Tryz.func150,Tryz.ntmps150;go_wp2_with fail
 go_loopw [3,4] (fun s i wr=>∃ (k:Nat) (A':Option Addr) (c':Nat) (hs:List (Option Addr × Nat)),k≤ll.length∧s = .slice A' k c'∧i = .int .i64 k∧Hid (OwnL wr w.heap.size A' c' (ll.take k) hs)∧Hid (Ext w wr)) (fun _ i _=>ll.length - (intOf i).toNat)
 case atStart=>exact ⟨0,_,_,[],Nat.zero_le _,rfl,rfl,O0,E0⟩
 case round =>
  clear O0 E0;obtain ⟨k,A',c',hs,hk,rfl,rfl,hO,hE⟩:=hrel;by_cases hlt:k<ll.length
  ·obtain ⟨l,b,o,Al,cl,hl,rfl,hc,hr,hll⟩:=(H.out.ext hE.out).at_ hlt;have hbw:=blt hc;have HC:=lh (fun w h=>s_copyInts Al l.length cl l w h (by omega));have Hl:=lh hl;have Hr:=lh hr;have hws:=hE.out.size;clear hl hr;go_wp2_with fail
   refine (HC.out _ Hr.out).mono ?_;rintro e w2 ⟨A2,c2,rfl,ho2,he2⟩;have Ho2:=lh ho2;have He2:=lh he2;have hw2:=he2.size;have hout:=lh (show Own w2 w.heap.size 25 1 A' k c' (dcells (listIts (ll.take k)) hs) from by have:=hO.out.out.ext he2;simpa [Nat.min_eq_left hk] using this);clear ho2 he2 hbw hc;go_wp2_with (at_builtin;refine wpList_app1 rfl rfl eiInts rfl hout.out rfl rfl (one_slice _ _ _) (by omega) (by omega) (by omega) ?_;intro A9 c9 w9 ho9 hg9 hat9;have Ho9:=lh ho9;have Hg9:=lh hg9;have Ha9:=lh hat9;clear ho9 hg9 hat9)
   go_roundw
   case rel =>
    have hits:listIts (ll.take (k + 1))=listIts (ll.take k)++[⟨[],l.length,ints l⟩]:=by
     have:=List.take_succ_eq_append_getElem hlt;obtain ⟨h1,h2⟩:=List.getElem?_eq_some_iff.1 Hl.out;rw [this,h2];simp [listIts]
    refine ⟨k + 1,A9,c9,hs++[(A2,c2)],by omega,by simp,by go_num,lh ?_,lh ((hE.out.tr He2.out).gr Hg9.out (fun b hb=>by have:=(hout.out.lt hb).1;omega))⟩;unfold OwnL;rw [hits];exact hO.out.snoc He2.out hws (it:=⟨[],l.length,ints l⟩) Ho2.out (by have:=Ho9.out;simpa [Nat.min_eq_left hk,itc] using this) Hg9.out Ha9.out
   case measure=>simp [intOf];omega
  ·obtain rfl:k=ll.length:=by omega
   have hfin:=hO.out;rw [List.take_length] at hfin;have Hfin:=lh hfin;clear hfin;go_wp2;go_ret;exact ⟨A',c',hs,rfl,Hfin.out,hE.out⟩
end Go.Proofs.YtgojnefiephafaaGreat
namespace Sg
theorem isCell_of {g:Graph} {k:Nat} {n:Node} (h:g[k]? = some n):isCell g (k:Int)=decide (n.kind=0):=by
 have hk:=(List.getElem?_eq_some_iff.1 h).1;unfold isCell inR kindAt;rw [Int.toNat_natCast];simp only [List.getD_eq_getElem?_getD,h,Option.getD_some];have h1:decide ((0:Int)≤(k:Int))=true:=by simp
 have h2:decide ((k:Int)≤(g.length:Int) - 1)=true:=by simp;omega
 rw [h1,h2];rfl
theorem isCell_no {g:Graph} {k:Int} (h:k<0∨(g.length:Int)≤k):isCell g k=false:=by
 unfold isCell;have:inR k 0 ((g.length:Int) - 1)=false:=by simp [inR];omega
 rw [this];rfl
theorem nodup_bound (n:Nat):∀ (l:List Int),l.Nodup→(∀ x ∈ l,0≤x∧x<(n:Int))→l.length≤n:=by
 induction n with
 | zero =>
  intro l _ h;cases l with
  | nil=>simp
  | cons x l=>have:=h x (by simp);omega
 | succ n ih =>
  intro l hn h;by_cases hm:(n:Int) ∈ l
  ·have h1:=ih (l.erase (n:Int)) (hn.erase _) (fun x hx=>by
    have hx2:=h x (List.mem_of_mem_erase hx)
    have hne:x≠(n:Int):=fun e=>by
     subst e;exact (List.Nodup.mem_erase_iff hn).1 hx |>.1 rfl
    omega)
   rw [List.length_erase_of_mem hm] at h1;omega
  ·have:=ih l hn (fun x hx=>by
    have hx2:=h x hx;have hne:x≠(n:Int):=fun e=>hm (e ▸ hx);omega)
   omega
theorem cellsDiffer_len {g:Graph} {nodes:List Int} (h:cellsDiffer g nodes=true):nodes.length≤g.length:=by
 refine nodup_bound _ _ (cellsDiffer_nodup h) fun x hx=>?_;obtain ⟨i,hi⟩:=List.getElem?_of_mem hx;obtain ⟨k,n,rfl,hn,_⟩:=isCell_at (cellsDiffer_at h hi).1;have:=(List.getElem?_eq_some_iff.1 hn).1;omega
end Sg
namespace Go.Proofs.YtgojnefiephafaaGreat
open Go.RowKit
theorem i_cellB (A:Option Addr) (c:Nat) (g:Sg.Graph) (k:Int) (w:World) (h:RdN w A g):Calls Tryz.prog 58 #[.agg #[.slice A g.length c],.int .i64 k] w fun e w'=>e = .returned (.bool (Sg.isCell g k))∧Ext w w':=by
 by_cases hk:k<0∨(g.length:Int)≤k
 ·rw [Sg.isCell_no hk];exact i_cell_no A c g k w h hk
 ·obtain ⟨j,rfl⟩:=Int.eq_ofNat_of_zero_le (show 0≤k by omega);obtain ⟨n,hn⟩:∃ n,g[j]? = some n:=⟨_,List.getElem?_eq_getElem (by omega)⟩;rw [Sg.isCell_of hn];exact i_cell A c g j n w h hn
set_option maxHeartbeats 1000000 in
theorem s_isCell (A:Option Addr) (c:Nat) (g:Sg.Graph) (k:Int) (w:World) (h:RdN w A g):Calls Tryz.prog 112 #[.agg #[.slice A g.length c],.int .i64 k] w fun e w'=>e = .returned (.bool (Sg.isCell g k))∧Ext w w':=by
 have hgl:=h.1;have e0:=(Ext.rfl' w).al (.cells #[.slice A g.length c] 33);have HE:=lh e0;have q0:(w.alloc (.cells #[.slice A g.length c] 33)).cell? ⟨w.heap.size,0,none⟩=some (.slice A g.length c):=by simp [go_sem]
 by_cases hk:k<0∨(g.length:Int)≤k
 ·have Hin:=lh (show Sg.inR k 0 ((g.length:Int) - 1)=false by simp [Sg.inR];omega);have HS:=lh (Sg.isCell_no (g:=g) hk);have HI:=lh (fun w=>s_inRange k 0 ((g.length:Int) - 1) w);have hw:IntKind.i64.wrap ((g.length:Int) - 1)=(g.length:Int) - 1:=IntWalk.i64_in _ (by omega);clear hk h e0;go_enter Tryz.func112,Tryz.ntmps112;go_wp2_with (go_at_call 111;refine (HI.out _).mono ?_;rintro e w1 ⟨rfl,rfl⟩;rw [Hin.out])
  go_ret;exact ⟨ret_bool HS.out.symm,HE.out⟩
 ·obtain ⟨j,rfl⟩:=Int.eq_ofNat_of_zero_le (show 0≤k by omega);have hj:j<g.length:=by omega
  obtain ⟨n,b,o,Ap,cp,hn,rfl,hkc,hs,hf,hfl⟩:=(h.ext e0).at_ hj;have Hin:=lh (show Sg.inR (j:Int) 0 ((g.length:Int) - 1)=true by simp [Sg.inR];omega);have HS:=lh (Sg.isCell_of hn);have HI:=lh (fun w=>s_inRange (j:Int) 0 ((g.length:Int) - 1) w);have hw:IntKind.i64.wrap ((g.length:Int) - 1)=(g.length:Int) - 1:=IntWalk.i64_in _ (by omega);have bk:=blt hkc;clear hk h e0 hn hs hf hfl;by_cases hz:n.kind=0
  ·have z:(n.kind == 0)=true:=by simp [hz]
   have Hz:=lh hz;clear hz;go_enter Tryz.func112,Tryz.ntmps112;go_wp2_with (go_at_call 111;refine (HI.out _).mono ?_;rintro e w1 ⟨rfl,rfl⟩;rw [Hin.out])
   go_ret;exact ⟨ret_bool (by rw [HS.out];simp [Hz.out]),HE.out⟩
  ·have z:(n.kind == 0)=false:=by simp [hz]
   have Hz:=lh hz;clear hz;go_enter Tryz.func112,Tryz.ntmps112;go_wp2_with (go_at_call 111;refine (HI.out _).mono ?_;rintro e w1 ⟨rfl,rfl⟩;rw [Hin.out])
   go_ret;exact ⟨ret_bool (by rw [HS.out];simp [Hz.out]),HE.out⟩
theorem Rd.front {w:World} {A:Option Addr} {n:Nat} {l:List Int} (h:Rd w 1 A n (ints l)) (i:Nat) (hi:i≤n):Rd w 1 A i (ints (l.take i)):=by
 have hl:=h.len;refine ⟨by simp;omega,by have:=h.2.1;omega,fun h0=>?_⟩;obtain ⟨b0,o0,ha,hc⟩:=h.2.2 (by omega);refine ⟨b0,o0,ha,fun j u hu=>hc j u ?_⟩;rw [ints_at] at hu ⊢;rw [List.getElem?_take] at hu;split at hu
 ·exact hu
 ·simp at hu
end Go.Proofs.YtgojnefiephafaaGreat
