/- Parts of one proof, joined. Small laws of lazy states: the empty state, states turned in place, short reads. Conditions: none. What writing and forgetting do to a lazy state: definitions and small laws. Conditions: none. -/
import Derived.Test.YtgojnefiephafaaGreatModLaz
import Derived.Test.YtgojnefiephafaaGreatLazE
import Derived.Test.YtgojnefiephafaaGreatLazTwo
namespace Go.Proofs.YtgojnefiephafaaGreat
open Go.RowKit
theorem OwnZ.nil (w:World) (B:Nat):OwnZ w B none 0 none 0 none 0 [] ⟨[],[],[]⟩ :=
 ⟨by simpa [ints] using Own.nil w B 3 1,⟨by simp [listIts],by simpa [dcells,listIts] using Own.nil w B 25 1,by simp [listIts],by simp,by simp⟩,by simpa [ints] using Own.nil w B 3 1,by simp [blk],by simp [blk]⟩
theorem RdLC.l {w:World} {A:Option Addr} {ll:List (List Int)} (h:RdLC w A ll):RdL w A ll :=
 ⟨h.1,fun i l hi=>let ⟨b,o,Al,cl,h1,h2,h3,h4,_⟩:=h.2 i l hi;⟨b,o,Al,cl,h1,h2,h3,h4⟩⟩
theorem OwnZ.turn {w w':World} {B gv gq c1 c2 c3:Nat} {A2:Option Addr} {hs:List (Option Addr × Nat)} {v q v' q':List Int} {r:List (List Int)} (h:OwnZ w B (some ⟨gv,0,none⟩) c1 A2 c2 (some ⟨gq,0,none⟩) c3 hs ⟨v,r,q⟩)
  (hv:Own w' B 3 1 (some ⟨gv,0,none⟩) v.length c1 (ints v')) (hq:Own w' B 3 1 (some ⟨gq,0,none⟩) q.length c3 (ints q')) (m:Mod (fun b=>b=gv∨b=gq) w w') (lv:v'.length=v.length) (lq:q'.length=q.length) :
  OwnZ w' B (some ⟨gv,0,none⟩) c1 A2 c2 (some ⟨gq,0,none⟩) c3 hs ⟨v',r,q'⟩ :=
 ⟨by show Own _ _ _ _ _ v'.length _ _;rw [lv];exact hv,OwnD.mod h.r m (fun b hb e=>by
  rcases e with rfl | rfl
  ·exact (h.d b rfl).1 hb
  ·exact h.e b rfl hb),by show Own _ _ _ _ _ q'.length _ _;rw [lq];exact hq,h.d,h.e⟩
theorem reads_small {g:Sg.Graph} {st:Sg.Lazy} (h:Sg.validL g st=true):∀ l ∈ st.reads,l.length≤10:=by
 intro l hl;obtain ⟨hs,hC⟩:=Sg.validL_iff.1 h;obtain ⟨i,hi⟩:=List.getElem?_of_mem hl;have hil:=(List.getElem?_eq_some_iff.1 hi).1;have hn:g[i]? = some g[i]:=List.getElem?_eq_getElem (by omega);have hd:st.reads.getD i []=l:=by simp [hi]
 have hA:=Sg.ahead_of h i;rw [hd] at hA;have h10:=Sg.validG_len10 hs.1;have hk:=hC i _ hn;by_cases h0:g[i].kind=0
 ·rw [← hd,(hk.cell h0).2];simp
 ·have hm:=(hk.may hs.1 hn h0).2;rw [hd] at hm;exact Nat.le_trans (nodup_len 10 l hm (fun x hx=>by have:=hA x hx;omega)) (by omega)
end Go.Proofs.YtgojnefiephafaaGreat
namespace Sg
end Sg
namespace Sg
end Sg
namespace Go.Proofs.YtgojnefiephafaaGreat
open Go.RowKit
end Go.Proofs.YtgojnefiephafaaGreat
