/- Parts of one proof, joined. The laws' sizes, copies and comparisons of lazy states: contracts. Conditions: bounds on lengths. FnExactValidLazy: the law's walk, given the contracts of both functions. Conditions: the arguments can be read. FnExactValidLazy: the law's walk with the contracts of both functions. Conditions: the arguments can be read. -/
import Derived.Test.YtgojnefiephafaaGreatFactsAll
import Derived.Test.YtgojnefiephafaaGreatImplVW
namespace Sg
end Sg
namespace Go.Proofs.YtgojnefiephafaaGreat
open Go.RowKit
structure OwnZ (w:World) (B:Nat) (A1:Option Addr) (c1:Nat) (A2:Option Addr) (c2:Nat) (A3:Option Addr) (c3:Nat) (hs:List (Option Addr × Nat)) (st:Sg.Lazy):Prop where
 v:Own w B 3 1 A1 st.vals.length c1 (ints st.vals)
 r:OwnL w B A2 c2 st.reads hs
 q:Own w B 3 1 A3 st.cols.length c3 (ints st.cols)
 d:∀ b,blk A1=some b→¬ fpD A2 hs b∧blk A3≠some b
 e:∀ b,blk A3=some b→¬ fpD A2 hs b
def fpZ (A1 A2 A3:Option Addr) (hs:List (Option Addr × Nat)) (b:Nat):Prop:=blk A1=some b∨fpD A2 hs b∨blk A3=some b
section
variable {w w':World} {B c1 c2 c3:Nat} {A1 A2 A3:Option Addr} {hs:List (Option Addr × Nat)} {st:Sg.Lazy}
theorem OwnZ.ext (k:OwnZ w B A1 c1 A2 c2 A3 c3 hs st) (e:Ext w w'):OwnZ w' B A1 c1 A2 c2 A3 c3 hs st:=⟨k.v.ext e,OwnD.ext k.r e,k.q.ext e,k.d,k.e⟩
theorem OwnZ.mono {B':Nat} (k:OwnZ w B A1 c1 A2 c2 A3 c3 hs st) (h:B'≤B):OwnZ w B' A1 c1 A2 c2 A3 c3 hs st:=⟨k.v.mono h,OwnD.mono k.r h,k.q.mono h,k.d,k.e⟩
theorem OwnZ.mod {F:Nat→Prop} (k:OwnZ w B A1 c1 A2 c2 A3 c3 hs st) (m:Mod F w w') (hF:∀ b,fpZ A1 A2 A3 hs b→¬ F b):OwnZ w' B A1 c1 A2 c2 A3 c3 hs st :=
 ⟨k.v.mod m fun b hb=>hF b (.inl hb),OwnD.mod k.r m fun b hb=>hF b (.inr (.inl hb)),k.q.mod m fun b hb=>hF b (.inr (.inr hb)),k.d,k.e⟩
theorem OwnZ.lt (k:OwnZ w B A1 c1 A2 c2 A3 c3 hs st) {b:Nat} (h:fpZ A1 A2 A3 hs b):B≤b∧b<w.heap.size:=by
 rcases h with h | h | h
 ·exact k.v.lt h
 ·exact OwnD.lt k.r h
 ·exact k.q.lt h
end
theorem OwnL.rdLC {w:World} {B c:Nat} {A:Option Addr} {ll:List (List Int)} {hs:List (Option Addr × Nat)} (k:OwnL w B A c ll hs) (hb:ll.length≤1048576) (hl:∀ l ∈ ll,l.length≤1048576):RdLC w A ll:=by
 refine ⟨hb,fun i l hi=>?_⟩;obtain ⟨h,hh,ho⟩:=OwnD.at_ k (listIts_at hi);have hil:=(List.getElem?_eq_some_iff.1 hi).1;have hout:=k.out;obtain ⟨g,rfl,_⟩:=hout.at_ (by simp;omega)
 have hc:=hout.cell (j:=i) (u := .slice h.1 l.length h.2) (by
  have:=at_dcells (listIts_pre ll) i 0 (by omega) (listIts_at hi) hh;rw [Nat.mul_one,Nat.add_zero] at this;rw [this];rfl)
 exact ⟨g,0,h.1,h.2,rfl,by simpa using hc,ho.rd,hl l (List.mem_of_getElem? hi),ho.2.1,ho.2.2.1⟩
end Go.Proofs.YtgojnefiephafaaGreat
namespace Go.Proofs.YtgojnefiephafaaGreat
open Go.RowKit
end Go.Proofs.YtgojnefiephafaaGreat
namespace Go.Proofs.YtgojnefiephafaaGreat
open Go.RowKit
end Go.Proofs.YtgojnefiephafaaGreat
