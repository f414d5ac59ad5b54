/- Parts of one proof, joined. The program's nodeValid, with its function value: contracts. Conditions: valid graphs, lists of one length. The program's ValidLazy: its contract. Conditions: bounds on lengths. -/
import Derived.Test.YtgojnefiephafaaGreatImplS
import Derived.Test.YtgojnefiephafaaGreatImplPX
import Derived.Test.YtgojnefiephafaaGreatSpecQRS
import Derived.Test.YtgojnefiephafaaGreatSepAll
namespace Go.Proofs.YtgojnefiephafaaGreat
open Go.RowKit
section
variable {g:Sg.Graph} {v q:List Int} {r:List (List Int)} {k:Nat} {nk x qk:Int} {nf:List Sg.Part} {l:List Int}
end
theorem Rd.take {w:World} {A:Option Addr} {n:Nat} {l:List Int} (h:Rd w 1 A n (ints l)) (j:Nat) (hj:j≤n):Rd w 1 A j (ints (l.take j)):=by
 have hl:=h.len;refine ⟨by simp;omega,Nat.le_trans hj h.2.1,fun hn=>?_⟩;obtain ⟨b,o,ha,hc⟩:=h.2.2 (by omega);refine ⟨b,o,ha,fun i u hu=>hc i u ?_⟩;rw [← ints_take,List.getElem?_take] at hu;split at hu
 ·exact hu
 ·cases hu
end Go.Proofs.YtgojnefiephafaaGreat
namespace Go.Proofs.YtgojnefiephafaaGreat
open Go.RowKit
end Go.Proofs.YtgojnefiephafaaGreat
