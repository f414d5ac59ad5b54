/- Parts of one proof, joined. The reference's goodWrites: its contract. Conditions: bounds on lengths. The reference's writes: its contract. Conditions: a valid state, cells that can be written. The program's run of a node in an eager state: its contract. Conditions: formulas that can be run. The program's eager write: its contract. Conditions: a valid state, cells that can be written. Laws of the things beside a write's own. Conditions: none. -/
import Derived.Deep.QuietTactic
import Derived.BigQuiet
import Derived.Test.YtgojnefiephafaaGreatLwMod
namespace Sg
end Sg
namespace Go.Proofs.YtgojnefiephafaaGreat
open Go.RowKit
end Go.Proofs.YtgojnefiephafaaGreat
namespace Go.Proofs.YtgojnefiephafaaGreat
open Go.RowKit
end Go.Proofs.YtgojnefiephafaaGreat
namespace Go.Proofs.YtgojnefiephafaaGreat
open Go.RowKit
end Go.Proofs.YtgojnefiephafaaGreat
namespace Go.Proofs.YtgojnefiephafaaGreat
open Go.RowKit
end Go.Proofs.YtgojnefiephafaaGreat
namespace Go.Proofs.YtgojnefiephafaaGreat
open Go.RowKit
section
variable {B N N1 N2 cv cr ec nc cc cd:Nat} {k0 k1 k2 xs:List Value} {Av Ar Ac Ad:Option Addr} {v rn:List Int} {r:List (List Int)} {hs:List (Option Addr × Nat)} {W:World} {ts:List (Th B)}
theorem Rd.lt1 {w:World} {A:Option Addr} {n:Nat} {l:List Int} (h:Rd w 1 A n (ints l)) (hn:0<n) {b:Nat} (hb:blk A=some b):b<w.heap.size:=by
 obtain ⟨b',o,x,rfl,_,hc⟩:=h.at1 hn;have:b'=b:=by simpa [blk] using hb
 subst this;exact blt hc
end
end Go.Proofs.YtgojnefiephafaaGreat
