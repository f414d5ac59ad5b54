/- The program's MustRun: its function values. Conditions: the boxes can be read. -/
import Derived.Test.YtkbihkggneaeeaaImplS
namespace Go.Proofs.Ytkbihkggneaeeaa
open Go.RowKit

def XInv (Bx By : Nat) (Ax Ay : Option Addr) (cx cy n : Nat) (X Y : List Int) (w : World) : Prop :=
  w.cell? ⟨Bx, 0, none⟩ = some (.slice Ax n cx) ∧ w.cell? ⟨By, 0, none⟩ = some (.slice Ay n cy) ∧ Rd w 1 Ax n (ints X) ∧ Rd w 1 Ay n (ints Y)
theorem XInv.ext {Bx By : Nat} {Ax Ay : Option Addr} {cx cy n : Nat} {X Y : List Int} {w w' : World} (h : XInv Bx By Ax Ay cx cy n X Y w) (e : Ext w w') : XInv Bx By Ax Ay cx cy n X Y w' :=
  ⟨e.cellE h.1, e.cellE h.2.1, h.2.2.1.ext e, h.2.2.2.ext e⟩
def MInv (Bg Bx By Br : Nat) (A Ax Ay Ar : Option Addr) (c cx cy cr : Nat) (g : Sg.Graph) (X Y : List Int) (w : World) : Prop :=
  w.cell? ⟨Bg, 0, none⟩ = some (.slice A g.length c) ∧ XInv Bx By Ax Ay cx cy g.length X Y w ∧ w.cell? ⟨Br, 0, none⟩ = some (.slice Ar g.length cr) ∧ RdN w A g ∧ RdL w Ar (Sg.depsTo g X g.length)
theorem MInv.ext {Bg Bx By Br : Nat} {A Ax Ay Ar : Option Addr} {c cx cy cr : Nat} {g : Sg.Graph} {X Y : List Int} {w w' : World} (h : MInv Bg Bx By Br A Ax Ay Ar c cx cy cr g X Y w) (e : Ext w w') : MInv Bg Bx By Br A Ax Ay Ar c cx cy cr g X Y w' :=
  ⟨e.cellE h.1, h.2.1.ext e, e.cellE h.2.2.1, h.2.2.2.1.ext e, h.2.2.2.2.ext e⟩

end Go.Proofs.Ytkbihkggneaeeaa
