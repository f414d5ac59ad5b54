/- The reference's ParseFormula, in memory: its contract. Conditions: texts of at most 2^20 bytes. -/
import Derived.Test.YthibllkleakiiaaGreatDoorTxK
namespace Sg
theorem I7 (c:UInt8):∀ l:AR,((AB c l).map List.length).sum+(AB c l).length=l.length+1
 | []=>rfl
 | b :: r=>by
  have ih:=I7 c r;by_cases h:b=c
  ·rw[AB,if_pos h];simp only[List.map_cons,List.sum_cons,List.length_cons,List.length_nil];omega
  ·cases hr:AB c r with
   | nil=>exact absurd hr (Cv c r)
   | cons p t =>
    rw[Fz h hr];rw[hr] at ih;simp only[List.map_cons,List.sum_cons,List.length_cons] at ih ⊢;omega
theorem PL {l:List AR}{p:AR}(h:p ∈ l):p.length<=(l.map List.length).sum:=by
 induction l with
 | nil=>cases h
 | cons q t ih =>
  rw[List.map_cons,List.sum_cons];rcases List.mem_cons.1 h with rfl | h
  ·omega
  ·have:=ih h;omega
theorem VA {l:List AR}(h:∀ p ∈ l,p≠[]):l.length<=(l.map List.length).sum:=by
 induction l with
 | nil=>simp
 | cons q t ih =>
  rw[List.map_cons,List.sum_cons,List.length_cons];have h1:=ih fun p hp=>h p (by simp[hp]);have h2:=List.length_pos_iff.2 (h q (by simp));omega
def Eh (o:Option (List At)):List At × Bool:=match o with
 | none=>([],false)
 | some f=>(f,true)
end Sg
namespace Go.Proofs.YthibllkleakiiaaGreatDoor
open Go.RowKit
end Go.Proofs.YthibllkleakiiaaGreatDoor
