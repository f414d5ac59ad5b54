/- The reference's ParseFormula, in memory: its contract. Conditions: texts of at most 2^20 bytes. -/
import Derived.Test.YthibllkleakiiaaGreatDoorTxK
namespace Sg
theorem Jy (c:UInt8):∀ l:AO,((AC c l).map List.length).sum+(AC c l).length=l.length+1
 | []=>rfl
 | b :: r=>by
  have ih:=Jy c r;by_cases h:b=c
  ·rw[AC,if_pos h];simp only[List.map_cons,List.sum_cons,List.length_cons,List.length_nil];omega
  ·cases hr:AC c r with
   | nil=>exact absurd hr (CC c r)
   | cons p t =>
    rw[FU h hr];rw[hr] at ih;simp only[List.map_cons,List.sum_cons,List.length_cons] at ih ⊢;omega
theorem QX {l:List AO}{p:AO}(h:p ∈ l):p.length<=(l.map List.length).sum:=by
 induction l with
 | nil=>cases h
 | cons q t ih =>
  rw[List.map_cons,List.sum_cons];rcases List.mem_cons.1 h with rfl | h
  ·omega
  ·have:=ih h;omega
theorem Xb {l:List AO}(h:∀ p ∈ l,p≠[]):l.length<=(l.map List.length).sum:=by
 induction l with
 | nil=>simp
 | cons q t ih =>
  rw[List.map_cons,List.sum_cons,List.length_cons];have h1:=ih fun p hp=>h p (by simp[hp]);have h2:=List.length_pos_iff.2 (h q (by simp));omega
def Ep (o:Option (List At)):List At × Bool:=match o with
 | none=>([],false)
 | some f=>(f,true)
end Sg
namespace Go.Proofs.YthibllkleakiiaaGreatDoor
open Go.RowKit
end Go.Proofs.YthibllkleakiiaaGreatDoor
