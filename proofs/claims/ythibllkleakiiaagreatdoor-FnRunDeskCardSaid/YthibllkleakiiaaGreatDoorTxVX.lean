/- Parts of one proof, joined. What the listed variables hold, as the walks want it, and more. Conditions: in the theorems. -/
import Derived.Test.YthibllkleakiiaaGreatDoorRows
import Derived.LaidMore
import Derived.Lib.LaidTab
import Derived.ChangeArms
import Derived.LaidLaws
import Derived.Shelf.Vars
import Derived.Test.YthibllkleakiiaaGreatDoorTxH
namespace Go.Proofs.YthibllkleakiiaaGreatDoor
open Go.ChangeShapes Go.WideShapes Go.ChangeAt Go.RowKit
theorem Jv {P:Program}{w:World}:∀ {l:List (String × DataW Unit)} {ps:List MemPlace},DataW.LaidVars P w l ps->∀ {n:String} {d:DataW Unit},(n,d) ∈ l ->
  ∃ g t cs fuel p,P.globalNamed n=some g/\(P.globals[g]?).map (·.type)=some t/\w.var? P n=some cs/\DataW.trod (fun _=>()) P w 0 (fun _=>true) false fuel t cs.toList=some (d,p)
 | [],_,_,_,_,hm=>by cases hm
 | (n,d) :: r,ps,h,n',d',hm=>by
  obtain⟨g,t,cs,fuel,p,q,h1,h2,h3,h4,h5,_⟩:=h
  rcases List.mem_cons.1 hm with e | hm
  ·injection e with e1 e2
   subst e1 e2
   exact⟨g,t,cs,fuel,p,h1,h2,h3,h4⟩
  ·exact Jv h5 hm
theorem MU:Tryz.prog.globalNamed "loop.example/signalgraph/impl.words"=some 0:=by kernel_rfl
theorem Y3:Tryz.prog.globalNamed "internal/strconv.uint64pow10"=some 4:=by kernel_rfl
theorem MV:(Tryz.prog.globals[0]?).map (·.type)=some 22:=by kernel_rfl
theorem Vr:Tryz.prog.cellsOf 9=1:=by kernel_rfl
theorem WB (k:Nat)(hk:k<7):∀ d:List (DataW Unit),d=[.lit (.string [97,100,100]),.lit (.string [115,117,98]),.lit (.string [109,117,108]),.lit (.string [109,105,110]),.lit (.string [109,97,120]),.lit (.string [108,101,115,115]),.lit (.string [105,102])]->d[k]? = some (.lit (.string (Sg.CM ((k:Int)+2)))):=by
 rintro d rfl
 have:k=0\/k=1\/k=2\/k=3\/k=4\/k=5\/k=6:=by omega
 rcases this with rfl | rfl | rfl | rfl | rfl | rfl | rfl <;> rfl
theorem Sv {l:List (String × DataW Unit)}{W:World}(h:laidMetH Tryz.prog l W)(hn:(l.all fun x=>x.2.handleName?.isNone)=true)(hw:("loop.example/signalgraph/impl.words",Rows.laid_loop_example_signalgraph_impl_words) ∈ l)(hp:("internal/strconv.uint64pow10",Rows.laid_internal_strconv_uint64pow10) ∈ l):Gl W:=by
 rw[MakeChecks.laidMetH_plain _ _ _ hn] at h
 obtain⟨ps,hL,_,_⟩:=h
 refine⟨?_,?_⟩
 ·obtain⟨g,t,cs,fuel,p,h1,h2,h3,h4⟩:=Jv hL hw
  obtain rfl:=Option.some.inj (MU.symm.trans h1)
  obtain rfl:=Option.some.inj (MV.symm.trans h2)
  obtain⟨a,cap,hcs,_,hel⟩:=open_row Tryz.underlying22 Vr h4
  obtain⟨v0,n0,q0,hc0,_⟩:=hel 0 _ rfl
  obtain⟨b,Nk,spot⟩:=a
  have hspot:spot=none:=by simpa[Addr.add] using World.cell?_spot hc0
  subst hspot
  refine⟨b,Nk,cap,?_,fun k hk=>?_⟩
  ·have:=World.var?_cell h1 h3 0
   rw[Array.eq_one_of_toList hcs] at this
   simpa using this
  ·obtain⟨v,n,q,hc,hr⟩:=hel k _ (WB k hk _ rfl)
   obtain⟨s,e1,e2,_⟩:=DataW.trod_string Tryz.underlying9 hr
   simp only[List.cons.injEq,and_true] at e1
   simp only[Prod.mk.injEq,DataW.lit.injEq,Lit.string.injEq] at e2
   subst e1
   rw[show ts (Sg.CM ((k:Int)+2))=s from K2 (by rw[Fm,e2.1])]
   by_cases hk0:k=0
   ·subst hk0
    simpa[Addr.add] using hc
   ·simpa[Addr.add,hk0] using hc
 ·obtain⟨g,t,cs,fuel,p,h1,h2,h3,h4⟩:=Jv hL hp
  have e:t=210:=by
   have e1:(Tryz.prog.globals[4]?).map (·.type)=some 210:=by kernel_rfl
   obtain rfl:=Option.some.inj (Y3.symm.trans h1)
   exact Option.some.inj (h2.symm.trans e1)
  subst e
  have e2:=Lib.cells_of_tab (k := .u64) (zs:=Lib.pow10Tab) Tryz.underlying210 Tryz.underlying190 (by kernel_rfl) (by kernel_rfl) h4
  unfold Lib.TabIs
  rw[h3,<- e2]
theorem ZH:Tryz.prog.globalNamed "strconv.ErrSyntax"=some 2:=by kernel_rfl
theorem ZI:Tryz.prog.globalNamed "strconv.ErrRange"=some 3:=by kernel_rfl
theorem ZJ:(Tryz.prog.globals[2]?).map (·.type)=some 55:=by kernel_rfl
theorem ZK:(Tryz.prog.globals[3]?).map (·.type)=some 55:=by kernel_rfl
theorem MY {l:List (String × DataW Unit)}{W:World}(h:laidMetH Tryz.prog l W)(hn:(l.all fun x=>x.2.handleName?.isNone)=true)(hw:("loop.example/signalgraph/impl.words",Rows.laid_loop_example_signalgraph_impl_words) ∈ l)(hp:("internal/strconv.uint64pow10",Rows.laid_internal_strconv_uint64pow10) ∈ l)(hs:("strconv.ErrSyntax",Rows.laid_strconv_ErrSyntax) ∈ l)(hr:("strconv.ErrRange",Rows.laid_strconv_ErrRange) ∈ l)(hsh:W.ShapedOpen Tryz.prog):Ge W:=by
 refine⟨Sv h hn hw hp,?_,?_,?_⟩
 ·exact cell_of_shapedOpen_int (zero:=#[.int .i64 0]) (t:=3) hsh (of_decide_eq_true (by kernel_rfl)) (by kernel_rfl) rfl (by kernel_rfl) (by kernel_rfl) Tryz.underlying3
 ·rw[MakeChecks.laidMetH_plain _ _ _ hn] at h
  obtain⟨ps,hL,_,_⟩:=h
  obtain⟨g,t,cs,fuel,p,h1,h2,h3,h4⟩:=Jv hL hs
  obtain rfl:=Option.some.inj (ZH.symm.trans h1)
  obtain rfl:=Option.some.inj (ZJ.symm.trans h2)
  obtain⟨_,u,v,hcs,_⟩:=iface_of_trod Tryz.underlying55 h4
  exact⟨u,v,by rw[h3,Array.eq_one_of_toList hcs]⟩
 ·rw[MakeChecks.laidMetH_plain _ _ _ hn] at h
  obtain⟨ps,hL,_,_⟩:=h
  obtain⟨g,t,cs,fuel,p,h1,h2,h3,h4⟩:=Jv hL hr
  obtain rfl:=Option.some.inj (ZI.symm.trans h1)
  obtain rfl:=Option.some.inj (ZK.symm.trans h2)
  obtain⟨_,u,v,hcs,_⟩:=iface_of_trod Tryz.underlying55 h4
  exact⟨u,v,by rw[h3,Array.eq_one_of_toList hcs]⟩
end Go.Proofs.YthibllkleakiiaaGreatDoor
