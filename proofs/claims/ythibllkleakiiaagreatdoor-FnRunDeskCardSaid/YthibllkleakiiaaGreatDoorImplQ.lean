/- The program's meaning, with its function value: contracts. Conditions: valid graphs and cells. -/
import Derived.Deep.DeepCutAuto
import Derived.Test.YthibllkleakiiaaGreatDoorImplPX
namespace Go.Proofs.YthibllkleakiiaaGreatDoor
open Go.RowKit
theorem QQ (B:Nat)(Av:Option Addr)(cv:Nat)(v:List Int)(L:Nat)(hB:B<L)(hA:0<v.length->∀ b,AE Av=some b->b<L)(hv:Sg.Bq v) :
  U_ Tryz.prog 88 [.pointer (some ⟨B,0,none⟩)] Unit (fun _=>XD B Av cv v) (fun _ n=>Sg.rd v n) (fun _ _=>()) (fun n=>0<=n/\n<v.length/\n<=9) L where
 ent:=GZ Tryz.func88 rfl (by kernel_rfl)
 call:=fun s F w n h hn=>by
  obtain⟨hb,hr,he⟩:=h;obtain⟨hn0,hn1,hn2⟩:=hn;obtain⟨k,rfl⟩:∃ k:Nat,n=k:=⟨n.toNat,by omega⟩;obtain⟨ba,oa,x,rfl,hx,hcx⟩:=hr.at1 (show k<v.length by omega);have Hx:=lh hx;have HI:=lh (And.intro hb (And.intro hr he));have hr0:=hr.big;clear hx hr he;go_enter Tryz.func88,Tryz.ntmps88;go_wp2;go_ret;refine⟨by simp[Sg.rd,Hx.out],F,⟨HI.out.1,HI.out.2.1,HI.out.2.2⟩,AF.rfl' _ _,fun b hb=>.inl hb⟩
 old:=fun s F w b h hb=>absurd hb (h.e b)
 md:=fun s F G w w' h hm h1 h2=>⟨hm.cellE h.b (h2 _ hB),h.r.mod0 hm (fun h0 b hb=>h2 b (hA (by omega) b hb)),h.e⟩
 ran:=fun s F w n h hn=>by
  have:n.toNat<v.length:=by omega
  have hm:=hv (v[n.toNat]) (List.getElem_mem this);simp only[Sg.rd,g_d,gg this,Option.getD_some];exact hm
theorem Us {a:List Int}(h:Sg.Bq a)(m:Nat):Sg.Bq (a++List.replicate m 0):=by
 intro x hx;rcases List.mem_append.1 hx with hx | hx
 ·exact h x hx
 ·have:=(List.mem_replicate.1 hx).2;omega
def MI (w0 w':World)(B n:Nat)(l2 l5 l6 l7:Bool)(bv br b6:Nat):Prop :=
 Aa w0 w'/\Ai (B:=B) (Ym l2 [Th.own B 3 1 (some ⟨bv,0,none⟩) n n (List.replicate n (.int .i64 0))]++(Ym l5 [Th.own B 36 1 (some ⟨br,0,none⟩) n n (List.replicate n (.slice none 0 0))]++Ym l6 [Th.box B b6 [cond l7 (.slice (some ⟨bv,0,none⟩) n n) (.slice none 0 0)]])) w'
section
variable {w0 w' w2:World} {B n bv br b6:Nat} {l2 l5 l6 l7:Bool}
theorem MI.ext (h:MI w0 w' B n l2 l5 l6 l7 bv br b6)(e:Aa w' w2):MI w0 w2 B n l2 l5 l6 l7 bv br b6:=⟨h.1.tr e,Ai.ext h.2 e⟩
theorem MI.mk2 {bx:Nat}(h:MI w0 w' B n false l5 l6 false bv br b6)(e:Aa w' w2)(ho:Au w2 B 3 1 (some ⟨bx,0,none⟩) n n (List.replicate n (.int .i64 0)))(hb:w'.heap.size<=bx):MI w0 w2 B n true l5 l6 false bx br b6 :=
 ⟨h.1.tr e,Ai.add h.2 e (Th.own B 3 1 (some ⟨bx,0,none⟩) n n (List.replicate n (.int .i64 0))) ho (fun b hb'=>by have e2:some bx=some b:=hb';injection e2;omega)⟩
theorem MI.mk5 {bx:Nat}(h:MI w0 w' B n l2 false l6 l7 bv br b6)(e:Aa w' w2)(ho:Au w2 B 36 1 (some ⟨bx,0,none⟩) n n (List.replicate n (.slice none 0 0)))(hb:w'.heap.size<=bx):MI w0 w2 B n l2 true l6 l7 bv bx b6 :=
 ⟨h.1.tr e,Ai.midP [Th.own B 36 1 (some ⟨bx,0,none⟩) n n (List.replicate n (.slice none 0 0))] _ _ (Ai.add h.2 e (Th.own B 36 1 (some ⟨bx,0,none⟩) n n (List.replicate n (.slice none 0 0))) ho (fun b hb'=>by have e2:some bx=some b:=hb';injection e2;omega))⟩
theorem MI.mk6 {bx:Nat}(h:MI w0 w' B n l2 l5 false false bv br b6)(e:Aa w' w2)(hx:Bx w2 bx [.slice none 0 0])(hB:B<=bx)(hb:w'.heap.size<=bx):MI w0 w2 B n l2 l5 true false bv br bx :=
 ⟨h.1.tr e,by
  have h1:=Ai.add h.2 e (Th.box B bx [.slice none 0 0]) ⟨hx,hB⟩ (fun b e2=>by have e3:b=bx:=e2;omega);cases l2 <;> cases l5
  ·exact h1
  ·exact Ai.perm h1 (List.Perm.swap _ _ _)
  ·exact Ai.perm h1 (List.Perm.swap _ _ _)
  ·exact Ai.perm h1 ((List.Perm.swap _ _ _).trans ((List.Perm.swap _ _ _).cons _))⟩
theorem MI.bx (h:MI w0 w' B n true l5 true false bv br b6):Bx w' b6 [.slice none 0 0]/\B<=b6:=by
 cases l5
 ·exact Ai.get h.2 1 rfl
 ·exact Ai.get h.2 2 rfl
theorem MI.st (h:MI w0 w' B n true l5 true false bv br b6)(h0:w0.heap.size<=B):MI w0 (w'.setCell ⟨b6,0,none⟩ (.slice (some ⟨bv,0,none⟩) n n)) B n true l5 true true bv br b6:=by
 have y:=h.bx;refine⟨h.1.set (p:=⟨b6,0,none⟩) (Nat.le_trans h0 y.2) _,?_⟩;cases l5
 ·exact Ai.st h.2 1 rfl ⟨b6,0,none⟩ (.slice (some ⟨bv,0,none⟩) n n) rfl (Th.box B b6 [.slice (some ⟨bv,0,none⟩) n n]) ⟨y.1.set 0 _,y.2⟩ (fun _ e=>e)
 ·exact Ai.st h.2 2 rfl ⟨b6,0,none⟩ (.slice (some ⟨bv,0,none⟩) n n) rfl (Th.box B b6 [.slice (some ⟨bv,0,none⟩) n n]) ⟨y.1.set 0 _,y.2⟩ (fun _ e=>e)
theorem MI.fin (h:MI w0 w' B n true true true true bv br b6):w'.cell? ⟨b6,0,none⟩=some (.slice (some ⟨bv,0,none⟩) n n)/\Au w' B 3 1 (some ⟨bv,0,none⟩) n n (List.replicate n (.int .i64 0))/\Au w' B 36 1 (some ⟨br,0,none⟩) n n (List.replicate n (.slice none 0 0))/\b6≠bv/\b6≠br/\bv≠br/\B<=b6/\B<=bv/\B<=br/\Aa w0 w':=by
 obtain⟨hE,h1,h2,h3,h4,h5,-⟩:=h;have h1':Au w' B 3 1 (some ⟨bv,0,none⟩) n n (List.replicate n (.int .i64 0)):=h1;have h3':Au w' B 36 1 (some ⟨br,0,none⟩) n n (List.replicate n (.slice none 0 0)):=h3;have h5':Bx w' b6 [.slice (some ⟨bv,0,none⟩) n n]/\B<=b6:=h5;refine⟨h5'.1.cell (j:=0) rfl,h1',h3',fun e=>h2 (Th.box B b6 [.slice (some ⟨bv,0,none⟩) n n]) (by simp[Ym]) bv rfl e.symm,fun e=>h4 (Th.box B b6 [.slice (some ⟨bv,0,none⟩) n n]) (by simp[Ym]) br rfl e.symm,fun e=>h2 (Th.own B 36 1 (some ⟨br,0,none⟩) n n (List.replicate n (.slice none 0 0))) (by simp[Ym]) bv rfl (by show some br=some bv;rw[e]),h5'.2,(h1'.lt rfl).1,(h3'.lt rfl).1,hE⟩
end
theorem Ot {P:Program}{ops:Array Oper}{o:Oper}{a:Act}{w:World}{K:Act->World->Prop}{Q:Exit->Act->World->Prop}{E0:Prop}{ts:Array Value}(hgd:o.guard=none){l c:Operand}{t:TypeId}(ho:o.op=Op.makeSlice t l c){e size bytes:Nat}{z:Value}(E:EI P t e size bytes z){B:Nat}{n:Nat}(hl:a.eval l= .int .i64 (n:Int))(hc:a.eval c= .int .i64 (n:Int))(hb:n<=1099511627776)(hbytes:bytes<=64)(hbase:B<=w.heap.size)(h:∀ (b:Nat) w',b=w.heap.size->Au w' B e size (some ⟨b,0,none⟩) n n (madeCells z.cells (n * size)).toList->Aa w w'->K (a.put o.dst (.slice (some ⟨b,0,none⟩) n n)) w') :
  if Region.wanted o (yielded ops ts)=true then Oper.wp P o a w K Q else E0:=by
 have hw:∀ y,Region.wanted o y=true:=fun y=>by simp[Region.wanted,hgd]
 have k:=Be (ops:=ops) (E0:=E0) (Q:=Q) hgd ho E hl hc hb hbytes hbase h;rw[if_pos (hw _)] at k ⊢;exact k
theorem VF {ops:Array Oper}{o:Oper}{ts:Array Value}{a:Act}{w:World}{K:Act->World->Prop}{Q:Exit->Act->World->Prop}{E0:Prop}(hgd:o.guard=none)(ho:o.op=Op.alloc 36)(h:∀ b w',b=w.heap.size->Bx w' b [.slice none 0 0]->Aa w w'->K (a.put o.dst (.pointer (some ⟨b,0,none⟩))) w'):if Region.wanted o (yielded ops ts)=true then Oper.wp Tryz.prog o a w K Q else E0:=by
 have hw:Region.wanted o (yielded ops ts)=true:=by simp[Region.wanted,hgd]
 rw[if_pos hw];obtain⟨dst,op,ty,pos,aft,gd⟩:=o;simp only at hgd ho;subst ho;go_simp;exact h _ _ rfl (by simpa using Bx.new w #[.slice none 0 0] 36) ((Aa.rfl' w).al _)
set_option maxRecDepth 100000 in
set_option maxHeartbeats 8000000 in
theorem Uh (A Ac:Option Addr)(c cc:Nat)(g:Sg.Ae)(l:List Int)(w:World)(h:Eg w A g)(hc:Rd w 1 Ac l.length (Ah l))(hG:Sg.AG g=true)(hC:Sg.AT g l=true) :
  Calls Tryz.prog 49 #[.agg #[.slice A g.length c],.slice Ac l.length cc] w fun e w'=>∃ A1 A2 hs,e= .returned (.tuple #[.slice A1 g.length g.length,.slice A2 g.length g.length]) /\
   Au w' w.heap.size 3 1 A1 g.length g.length (Ah (Sg.BF g l))/\CG w' w.heap.size A2 g.length (Sg.Cv g (Sg.BF g l) g.length) hs/\(∀ b,AE A1=some b->¬ Gi A2 hs b)/\Aa w w':=by
 have hgl:=h.1;have hll:=hc.big;have Hlen:=lh (Sg.Cu hC);have HSZ:=lh (Ef A g.length c);have q0:(World.drew (w.alloc (.cells #[.slice A g.length c] 35))).cell? ⟨w.heap.size,0,none⟩=some (.slice A g.length c):=by simp[go_sem]
 have E0:=lh ((Aa.rfl' w).al (.cells #[.slice A g.length c] 35));have H:=lh h;have Hc:=lh hc;have HG:=lh hG;have HC:=lh hC;clear h hc hG hC;go_enter Tryz.func49,Tryz.ntmps49;go_upto_region 1 with fail
 go_cut [6,7] (fun s6 s7 wx=>∃ b6 bv br:Nat,s6= .pointer (some ⟨b6,0,none⟩)/\s7= .slice (some ⟨br,0,none⟩) g.length g.length/\wx.cell? ⟨b6,0,none⟩=some (.slice (some ⟨bv,0,none⟩) g.length g.length) /\
  Au wx (w.heap.size+1) 3 1 (some ⟨bv,0,none⟩) g.length g.length (List.replicate g.length (.int .i64 0))/\Au wx (w.heap.size+1) 36 1 (some ⟨br,0,none⟩) g.length g.length (List.replicate g.length (.slice none 0 0)) /\
  b6≠bv/\b6≠br/\bv≠br/\w.heap.size+1<=b6/\w.heap.size+1<=bv/\w.heap.size+1<=br/\Aa (w.alloc (.cells #[.slice A g.length c] 35)) wx)
 case first =>
  obtain⟨w0,hw0⟩:∃ w0:World,w0=w.alloc (.cells #[.slice A g.length c] 35):=⟨_,rfl⟩;have q00:w0.cell? ⟨w.heap.size,0,none⟩=some (.slice A g.length c):=by rw[hw0];simp[go_sem]
  have hs0:w0.heap.size=w.heap.size+1:=by rw[hw0];simp
  rw[<- hw0];have HW0:=lh hw0;clear hw0 q0;refine YM (fun a0 L a' w'=>∃ (x10 x11 x12 x13 x14 x15 x6 x7:Value) (bv br b6:Nat),a'=((((((((a0.put (some 10) x10).put (some 11) x11).put (some 12) x12).put (some 13) x13).put (some 14) x14).put (some 15) x15).put (some 6) x6).put (some 7) x7)/\(L 0=true->x10= .agg #[.slice A g.length c])/\(L 3=true->x13= .agg #[.slice A g.length c])/\(L 1=true->x11= .int .i64 g.length)/\(L 4=true->x14= .int .i64 g.length)/\(L 2=true->x12= .slice (some ⟨bv,0,none⟩) g.length g.length)/\(L 5=true->x15= .slice (some ⟨br,0,none⟩) g.length g.length)/\(L 6=true->x6= .pointer (some ⟨b6,0,none⟩))/\(L 8=true->x7= .slice (some ⟨br,0,none⟩) g.length g.length)/\(L 7=true->L 2=true/\L 6=true)/\(L 8=true->L 5=true)/\MI w0 w' (w.heap.size+1) g.length (L 2) (L 5) (L 6) (L 7) bv br b6) ?_ ?_ ?_
  ·exact⟨undef,undef,undef,undef,undef,undef,undef,undef,0,0,0,rfl,(fun h=>by cases h),(fun h=>by cases h),(fun h=>by cases h),(fun h=>by cases h),(fun h=>by cases h),(fun h=>by cases h),(fun h=>by cases h),(fun h=>by cases h),(fun h=>by cases h),(fun h=>by cases h),xd,trivial⟩
  ·intro i o ho L a' w' hI hLi hdep K hK;obtain⟨x10,x11,x12,x13,x14,x15,x6,x7,bv,br,b6,rfl,h0,h3,h1,h4,h2,h5,h6,h8,h72,h85,hM⟩:=hI;have H0:=lh h0;have H1:=lh h1;have H2:=lh h2;have H3:=lh h3;have H4:=lh h4;have H5:=lh h5;have H6:=lh h6;have H8:=lh h8;have H72:=lh h72;have H85:=lh h85;have HM:=lh hM;have q:=hM.1.cellE q00;have hsz:=hM.1.size;rw[hs0] at hsz;have nn:=lh (show ∀ (x y:Nat),x≠y->∀ {p:Prop},(L x=true->p)->((L x || x == y)=true->p) from fun x y hxy p f h=>f (by simpa[hxy] using h));have HD:=lh hdep;have HL:=lh hLi;clear h0 h1 h2 h3 h4 h5 h6 h8 h72 h85 hM hdep hLi;rcases i with _ | _ | _ | _ | _ | _ | _ | _ | _ | i
   all_goals (simp only[List.getElem?_toArray,List.getElem?_cons_zero,List.getElem?_cons_succ,List.getElem?_nil,Option.some.injEq,reduceCtorEq] at ho)
   all_goals (try subst ho)
   ·simp only[Act.put,List.setIfInBounds_toArray,List.set_cons_zero,List.set_cons_succ];go_simp;exact hK.out _ _ ⟨(.agg #[.slice A g.length c]),x11,x12,x13,x14,x15,x6,x7,bv,br,b6,(by simp only[Act.put,List.setIfInBounds_toArray,List.set_cons_zero,List.set_cons_succ]),(fun _=>rfl),(nn.out 3 0 (by decide) H3.out),(nn.out 1 0 (by decide) H1.out),(nn.out 4 0 (by decide) H4.out),(nn.out 2 0 (by decide) H2.out),(nn.out 5 0 (by decide) H5.out),(nn.out 6 0 (by decide) H6.out),(nn.out 8 0 (by decide) H8.out),(fun h=>by have:=H72.out (by simpa using h);simp[this]),(fun h=>by have:=H85.out (by simpa using h);simp[this]),(by simpa using HM.out)⟩
   ·have d0:L 0=true:=HD.out ⟨0,.data⟩ (by simp) rfl;obtain rfl:=H0.out d0;simp only[Act.put,List.setIfInBounds_toArray,List.set_cons_zero,List.set_cons_succ];go_simp;refine(HSZ.out _).mono ?_;rintro e v ⟨rfl,hX⟩;try go_wp2_with fail
    exact hK.out _ _ ⟨(.agg #[.slice A g.length c]),(.int .i64 g.length),x12,x13,x14,x15,x6,x7,bv,br,b6,(by simp only[Act.put,List.setIfInBounds_toArray,List.set_cons_zero,List.set_cons_succ]),(fun _=>rfl),(nn.out 3 1 (by decide) H3.out),(fun _=>rfl),(nn.out 4 1 (by decide) H4.out),(nn.out 2 1 (by decide) H2.out),(nn.out 5 1 (by decide) H5.out),(nn.out 6 1 (by decide) H6.out),(nn.out 8 1 (by decide) H8.out),(fun h=>by have:=H72.out (by simpa using h);simp[this]),(fun h=>by have:=H85.out (by simpa using h);simp[this]),(by simpa using HM.out.ext hX)⟩
   ·have d1:L 1=true:=HD.out ⟨1,.data⟩ (by simp) rfl;obtain rfl:=H1.out d1
    have h7:L 7=false:=by
     cases h:L 7
     ·rfl
     ·exact absurd (H72.out h).1 (by rw[HL.out];decide)
    have hM:=HM.out;rw[HL.out,h7] at hM;have HM:=lh hM;clear hM;simp only[Act.put,List.setIfInBounds_toArray,List.set_cons_zero,List.set_cons_succ];refine Ot rfl rfl Bc (B:=w.heap.size+1) rfl rfl (by omega) (by omega) hsz ?_;intro bx v hzv ho2 hX;rw[Fj _ _ rfl] at ho2;exact hK.out _ _ ⟨x10,(.int .i64 g.length),(.slice (some ⟨bx,0,none⟩) g.length g.length),x13,x14,x15,x6,x7,bx,br,b6,(by simp only[Act.put,List.setIfInBounds_toArray,List.set_cons_zero,List.set_cons_succ]),(nn.out 0 2 (by decide) H0.out),(nn.out 3 2 (by decide) H3.out),(fun _=>rfl),(nn.out 4 2 (by decide) H4.out),(fun _=>rfl),(nn.out 5 2 (by decide) H5.out),(nn.out 6 2 (by decide) H6.out),(nn.out 8 2 (by decide) H8.out),(fun h=>by have:=H72.out (by simpa using h);simp[this]),(fun h=>by have:=H85.out (by simpa using h);simp[this]),(by simpa[h7] using HM.out.mk2 hX ho2 (by omega))⟩
   ·simp only[Act.put,List.setIfInBounds_toArray,List.set_cons_zero,List.set_cons_succ];go_simp;exact hK.out _ _ ⟨x10,x11,x12,(.agg #[.slice A g.length c]),x14,x15,x6,x7,bv,br,b6,(by simp only[Act.put,List.setIfInBounds_toArray,List.set_cons_zero,List.set_cons_succ]),(nn.out 0 3 (by decide) H0.out),(fun _=>rfl),(nn.out 1 3 (by decide) H1.out),(nn.out 4 3 (by decide) H4.out),(nn.out 2 3 (by decide) H2.out),(nn.out 5 3 (by decide) H5.out),(nn.out 6 3 (by decide) H6.out),(nn.out 8 3 (by decide) H8.out),(fun h=>by have:=H72.out (by simpa using h);simp[this]),(fun h=>by have:=H85.out (by simpa using h);simp[this]),(by simpa using HM.out)⟩
   ·have d3:L 3=true:=HD.out ⟨3,.data⟩ (by simp) rfl;obtain rfl:=H3.out d3;simp only[Act.put,List.setIfInBounds_toArray,List.set_cons_zero,List.set_cons_succ];go_simp;refine(HSZ.out _).mono ?_;rintro e v ⟨rfl,hX⟩;try go_wp2_with fail
    exact hK.out _ _ ⟨x10,x11,x12,(.agg #[.slice A g.length c]),(.int .i64 g.length),x15,x6,x7,bv,br,b6,(by simp only[Act.put,List.setIfInBounds_toArray,List.set_cons_zero,List.set_cons_succ]),(nn.out 0 4 (by decide) H0.out),(fun _=>rfl),(nn.out 1 4 (by decide) H1.out),(fun _=>rfl),(nn.out 2 4 (by decide) H2.out),(nn.out 5 4 (by decide) H5.out),(nn.out 6 4 (by decide) H6.out),(nn.out 8 4 (by decide) H8.out),(fun h=>by have:=H72.out (by simpa using h);simp[this]),(fun h=>by have:=H85.out (by simpa using h);simp[this]),(by simpa using HM.out.ext hX)⟩
   ·have d4:L 4=true:=HD.out ⟨4,.data⟩ (by simp) rfl;obtain rfl:=H4.out d4;have hM:=HM.out;rw[HL.out] at hM;have HM:=lh hM;clear hM;simp only[Act.put,List.setIfInBounds_toArray,List.set_cons_zero,List.set_cons_succ];refine Ot rfl rfl Da (B:=w.heap.size+1) rfl rfl (by omega) (by omega) hsz ?_;intro bx v hzv ho2 hX;rw[Fj _ _ rfl] at ho2;exact hK.out _ _ ⟨x10,x11,x12,x13,(.int .i64 g.length),(.slice (some ⟨bx,0,none⟩) g.length g.length),x6,x7,bv,bx,b6,(by simp only[Act.put,List.setIfInBounds_toArray,List.set_cons_zero,List.set_cons_succ]),(nn.out 0 5 (by decide) H0.out),(nn.out 3 5 (by decide) H3.out),(nn.out 1 5 (by decide) H1.out),(fun _=>rfl),(nn.out 2 5 (by decide) H2.out),(fun _=>rfl),(nn.out 6 5 (by decide) H6.out),(fun h=>by have:=H85.out (by simpa using h);rw[HL.out] at this;cases this),(fun h=>by have:=H72.out (by simpa using h);simp[this]),(fun h=>by have:=H85.out (by simpa using h);simp[this]),(by simpa using HM.out.mk5 hX ho2 (by omega))⟩
   ·have h7:L 7=false:=by
     cases h:L 7
     ·rfl
     ·exact absurd (H72.out h).2 (by rw[HL.out];decide)
    have hM:=HM.out;rw[HL.out,h7] at hM;have HM:=lh hM;clear hM;simp only[Act.put,List.setIfInBounds_toArray,List.set_cons_zero,List.set_cons_succ];refine VF rfl rfl ?_;intro bx v hzv hbx hX;exact hK.out _ _ ⟨x10,x11,x12,x13,x14,x15,(.pointer (some ⟨bx,0,none⟩)),x7,bv,br,bx,(by simp only[Act.put,List.setIfInBounds_toArray,List.set_cons_zero,List.set_cons_succ]),(nn.out 0 6 (by decide) H0.out),(nn.out 3 6 (by decide) H3.out),(nn.out 1 6 (by decide) H1.out),(nn.out 4 6 (by decide) H4.out),(nn.out 2 6 (by decide) H2.out),(nn.out 5 6 (by decide) H5.out),(fun _=>rfl),(nn.out 8 6 (by decide) H8.out),(fun h=>by have:=H72.out (by simpa using h);simp[this]),(fun h=>by have:=H85.out (by simpa using h);simp[this]),(by simpa[h7] using HM.out.mk6 hX hbx (by omega) (by omega))⟩
   ·have d2:L 2=true:=HD.out ⟨2,.data⟩ (by simp) rfl;have d6:L 6=true:=HD.out ⟨6,.data⟩ (by simp) rfl;obtain rfl:=H2.out d2;obtain rfl:=H6.out d6;have hM:=HM.out;rw[d2,d6,HL.out] at hM;have HM:=lh hM;have y:=hM.bx;have r9:=y.1.cell (j:=0) rfl;have f9:=y.1.free 0;have l9:=y.1.lt;clear y hM;simp only[Act.put,List.setIfInBounds_toArray,List.set_cons_zero,List.set_cons_succ];go_simp;exact hK.out _ _ ⟨x10,x11,(.slice (some ⟨bv,0,none⟩) g.length g.length),x13,x14,x15,(.pointer (some ⟨b6,0,none⟩)),x7,bv,br,b6,(by simp only[Act.put,List.setIfInBounds_toArray,List.set_cons_zero,List.set_cons_succ]),(nn.out 0 7 (by decide) H0.out),(nn.out 3 7 (by decide) H3.out),(nn.out 1 7 (by decide) H1.out),(nn.out 4 7 (by decide) H4.out),(fun _=>rfl),(nn.out 5 7 (by decide) H5.out),(fun _=>rfl),(nn.out 8 7 (by decide) H8.out),(fun _=>by simp[d2,d6]),(fun h=>by have:=H85.out (by simpa using h);simp[this]),(by simpa[d2,d6] using HM.out.st (by omega))⟩
   ·have d5:L 5=true:=HD.out ⟨5,.data⟩ (by simp) rfl;obtain rfl:=H5.out d5;simp only[Act.put,List.setIfInBounds_toArray,List.set_cons_zero,List.set_cons_succ];go_simp;exact hK.out _ _ ⟨x10,x11,x12,x13,x14,(.slice (some ⟨br,0,none⟩) g.length g.length),x6,(.slice (some ⟨br,0,none⟩) g.length g.length),bv,br,b6,(by simp only[Act.put,List.setIfInBounds_toArray,List.set_cons_zero,List.set_cons_succ]),(nn.out 0 8 (by decide) H0.out),(nn.out 3 8 (by decide) H3.out),(nn.out 1 8 (by decide) H1.out),(nn.out 4 8 (by decide) H4.out),(nn.out 2 8 (by decide) H2.out),(fun _=>rfl),(nn.out 6 8 (by decide) H6.out),(fun _=>rfl),(fun h=>by have:=H72.out (by simpa using h);simp[this]),(fun _=>by simp[d5]),(by simpa using HM.out)⟩
  ·intro a' w' hI;obtain⟨x10,x11,x12,x13,x14,x15,x6,x7,bv,br,b6,rfl,h0,h3,h1,h4,h2,h5,h6,h8,h72,h85,hM⟩:=hI;have hM2:MI w0 w' (w.heap.size+1) g.length true true true true bv br b6:=hM;obtain rfl:=h6 rfl;obtain rfl:=h8 rfl;have hF:=lh hM2.fin;clear h0 h3 h1 h4 h2 h5 h6 h8 h72 h85 hM hM2;simp only[Act.put,List.setIfInBounds_toArray,List.set_cons_zero,List.set_cons_succ];go_wp2_with fail
   go_meet
   rw[<- HW0.out];exact⟨b6,bv,br,rfl,rfl,hF.out⟩
 case rest =>
  obtain⟨b6,bv,br,rfl,rfl,hb6,hov,hor,d1,d2,d3,d4,d5,d6,ex⟩:=hcut;have hzv:=(hov.lt (g:=bv) rfl).2;have hzr:=(hor.lt (g:=br) rfl).2;have hz6:=AA hb6;have g0:=ex.cellE (show (w.alloc (.cells #[.slice A g.length c] 35)).cell? ⟨w.heap.size,0,none⟩=some (.slice A g.length c) by simp[go_sem]);have Hex:=lh ex;have Hov:=lh hov;have Hor:=lh hor;have d7:bv≠b6:=fun e=>d1 e.symm;have d8:br≠b6:=fun e=>d2 e.symm;have d9:br≠bv:=fun e=>d3 e.symm;clear hov hor ex;go_wp2
  go_loopw [19] (fun i wr=>∃ (k:Nat) (hs:List (Option Addr × Nat)),k<=g.length/\i= .int .i64 k/\hs.length=k/\Aa (w.alloc (.cells #[.slice A g.length c] 35)) wr/\wc.heap.size<=wr.heap.size/\wr.cell? ⟨b6,0,none⟩=some (.slice (some ⟨bv,0,none⟩) g.length g.length) /\
   Au wr (w.heap.size+1) 3 1 (some ⟨bv,0,none⟩) g.length g.length (Ah (Sg.AY g l k++List.replicate (g.length - k) 0)) /\
   Ey wr wc.heap.size 3 1 br (AK (Sg.Cv g (Sg.BF g l) g.length)) hs/\Au wr (w.heap.size+1) 36 1 (some ⟨br,0,none⟩) g.length g.length (A_ (AK (Sg.Cv g (Sg.BF g l) g.length)) hs++List.replicate (g.length - k) (.slice none 0 0))) (fun i _=>g.length - (intOf i).toNat)
  case atStart =>
   refine⟨0,[],Nat.zero_le _,rfl,rfl,Hex.out,Nat.le_refl _,hb6,?_,Ey.nil _ _ _ _ _ _,by rw[G_];exact Hor.out⟩;have:=Hov.out;simpa[Sg.AY,Ah] using this
  case round =>
   clear g0 hb6;obtain⟨k,hs,hk,rfl,hlen,he,hwz,hb6,hov,hinn,hor⟩:=hrel;have Hlen2:=lh hlen;have Ev:=lh (E0.out.tr he);have He:=lh he;have Hv:=lh hov;have Hr:=lh hor;have Hinn:=lh hinn;have hdl:=lh (show (A_ (AK (Sg.Cv g (Sg.BF g l) g.length)) hs).length=k by rw[JS (ET _) (by simp;omega),hlen,Nat.mul_one]);have hl6:=AA hb6;clear hlen he hov hor hinn;by_cases hlt:k<g.length
   ·obtain⟨⟨nk,nf⟩,b,o,Ap,cp,hn,rfl,hkc,hsc,hf,hfl⟩:=(H.out.ext Ev.out).at_ hlt;dsimp only at *;have hb1:=AA hkc;have hkl:k<l.length:=by have:=Hlen.out;omega
    obtain⟨bc,oc,x,rfl,hx,hxc0⟩:=Hc.out.at1 hkl;have hbc:=AA hxc0;have hxc:=Ev.out.cellE hxc0;have hb2:=AA hxc;have hrep:=lh (show List.replicate (g.length - k) (0:Int)=0 :: List.replicate (g.length - (k+1)) 0 by rw[show g.length - k=(g.length - (k+1))+1 from by omega,List.replicate_succ]);have hyv:(Ah (Sg.AY g l k++List.replicate (g.length - k) 0))[k]? = some (.int .i64 0):=by rw[hrep.out,CB,List.getElem?_append_right (by simp)];simp
    have hyr:(A_ (AK (Sg.Cv g (Sg.BF g l) g.length)) hs++List.replicate (g.length - k) (.slice none 0 0))[k]? = some (.slice none 0 0):=by rw[List.getElem?_append_right (by rw[hdl.out];exact Nat.le_refl _),hdl.out,Nat.sub_self,List.getElem?_replicate,if_pos (by omega)]
    have Hyv:=lh hyv;have Hyr:=lh hyr
    have hat:(AK (Sg.Cv g (Sg.BF g l) g.length))[hs.length]? = some ⟨[],(Sg.Cf g (Sg.BF g l) k).length,Ah (Sg.Cf g (Sg.BF g l) k)⟩:=by
     rw[Hlen2.out];exact DJ (by simp[Sg.Cv,hlt])
    have Hat:=lh hat;have cv0:=Hv.out.cell hyv;have cr0:=Hr.out.cell hyr;have fv0:=Hv.out.free k;have fr0:=Hr.out.free k;have hwv:=AA cv0;have hwr:=AA cr0;clear hyv hyr hat;have e9:=((Aa.rfl' wr).al (.cells #[.int .i64 nk,.slice Ap nf.length cp] 70)).dr;have m0:=e9.cellE hb6;by_cases hz:nk=0
    ·have z1:(nk == 0)=true:=by simp[hz]
     have hv:=lh (show Sg.AY g l (k+1)=Sg.AY g l k++[x] by simp only[Sg.AY];rw[MK hn hx hz]);have hd:=lh (MM (v:=Sg.BF g l) hn hz);have m1:=e9.cellE hxc;clear hn hx hz e9;go_wp2_with fail
     refine wp_region_held_drew (S:=(fun W=>W.cell? ⟨b6,0,none⟩=some (.slice (some ⟨bv,0,none⟩) g.length g.length)/\W.cell? ⟨bc,oc+k,none⟩=some (.int .i64 x))) (by kernel_rfl) ?_ (fun hHeld=>?_)
     ·exact⟨m0,m1⟩
     refine ty 0 ?_;refine ty 1 ?_;refine ty 2 ?_;refine ty 3 ?_;refine ty 4 ?_;refine ty 5 ?_;refine ty 6 ?_;refine DL 7 rfl fun K hK=>?_;go_simp;try simp only[pg]
     clear hHeld;refine hK.out _ _ (by exact⟨(Aa.dr (Aa.al xr _)).cellE ((co).trans hb6),(Aa.dr (Aa.al xr _)).cellE ((co).trans hxc)⟩) fun hHeld=>?_;clear hK K;try simp only[Act.put]
     refine dn ?_;go_wp2;go_roundw
     case rel =>
      have h1:=((Hv.out.st k (.int .i64 x)).al (.cells #[.int .i64 nk,.slice Ap nf.length cp] 70)).dr;rw[hrep.out,Qh _ _ k x 0 (by simp),<- hv.out] at h1;have hB:bv<wc.heap.size:=hzv;refine⟨k+1,hs++[(none,0)],by omega,by go_num,by simp[Hlen2.out],((He.out.set (p:=⟨bv,k,none⟩) (by simp;omega) _).al _).dr,by simp;omega,?_,h1,?_,?_⟩
      ·exact(Aa.dr (Aa.al xr _)).cellE ((co).trans hb6)
      ·refine(Hinn.out.below (p:=⟨bv,k,none⟩) hB (.int .i64 x)).snoc (Aa.dr (Aa.al xr _)) (by simp;omega) (by simp;omega) Hat.out ?_;rw[hd.out];exact Au.nil _ _ _ _
      ·have h2:=((Hr.out.set (p:=⟨bv,k,none⟩) (by simp[AE];omega) (.int .i64 x)).al (.cells #[.int .i64 nk,.slice Ap nf.length cp] 70)).dr;rw[Jq _ Hat.out,hd.out];have e:Nv ⟨[],([]:List Int).length,Ah []⟩ (none,0)=[.slice none 0 0]:=rfl;rw[e,List.append_assoc];rw[show List.replicate (g.length - k) (Value.slice none 0 0)=[.slice none 0 0]++List.replicate (g.length - (k+1)) (.slice none 0 0) by rw[show g.length - k=(g.length - (k+1))+1 from by omega,List.replicate_succ];rfl] at h2;exact h2
     case measure=>simp[intOf];omega
    ·have z1:(nk == 0)=false:=by simp[hz]
     have hok:=Sg.Bo HG.out k hn hz;have hran:=Us (Sg.Gq HG.out HC.out k hk) (g.length - k);have hvlen:(Sg.AY g l k++List.replicate (g.length - k) 0).length=g.length:=by simp;omega
     have hrv:=Sg.UL (cells:=l) HG.out hn hz (g.length - k);have hrd:=Sg.Mb (cells:=l) HG.out hn hz;have hv:=lh (show Sg.AY g l (k+1)=Sg.AY g l k++[(Sg.AJ nf (Sg.AY g l k)).1] by simp only[Sg.AY];rw[ML hn hz]);have hd:=lh (show Sg.Cf g (Sg.BF g l) k=(Sg.AJ nf (Sg.AY g l k)).2 by rw[IY hn hz];dsimp only at hrd;rw[hrd]);have m1:=(Aa.dr xr).cellE (show (wr.alloc (.cells #[.int .i64 nk,.slice Ap nf.length cp] 70)).cell? ⟨wr.heap.size,1,none⟩=some (.slice Ap nf.length cp) by simp[go_sem]);have C:=QQ b6 (some ⟨bv,0,none⟩) g.length (Sg.AY g l k++List.replicate (g.length - k) 0) (wr.heap.size+1) (by omega) (fun _ b hb=>by simp[AE] at hb;omega) hran
     have HR:=Td C (fun n hn=>⟨hn.1,hn.2.2⟩) Ap cp nf (Sr hok _ (by rw[hvlen];omega)) () (fun _=>False)
      (World.drew (wr.alloc (.cells #[.int .i64 nk,.slice Ap nf.length cp] 70))) (by simp)
      ⟨by rw[hvlen];exact m0,by rw[hvlen];exact(Hv.out.ext e9).rd,fun _ h=>h⟩ (hf.ext e9) (fun _ _ h=>h)
     rw[Sg.KT] at HR;dsimp only at HR hrv;rw[hrv] at HR
     have HR:Calls Tryz.prog 87 #[.agg #[.slice Ap nf.length cp],.func (.func 88) #[] #[.pointer (some ⟨b6,0,none⟩)]] (World.drew (wr.alloc (.cells #[.int .i64 nk,.slice Ap nf.length cp] 70))) fun e w' =>
       ∃ A',e= .returned (.tuple #[.int .i64 (Sg.AJ nf (Sg.AY g l k)).1,.slice A' (Sg.AJ nf (Sg.AY g l k)).2.length (Sg.AJ nf (Sg.AY g l k)).2.length])/\Au w' wr.heap.size 3 1 A' (Sg.AJ nf (Sg.AY g l k)).2.length (Sg.AJ nf (Sg.AY g l k)).2.length (Ah (Sg.AJ nf (Sg.AY g l k)).2) /\
        Aa (World.drew (wr.alloc (.cells #[.int .i64 nk,.slice Ap nf.length cp] 70))) w':=by
      refine HR.mono ?_;rintro e w1 ⟨A',F',rfl,ho,hi,hm,hF,hfo,hx0,hx1⟩;exact⟨A',rfl,ho.mono (by simp),hm.ext fun _=>id⟩
     have HR:=lh HR;obtain⟨rs,hrs⟩:∃ rs,rs=Sg.AJ nf (Sg.AY g l k):=⟨_,rfl⟩;rw[<- hrs] at HR hv hd;have H9:=lh e9;clear hn hx hz hok hran hvlen hrv hrd C hrs hf;go_wp2_with fail
     refine wp_region_held_drew (S:=(fun W=>W.cell? ⟨b6,0,none⟩=some (.slice (some ⟨bv,0,none⟩) g.length g.length)/\W.cell? ⟨wr.heap.size,1,none⟩=some (.slice Ap nf.length cp))) (by kernel_rfl) ?_ (fun hHeld=>?_)
     ·exact⟨m0,m1⟩
     refine ty 0 ?_;refine ty 1 ?_;refine ty 2 ?_;refine ty 3 ?_;refine ty 4 ?_;refine ty 5 ?_;refine ty 6 ?_;refine DL 7 rfl fun K hK=>?_;go_simp;refine HR.out.mono ?_;rintro e w2 ⟨A3,rfl,ho3,he3⟩;have hv2:=Hv.out.ext (e9.tr he3);have hr2:=Hr.out.ext (e9.tr he3);have Uk:=hv2.cell (Hyv.out);have f12:=hv2.free k;have YR:=hr2.cell (Hyr.out);have f14:=hr2.free k;have n0:=he3.cellE m0;have n1:=he3.cellE m1;have n2:=AA n0;have n3:=AA n1;have hb12:=AA Uk;have hb14:=AA YR;try go_wp2_with fail
     clear hHeld;refine hK.out _ _ (by exact⟨n0,n1⟩) fun hHeld=>?_;clear hK K;try simp only[Act.put,pu]
     refine ty 8 ?_;refine ty 9 ?_;refine ty 10 ?_;refine ty 11 ?_;refine DL 12 rfl fun K hK=>?_;go_simp;clear hHeld;refine hK.out _ _ (by exact⟨(co).trans n0,(co).trans n1⟩) fun hHeld=>?_;clear hK K;try simp only[Act.put]
     refine ty 13 ?_;refine DL 14 rfl fun K hK=>?_;go_simp;clear hHeld;refine hK.out _ _ (by exact⟨(co).trans ((co).trans n0),(co).trans ((co).trans n1)⟩) fun hHeld=>?_;clear hK K;try simp only[Act.put]
     refine dn ?_;go_wp2;go_roundw
     case rel =>
      have h1:=(hv2.st k (.int .i64 rs.1)).set (p:=⟨br,k,none⟩) (by simp[AE];omega) (.slice A3 rs.2.length rs.2.length);rw[hrep.out,Qh _ _ k rs.1 0 (by simp),<- hv.out] at h1;have hB:bv<wc.heap.size:=hzv;have e10:=e9.tr he3;refine⟨k+1,hs++[(A3,rs.2.length)],by omega,by go_num,by simp[Hlen2.out],((He.out.tr e10).set (p:=⟨bv,k,none⟩) (by simp;omega) _).set (p:=⟨br,k,none⟩) (by simp;omega) _,by have:=e10.size;simp;omega,?_,h1,?_,?_⟩
      ·exact(co).trans ((co).trans n0)
      ·refine((Hinn.out.snoc e10 hwz hwr Hat.out (c:=rs.2.length) ?_).below (p:=⟨bv,k,none⟩) hB _).st k _;rw[hd.out];exact ho3
      ·have h2:=((Hr.out.ext e10).set (p:=⟨bv,k,none⟩) (by simp[AE];omega) (.int .i64 rs.1)).st k (.slice A3 rs.2.length rs.2.length);rw[WY _ k g.length hdl.out hlt] at h2;rw[Jq _ Hat.out,hd.out];exact h2
     case measure=>simp[intOf];omega
   ·obtain rfl:k=g.length:=by omega
    go_wp2;go_ret2;have h1:=Hv.out;have h2:=Hr.out;rw[Nat.sub_self,List.replicate_zero,List.append_nil] at h1 h2;have h3:=(Hinn.out.mono (B':=w.heap.size+1) (by omega)).own (eo:=36) (so:=1) (c:=g.length) (by simp[Hlen2.out]) (by simpa using h2);refine⟨_,_,hs,rfl,h1.mono (by omega),Bj.mono h3 (by omega),?_,Ev.out⟩;intro b hb hf;simp[AE] at hb
    subst hb;rcases hf with hf | ⟨h,hh,hf⟩
    ·simp[AE] at hf;omega
    ·obtain⟨i,hi⟩:=List.getElem?_of_mem hh;obtain⟨it,_,ow⟩:=Hinn.out.at_ hi;have:=(ow.lt hf).1;omega
end Go.Proofs.YthibllkleakiiaaGreatDoor
