/- The program's meaning, with its function value: contracts. Conditions: valid graphs and cells. -/
import Derived.Deep.DeepCutAuto
import Derived.Test.YthibllkleakiiaaGreatDoorImplA1
namespace Go.Proofs.YthibllkleakiiaaGreatDoor
open Go.RowKit
theorem PE (B:Nat)(Av:Option Addr)(cv:Nat)(v:List Int)(L:Nat)(hB:B<L)(hA:0<v.length->∀ b,AD Av=some b->b<L)(hv:Sg.Bk v) :
  TP Tryz.prog 88 [.pointer (some ⟨B,0,none⟩)] Unit (fun _=>V8 B Av cv v) (fun _ n=>Sg.rd v n) (fun _ _=>()) (fun n=>0<=n/\n<v.length/\n<=9) L where
 ent:=GC Tryz.func88 rfl (by kernel_rfl)
 call:=fun s F w n h hn=>by
  obtain⟨hb,hr,he⟩:=h;obtain⟨hn0,hn1,hn2⟩:=hn;obtain⟨k,rfl⟩:∃ k:Nat,n=k:=⟨n.toNat,by omega⟩;obtain⟨ba,oa,x,rfl,hx,hcx⟩:=hr.at1 (show k<v.length by omega);have Hx:=lh hx;have HI:=lh (And.intro hb (And.intro hr he));have hr0:=hr.big;clear hx hr he;go_enter Tryz.func88,Tryz.ntmps88;go_wp2;go_ret;refine⟨by simp[Sg.rd,Hx.out],F,⟨HI.out.1,HI.out.2.1,HI.out.2.2⟩,AH.rfl' _ _,fun b hb=>.inl hb⟩
 old:=fun s F w b h hb=>absurd hb (h.e b)
 md:=fun s F G w w' h hm h1 h2=>⟨hm.cellE h.b (h2 _ hB),h.r.mod0 hm (fun h0 b hb=>h2 b (hA (by omega) b hb)),h.e⟩
 ran:=fun s F w n h hn=>by
  have:n.toNat<v.length:=by omega
  have hm:=hv (v[n.toNat]) (List.getElem_mem this);simp only[Sg.rd,List.getD_eq_getElem?_getD,List.getElem?_eq_getElem this,Option.getD_some];exact hm
theorem CQ {ops:Array Oper}{o:Oper}{a:Act}{w:World}{K:Act->World->Prop}{Q:Exit->Act->World->Prop}{E0:Prop}(hgd:o.guard=none)(ho:o.op=Op.alloc 36)(h:∀ b w',b=w.heap.size->w'.cell? ⟨b,0,none⟩=some (.slice none 0 0)->w'.frozen? ⟨b,0,none⟩=false->Aa w w'->w.heap.size+1<=w'.heap.size->K (a.put o.dst (.pointer (some ⟨b,0,none⟩))) w') :
  if Region.wanted o (yielded ops a.tmps)=true then Oper.wp Tryz.prog o a w K Q else E0:=by
 have hw:Region.wanted o (yielded ops a.tmps)=true:=by simp[Region.wanted,hgd]
 rw[if_pos hw];obtain⟨dst,op,ty,pos,aft,gd⟩:=o;simp only at hgd ho;subst ho;go_simp;exact h _ _ rfl (by simp[go_sem]) (by simp[go_sem]) ((Aa.rfl' w).al _) (by simp)
theorem Ta {a:List Int}(h:Sg.Bk a)(m:Nat):Sg.Bk (a++List.replicate m 0):=by
 intro x hx;rcases List.mem_append.1 hx with hx | hx
 ·exact h x hx
 ·have:=(List.mem_replicate.1 hx).2;omega
set_option maxRecDepth 100000 in
set_option maxHeartbeats 8000000 in
theorem SM (A Ac:Option Addr)(c cc:Nat)(g:Sg.Ae)(l:List Int)(w:World)(h:Eg w A g)(hc:Rd w 1 Ac l.length (Ah l))(hG:Sg.AG g=true)(hC:Sg.AT g l=true) :
  Calls Tryz.prog 49 #[.agg #[.slice A g.length c],.slice Ac l.length cc] w fun e w'=>∃ A1 A2 hs,e= .returned (.tuple #[.slice A1 g.length g.length,.slice A2 g.length g.length]) /\
   AA w' w.heap.size 3 1 A1 g.length g.length (Ah (Sg.Bz g l))/\Cy w' w.heap.size A2 g.length (Sg.Cm g (Sg.Bz g l) g.length) hs/\(∀ b,AD A1=some b->¬ FR A2 hs b)/\Aa w w':=by
 have hgl:=h.1;have hll:=hc.big;have Hlen:=lh (Sg.CH hC);have HSZ:=lh (DZ A g.length c);have q0:(World.drew (w.alloc (.cells #[.slice A g.length c] 35))).cell? ⟨w.heap.size,0,none⟩=some (.slice A g.length c):=by simp[go_sem]
 have E0:=lh ((Aa.rfl' w).al (.cells #[.slice A g.length c] 35));have H:=lh h;have Hc:=lh hc;have HG:=lh hG;have HC:=lh hC;clear h hc hG hC;go_enter Tryz.func49,Tryz.ntmps49;go_upto_region 1 with fail
 go_cut [6,7] (fun s6 s7 wx=>∃ b6 bv br:Nat,s6= .pointer (some ⟨b6,0,none⟩)/\s7= .slice (some ⟨br,0,none⟩) g.length g.length/\wx.cell? ⟨b6,0,none⟩=some (.slice (some ⟨bv,0,none⟩) g.length g.length) /\
  AA wx (w.heap.size+1) 3 1 (some ⟨bv,0,none⟩) g.length g.length (List.replicate g.length (.int .i64 0))/\AA wx (w.heap.size+1) 36 1 (some ⟨br,0,none⟩) g.length g.length (List.replicate g.length (.slice none 0 0)) /\
  b6≠bv/\b6≠br/\bv≠br/\w.heap.size+1<=b6/\w.heap.size+1<=bv/\w.heap.size+1<=br/\Aa (w.alloc (.cells #[.slice A g.length c] 35)) wx)
 case first =>
  refine wp_region_held_drew (S:=(fun W=>W.cell? ⟨w.heap.size,0,none⟩=some (.slice A g.length c))) (by kernel_rfl) ?_ (fun hHeld=>?_)
  ·exact q0
  refine ty 0 ?_;refine ty 3 ?_;refine wpAnyH_ready (rs:=[1,6]) (by kernel_rfl) (by simp) ?_;refine AllReadyH.cons rfl (fun K hK=>?_) ?_
  ·go_simp;refine(HSZ.out _).mono ?_;rintro e wa1 ⟨rfl,hX1⟩;try go_wp2_with fail
   clear hHeld;refine hK.out _ _ (by exact(hX1).cellE q0) fun hHeld=>?_;clear hK K;try simp only[Act.put,pu]
   refine wpAnyH_ready (rs:=[2,4,6]) (by kernel_rfl) (by simp) ?_;refine AllReadyH.cons rfl (fun K hK=>?_) ?_
   ·refine AC rfl rfl Bc (B:=w.heap.size+1) rfl rfl (by omega) (by omega) (by have:=(hX1).size;simp only[World.size_alloc,World.size_drew] at this ⊢;omega) ?_;intro bv wa2 hzv ho2 hX2;have Hzv:=lh hzv;clear hzv;try simp only[pg]
    clear hHeld;refine hK.out _ _ (by exact((hX1.tr hX2)).cellE q0) fun hHeld=>?_;clear hK K;try simp only[Act.put,pu]
    refine wpAnyH_ready (rs:=[4,6]) (by kernel_rfl) (by simp) ?_;refine AllReadyH.cons rfl (fun K hK=>?_) ?_
    ·go_simp;refine(HSZ.out _).mono ?_;rintro e wa3 ⟨rfl,hX3⟩;try go_wp2_with fail
     clear hHeld;refine hK.out _ _ (by exact(((hX1.tr hX2).tr hX3)).cellE q0) fun hHeld=>?_;clear hK K;try simp only[Act.put,pu]
     refine wpAnyH_ready (rs:=[5,6]) (by kernel_rfl) (by simp) ?_;refine AllReadyH.cons rfl (fun K hK=>?_) ?_
     ·refine AC rfl rfl Bq (B:=w.heap.size+1) rfl rfl (by omega) (by omega) (by have:=(((hX1.tr hX2).tr hX3)).size;simp only[World.size_alloc,World.size_drew] at this ⊢;omega) ?_;intro br wa4 hzr ho4 hX4;have Hzr:=lh hzr;clear hzr;try simp only[pg]
      clear hHeld;refine hK.out _ _ (by exact((((hX1.tr hX2).tr hX3).tr hX4)).cellE q0) fun hHeld=>?_;clear hK K;try simp only[Act.put,pu]
      refine Cu 6 rfl fun K hK=>?_;refine CQ rfl rfl ?_;intro b6 wa5 hz6 hc6 hf6 hX5 hs6;have h6:w.heap.size+1<=b6:=by have:=((((hX1.tr hX2).tr hX3).tr hX4)).size;simp only[World.size_alloc,World.size_drew] at this hz6;omega
      have Hz6:=lh hz6;clear hz6;try simp only[pg]
      clear hHeld;refine hK.out _ _ (by exact(((((hX1.tr hX2).tr hX3).tr hX4).tr hX5)).cellE q0) fun hHeld=>?_;clear hK K;try simp only[Act.put,pu]
      refine Cu 7 rfl fun K hK=>?_;have hl6:=Au hc6;have sz0:=(hX1).size;have sz1:=(hX2).size;have sz2:=(hX3).size;have sz3:=(hX4).size;have sz4:=(hX5).size;have sv:=(ho2.lt (g:=bv) rfl).2;have sr:=(ho4.lt (g:=br) rfl).2;have hz6:=Hz6.out;have hzv:=Hzv.out;have hzr:=Hzr.out;try simp only[World.size_alloc,World.size_drew] at sz0 sz1 sz2 sz3 sz4 sv hzv sr hzr hz6
      have HVS:=lh ((ho2.ext (((hX3.tr hX4).tr hX5))).set (p:=⟨b6,0,none⟩) (by simp[AD];omega) (.slice (some ⟨bv,0,none⟩) g.length g.length));have HRS:=lh ((ho4.ext (hX5)).set (p:=⟨b6,0,none⟩) (by simp[AD];omega) (.slice (some ⟨bv,0,none⟩) g.length g.length));have E0S:=lh (Aa.set (((((hX1.tr hX2).tr hX3).tr hX4).tr hX5)) (p:=⟨b6,0,none⟩) (by simp;omega) (.slice (some ⟨bv,0,none⟩) g.length g.length));have hc6:=World.cell?_setCell_same wa5 _ (.slice (some ⟨bv,0,none⟩) g.length g.length) hc6;have nvb:bv≠b6:=by omega
      have nrb:br≠b6:=by omega
      have nvr:bv≠br:=by omega
      have gv:w.heap.size+1<=bv:=(ho2.lt (g:=bv) rfl).1;clear sz0 sz1 sz2 sz3 sz4 sv hzv sr hzr hz6;go_simp;try simp only[pg]
      clear hHeld;refine hK.out _ _ (by exact(E0S.out).cellE q0) fun hHeld=>?_;clear hK K;try simp only[Act.put]
      refine ty 8 ?_;refine dn ?_;go_wp2_with fail
      have gr:w.heap.size+1<=br:=(HRS.out.lt (g:=br) rfl).1;go_meet
      refine⟨b6,bv,br,rfl,rfl,hc6,?_,?_,by omega,by omega,by omega,by omega,by omega,by omega,((Aa.rfl' _).dr).tr E0S.out⟩
      ·have:=HVS.out;rw[AJ _ _ rfl] at this;exact this
      ·have:=HRS.out;rw[AJ _ _ rfl] at this;exact this
     refine AllReadyH.cons rfl (fun K hK=>?_) ?_
     ·refine CQ rfl rfl ?_;intro b6 wa4 hz6 hc6 hf6 hX4 hs6;have h6:w.heap.size+1<=b6:=by have:=(((hX1.tr hX2).tr hX3)).size;simp only[World.size_alloc,World.size_drew] at this hz6;omega
      have Hz6:=lh hz6;clear hz6;try simp only[pg]
      clear hHeld;refine hK.out _ _ (by exact((((hX1.tr hX2).tr hX3).tr hX4)).cellE q0) fun hHeld=>?_;clear hK K;try simp only[Act.put,pu]
      refine wpAnyH_ready (rs:=[5,7]) (by kernel_rfl) (by simp) ?_;refine AllReadyH.cons rfl (fun K hK=>?_) ?_
      ·refine AC rfl rfl Bq (B:=w.heap.size+1) rfl rfl (by omega) (by omega) (by have:=((((hX1.tr hX2).tr hX3).tr hX4)).size;simp only[World.size_alloc,World.size_drew] at this ⊢;omega) ?_;intro br wa5 hzr ho5 hX5;have Hzr:=lh hzr;clear hzr;try simp only[pg]
       clear hHeld;refine hK.out _ _ (by exact(((((hX1.tr hX2).tr hX3).tr hX4).tr hX5)).cellE q0) fun hHeld=>?_;clear hK K;try simp only[Act.put,pu]
       refine Cu 7 rfl fun K hK=>?_;have hl5:=Au hc6;have hc6:=(hX5).cellE hc6;have hf6:=((hX5).frozen (p:=⟨b6,0,none⟩) hl5).trans hf6;have hl6:=Au hc6;have sz0:=(hX1).size;have sz1:=(hX2).size;have sz2:=(hX3).size;have sz3:=(hX4).size;have sz4:=(hX5).size;have sv:=(ho2.lt (g:=bv) rfl).2;have sr:=(ho5.lt (g:=br) rfl).2;have hz6:=Hz6.out;have hzv:=Hzv.out;have hzr:=Hzr.out;try simp only[World.size_alloc,World.size_drew] at sz0 sz1 sz2 sz3 sz4 sv hzv sr hzr hz6
       have HVS:=lh ((ho2.ext (((hX3.tr hX4).tr hX5))).set (p:=⟨b6,0,none⟩) (by simp[AD];omega) (.slice (some ⟨bv,0,none⟩) g.length g.length));have HRS:=lh ((ho5.ext ((Aa.rfl' _):Aa wa5 wa5)).set (p:=⟨b6,0,none⟩) (by simp[AD];omega) (.slice (some ⟨bv,0,none⟩) g.length g.length));have E0S:=lh (Aa.set (((((hX1.tr hX2).tr hX3).tr hX4).tr hX5)) (p:=⟨b6,0,none⟩) (by simp;omega) (.slice (some ⟨bv,0,none⟩) g.length g.length));have hc6:=World.cell?_setCell_same wa5 _ (.slice (some ⟨bv,0,none⟩) g.length g.length) hc6;have nvb:bv≠b6:=by omega
       have nrb:br≠b6:=by omega
       have nvr:bv≠br:=by omega
       have gv:w.heap.size+1<=bv:=(ho2.lt (g:=bv) rfl).1;clear sz0 sz1 sz2 sz3 sz4 sv hzv sr hzr hz6;go_simp;try simp only[pg]
       clear hHeld;refine hK.out _ _ (by exact(E0S.out).cellE q0) fun hHeld=>?_;clear hK K;try simp only[Act.put]
       refine ty 8 ?_;refine dn ?_;go_wp2_with fail
       have gr:w.heap.size+1<=br:=(HRS.out.lt (g:=br) rfl).1;go_meet
       refine⟨b6,bv,br,rfl,rfl,hc6,?_,?_,by omega,by omega,by omega,by omega,by omega,by omega,((Aa.rfl' _).dr).tr E0S.out⟩
       ·have:=HVS.out;rw[AJ _ _ rfl] at this;exact this
       ·have:=HRS.out;rw[AJ _ _ rfl] at this;exact this
      refine AllReadyH.cons rfl (fun K hK=>?_) ?_
      ·have hl6:=Au hc6;have sz0:=(hX1).size;have sz1:=(hX2).size;have sz2:=(hX3).size;have sz3:=(hX4).size;have sv:=(ho2.lt (g:=bv) rfl).2;have hz6:=Hz6.out;have hzv:=Hzv.out;try simp only[World.size_alloc,World.size_drew] at sz0 sz1 sz2 sz3 sv hzv hz6
       have HVS:=lh ((ho2.ext ((hX3.tr hX4))).set (p:=⟨b6,0,none⟩) (by simp[AD];omega) (.slice (some ⟨bv,0,none⟩) g.length g.length));have E0S:=lh (Aa.set ((((hX1.tr hX2).tr hX3).tr hX4)) (p:=⟨b6,0,none⟩) (by simp;omega) (.slice (some ⟨bv,0,none⟩) g.length g.length));have hc6:=World.cell?_setCell_same wa4 _ (.slice (some ⟨bv,0,none⟩) g.length g.length) hc6;have nvb:bv≠b6:=by omega
       have gv:w.heap.size+1<=bv:=(ho2.lt (g:=bv) rfl).1;clear sz0 sz1 sz2 sz3 sv hzv hz6;go_simp;try simp only[pg]
       clear hHeld;refine hK.out _ _ (by exact(E0S.out).cellE q0) fun hHeld=>?_;clear hK K;try simp only[Act.put]
       refine Cu 5 rfl fun K hK=>?_;refine AC rfl rfl Bq (B:=w.heap.size+1) rfl rfl (by omega) (by omega) (by have:=(E0S.out:Aa (World.drew (w.alloc (.cells #[.slice A g.length c] 35))) (World.setCell wa4 ⟨b6,0,none⟩ (.slice (some ⟨bv,0,none⟩) g.length g.length))).size;simp only[World.size_alloc,World.size_drew] at this ⊢;omega) ?_;intro br wa5 hzr ho5 hX5;have Hzr:=lh hzr;clear hzr;try simp only[pg]
       clear hHeld;refine hK.out _ _ (by exact((E0S.out.tr hX5)).cellE q0) fun hHeld=>?_;clear hK K;try simp only[Act.put,pu]
       refine ty 8 ?_;refine dn ?_;go_wp2_with fail
       have hl6:=Au hc6;have sz0:=(hX5).size;have sv:=(HVS.out.lt (g:=bv) rfl).2;have sr:=(ho5.lt (g:=br) rfl).2;have hz6:=Hz6.out;have hzv:=Hzv.out;have hzr:=Hzr.out;try simp only[World.size_setCell] at sz0 sv hzv sr hzr hz6
       have hc6:=(hX5).cellE hc6;have gr:w.heap.size+1<=br:=(ho5.lt (g:=br) rfl).1;go_meet
       refine⟨b6,bv,br,rfl,rfl,hc6,?_,?_,by omega,by omega,by omega,by omega,by omega,by omega,((Aa.rfl' _).dr).tr (E0S.out.tr hX5)⟩
       ·have:=(HVS.out.ext (hX5));rw[AJ _ _ rfl] at this;exact this
       ·have:=ho5;rw[AJ _ _ rfl] at this;exact this
      exact AllReadyH.nil
     exact AllReadyH.nil
    refine AllReadyH.cons rfl (fun K hK=>?_) ?_
    ·refine CQ rfl rfl ?_;intro b6 wa3 hz6 hc6 hf6 hX3 hs6;have h6:w.heap.size+1<=b6:=by have:=((hX1.tr hX2)).size;simp only[World.size_alloc,World.size_drew] at this hz6;omega
     have Hz6:=lh hz6;clear hz6;try simp only[pg]
     clear hHeld;refine hK.out _ _ (by exact(((hX1.tr hX2).tr hX3)).cellE q0) fun hHeld=>?_;clear hK K;try simp only[Act.put,pu]
     refine Cu 4 rfl fun K hK=>?_;go_simp;refine(HSZ.out _).mono ?_;rintro e wa4 ⟨rfl,hX4⟩;try go_wp2_with fail
     clear hHeld;refine hK.out _ _ (by exact((((hX1.tr hX2).tr hX3).tr hX4)).cellE q0) fun hHeld=>?_;clear hK K;try simp only[Act.put,pu]
     refine wpAnyH_ready (rs:=[5,7]) (by kernel_rfl) (by simp) ?_;refine AllReadyH.cons rfl (fun K hK=>?_) ?_
     ·refine AC rfl rfl Bq (B:=w.heap.size+1) rfl rfl (by omega) (by omega) (by have:=((((hX1.tr hX2).tr hX3).tr hX4)).size;simp only[World.size_alloc,World.size_drew] at this ⊢;omega) ?_;intro br wa5 hzr ho5 hX5;have Hzr:=lh hzr;clear hzr;try simp only[pg]
      clear hHeld;refine hK.out _ _ (by exact(((((hX1.tr hX2).tr hX3).tr hX4).tr hX5)).cellE q0) fun hHeld=>?_;clear hK K;try simp only[Act.put,pu]
      refine Cu 7 rfl fun K hK=>?_;have hl5:=Au hc6;have hc6:=((hX4.tr hX5)).cellE hc6;have hf6:=(((hX4.tr hX5)).frozen (p:=⟨b6,0,none⟩) hl5).trans hf6;have hl6:=Au hc6;have sz0:=(hX1).size;have sz1:=(hX2).size;have sz2:=(hX3).size;have sz3:=(hX4).size;have sz4:=(hX5).size;have sv:=(ho2.lt (g:=bv) rfl).2;have sr:=(ho5.lt (g:=br) rfl).2;have hz6:=Hz6.out;have hzv:=Hzv.out;have hzr:=Hzr.out;try simp only[World.size_alloc,World.size_drew] at sz0 sz1 sz2 sz3 sz4 sv hzv sr hzr hz6
      have HVS:=lh ((ho2.ext (((hX3.tr hX4).tr hX5))).set (p:=⟨b6,0,none⟩) (by simp[AD];omega) (.slice (some ⟨bv,0,none⟩) g.length g.length));have HRS:=lh ((ho5.ext ((Aa.rfl' _):Aa wa5 wa5)).set (p:=⟨b6,0,none⟩) (by simp[AD];omega) (.slice (some ⟨bv,0,none⟩) g.length g.length));have E0S:=lh (Aa.set (((((hX1.tr hX2).tr hX3).tr hX4).tr hX5)) (p:=⟨b6,0,none⟩) (by simp;omega) (.slice (some ⟨bv,0,none⟩) g.length g.length));have hc6:=World.cell?_setCell_same wa5 _ (.slice (some ⟨bv,0,none⟩) g.length g.length) hc6;have nvb:bv≠b6:=by omega
      have nrb:br≠b6:=by omega
      have nvr:bv≠br:=by omega
      have gv:w.heap.size+1<=bv:=(ho2.lt (g:=bv) rfl).1;clear sz0 sz1 sz2 sz3 sz4 sv hzv sr hzr hz6;go_simp;try simp only[pg]
      clear hHeld;refine hK.out _ _ (by exact(E0S.out).cellE q0) fun hHeld=>?_;clear hK K;try simp only[Act.put]
      refine ty 8 ?_;refine dn ?_;go_wp2_with fail
      have gr:w.heap.size+1<=br:=(HRS.out.lt (g:=br) rfl).1;go_meet
      refine⟨b6,bv,br,rfl,rfl,hc6,?_,?_,by omega,by omega,by omega,by omega,by omega,by omega,((Aa.rfl' _).dr).tr E0S.out⟩
      ·have:=HVS.out;rw[AJ _ _ rfl] at this;exact this
      ·have:=HRS.out;rw[AJ _ _ rfl] at this;exact this
     refine AllReadyH.cons rfl (fun K hK=>?_) ?_
     ·have hl5:=Au hc6;have hc6:=(hX4).cellE hc6;have hf6:=((hX4).frozen (p:=⟨b6,0,none⟩) hl5).trans hf6;have hl6:=Au hc6;have sz0:=(hX1).size;have sz1:=(hX2).size;have sz2:=(hX3).size;have sz3:=(hX4).size;have sv:=(ho2.lt (g:=bv) rfl).2;have hz6:=Hz6.out;have hzv:=Hzv.out;try simp only[World.size_alloc,World.size_drew] at sz0 sz1 sz2 sz3 sv hzv hz6
      have HVS:=lh ((ho2.ext ((hX3.tr hX4))).set (p:=⟨b6,0,none⟩) (by simp[AD];omega) (.slice (some ⟨bv,0,none⟩) g.length g.length));have E0S:=lh (Aa.set ((((hX1.tr hX2).tr hX3).tr hX4)) (p:=⟨b6,0,none⟩) (by simp;omega) (.slice (some ⟨bv,0,none⟩) g.length g.length));have hc6:=World.cell?_setCell_same wa4 _ (.slice (some ⟨bv,0,none⟩) g.length g.length) hc6;have nvb:bv≠b6:=by omega
      have gv:w.heap.size+1<=bv:=(ho2.lt (g:=bv) rfl).1;clear sz0 sz1 sz2 sz3 sv hzv hz6;go_simp;try simp only[pg]
      clear hHeld;refine hK.out _ _ (by exact(E0S.out).cellE q0) fun hHeld=>?_;clear hK K;try simp only[Act.put]
      refine Cu 5 rfl fun K hK=>?_;refine AC rfl rfl Bq (B:=w.heap.size+1) rfl rfl (by omega) (by omega) (by have:=(E0S.out:Aa (World.drew (w.alloc (.cells #[.slice A g.length c] 35))) (World.setCell wa4 ⟨b6,0,none⟩ (.slice (some ⟨bv,0,none⟩) g.length g.length))).size;simp only[World.size_alloc,World.size_drew] at this ⊢;omega) ?_;intro br wa5 hzr ho5 hX5;have Hzr:=lh hzr;clear hzr;try simp only[pg]
      clear hHeld;refine hK.out _ _ (by exact((E0S.out.tr hX5)).cellE q0) fun hHeld=>?_;clear hK K;try simp only[Act.put,pu]
      refine ty 8 ?_;refine dn ?_;go_wp2_with fail
      have hl6:=Au hc6;have sz0:=(hX5).size;have sv:=(HVS.out.lt (g:=bv) rfl).2;have sr:=(ho5.lt (g:=br) rfl).2;have hz6:=Hz6.out;have hzv:=Hzv.out;have hzr:=Hzr.out;try simp only[World.size_setCell] at sz0 sv hzv sr hzr hz6
      have hc6:=(hX5).cellE hc6;have gr:w.heap.size+1<=br:=(ho5.lt (g:=br) rfl).1;go_meet
      refine⟨b6,bv,br,rfl,rfl,hc6,?_,?_,by omega,by omega,by omega,by omega,by omega,by omega,((Aa.rfl' _).dr).tr (E0S.out.tr hX5)⟩
      ·have:=(HVS.out.ext (hX5));rw[AJ _ _ rfl] at this;exact this
      ·have:=ho5;rw[AJ _ _ rfl] at this;exact this
     exact AllReadyH.nil
    exact AllReadyH.nil
   refine AllReadyH.cons rfl (fun K hK=>?_) ?_
   ·go_simp;refine(HSZ.out _).mono ?_;rintro e wa2 ⟨rfl,hX2⟩;try go_wp2_with fail
    clear hHeld;refine hK.out _ _ (by exact((hX1.tr hX2)).cellE q0) fun hHeld=>?_;clear hK K;try simp only[Act.put,pu]
    refine wpAnyH_ready (rs:=[2,5,6]) (by kernel_rfl) (by simp) ?_;refine AllReadyH.cons rfl (fun K hK=>?_) ?_
    ·refine AC rfl rfl Bc (B:=w.heap.size+1) rfl rfl (by omega) (by omega) (by have:=((hX1.tr hX2)).size;simp only[World.size_alloc,World.size_drew] at this ⊢;omega) ?_;intro bv wa3 hzv ho3 hX3;have Hzv:=lh hzv;clear hzv;try simp only[pg]
     clear hHeld;refine hK.out _ _ (by exact(((hX1.tr hX2).tr hX3)).cellE q0) fun hHeld=>?_;clear hK K;try simp only[Act.put,pu]
     refine wpAnyH_ready (rs:=[5,6]) (by kernel_rfl) (by simp) ?_;refine AllReadyH.cons rfl (fun K hK=>?_) ?_
     ·refine AC rfl rfl Bq (B:=w.heap.size+1) rfl rfl (by omega) (by omega) (by have:=(((hX1.tr hX2).tr hX3)).size;simp only[World.size_alloc,World.size_drew] at this ⊢;omega) ?_;intro br wa4 hzr ho4 hX4;have Hzr:=lh hzr;clear hzr;try simp only[pg]
      clear hHeld;refine hK.out _ _ (by exact((((hX1.tr hX2).tr hX3).tr hX4)).cellE q0) fun hHeld=>?_;clear hK K;try simp only[Act.put,pu]
      refine Cu 6 rfl fun K hK=>?_;refine CQ rfl rfl ?_;intro b6 wa5 hz6 hc6 hf6 hX5 hs6;have h6:w.heap.size+1<=b6:=by have:=((((hX1.tr hX2).tr hX3).tr hX4)).size;simp only[World.size_alloc,World.size_drew] at this hz6;omega
      have Hz6:=lh hz6;clear hz6;try simp only[pg]
      clear hHeld;refine hK.out _ _ (by exact(((((hX1.tr hX2).tr hX3).tr hX4).tr hX5)).cellE q0) fun hHeld=>?_;clear hK K;try simp only[Act.put,pu]
      refine Cu 7 rfl fun K hK=>?_;have hl6:=Au hc6;have sz0:=(hX1).size;have sz1:=(hX2).size;have sz2:=(hX3).size;have sz3:=(hX4).size;have sz4:=(hX5).size;have sv:=(ho3.lt (g:=bv) rfl).2;have sr:=(ho4.lt (g:=br) rfl).2;have hz6:=Hz6.out;have hzv:=Hzv.out;have hzr:=Hzr.out;try simp only[World.size_alloc,World.size_drew] at sz0 sz1 sz2 sz3 sz4 sv hzv sr hzr hz6
      have HVS:=lh ((ho3.ext ((hX4.tr hX5))).set (p:=⟨b6,0,none⟩) (by simp[AD];omega) (.slice (some ⟨bv,0,none⟩) g.length g.length));have HRS:=lh ((ho4.ext (hX5)).set (p:=⟨b6,0,none⟩) (by simp[AD];omega) (.slice (some ⟨bv,0,none⟩) g.length g.length));have E0S:=lh (Aa.set (((((hX1.tr hX2).tr hX3).tr hX4).tr hX5)) (p:=⟨b6,0,none⟩) (by simp;omega) (.slice (some ⟨bv,0,none⟩) g.length g.length));have hc6:=World.cell?_setCell_same wa5 _ (.slice (some ⟨bv,0,none⟩) g.length g.length) hc6;have nvb:bv≠b6:=by omega
      have nrb:br≠b6:=by omega
      have nvr:bv≠br:=by omega
      have gv:w.heap.size+1<=bv:=(ho3.lt (g:=bv) rfl).1;clear sz0 sz1 sz2 sz3 sz4 sv hzv sr hzr hz6;go_simp;try simp only[pg]
      clear hHeld;refine hK.out _ _ (by exact(E0S.out).cellE q0) fun hHeld=>?_;clear hK K;try simp only[Act.put]
      refine ty 8 ?_;refine dn ?_;go_wp2_with fail
      have gr:w.heap.size+1<=br:=(HRS.out.lt (g:=br) rfl).1;go_meet
      refine⟨b6,bv,br,rfl,rfl,hc6,?_,?_,by omega,by omega,by omega,by omega,by omega,by omega,((Aa.rfl' _).dr).tr E0S.out⟩
      ·have:=HVS.out;rw[AJ _ _ rfl] at this;exact this
      ·have:=HRS.out;rw[AJ _ _ rfl] at this;exact this
     refine AllReadyH.cons rfl (fun K hK=>?_) ?_
     ·refine CQ rfl rfl ?_;intro b6 wa4 hz6 hc6 hf6 hX4 hs6;have h6:w.heap.size+1<=b6:=by have:=(((hX1.tr hX2).tr hX3)).size;simp only[World.size_alloc,World.size_drew] at this hz6;omega
      have Hz6:=lh hz6;clear hz6;try simp only[pg]
      clear hHeld;refine hK.out _ _ (by exact((((hX1.tr hX2).tr hX3).tr hX4)).cellE q0) fun hHeld=>?_;clear hK K;try simp only[Act.put,pu]
      refine wpAnyH_ready (rs:=[5,7]) (by kernel_rfl) (by simp) ?_;refine AllReadyH.cons rfl (fun K hK=>?_) ?_
      ·refine AC rfl rfl Bq (B:=w.heap.size+1) rfl rfl (by omega) (by omega) (by have:=((((hX1.tr hX2).tr hX3).tr hX4)).size;simp only[World.size_alloc,World.size_drew] at this ⊢;omega) ?_;intro br wa5 hzr ho5 hX5;have Hzr:=lh hzr;clear hzr;try simp only[pg]
       clear hHeld;refine hK.out _ _ (by exact(((((hX1.tr hX2).tr hX3).tr hX4).tr hX5)).cellE q0) fun hHeld=>?_;clear hK K;try simp only[Act.put,pu]
       refine Cu 7 rfl fun K hK=>?_;have hl5:=Au hc6;have hc6:=(hX5).cellE hc6;have hf6:=((hX5).frozen (p:=⟨b6,0,none⟩) hl5).trans hf6;have hl6:=Au hc6;have sz0:=(hX1).size;have sz1:=(hX2).size;have sz2:=(hX3).size;have sz3:=(hX4).size;have sz4:=(hX5).size;have sv:=(ho3.lt (g:=bv) rfl).2;have sr:=(ho5.lt (g:=br) rfl).2;have hz6:=Hz6.out;have hzv:=Hzv.out;have hzr:=Hzr.out;try simp only[World.size_alloc,World.size_drew] at sz0 sz1 sz2 sz3 sz4 sv hzv sr hzr hz6
       have HVS:=lh ((ho3.ext ((hX4.tr hX5))).set (p:=⟨b6,0,none⟩) (by simp[AD];omega) (.slice (some ⟨bv,0,none⟩) g.length g.length));have HRS:=lh ((ho5.ext ((Aa.rfl' _):Aa wa5 wa5)).set (p:=⟨b6,0,none⟩) (by simp[AD];omega) (.slice (some ⟨bv,0,none⟩) g.length g.length));have E0S:=lh (Aa.set (((((hX1.tr hX2).tr hX3).tr hX4).tr hX5)) (p:=⟨b6,0,none⟩) (by simp;omega) (.slice (some ⟨bv,0,none⟩) g.length g.length));have hc6:=World.cell?_setCell_same wa5 _ (.slice (some ⟨bv,0,none⟩) g.length g.length) hc6;have nvb:bv≠b6:=by omega
       have nrb:br≠b6:=by omega
       have nvr:bv≠br:=by omega
       have gv:w.heap.size+1<=bv:=(ho3.lt (g:=bv) rfl).1;clear sz0 sz1 sz2 sz3 sz4 sv hzv sr hzr hz6;go_simp;try simp only[pg]
       clear hHeld;refine hK.out _ _ (by exact(E0S.out).cellE q0) fun hHeld=>?_;clear hK K;try simp only[Act.put]
       refine ty 8 ?_;refine dn ?_;go_wp2_with fail
       have gr:w.heap.size+1<=br:=(HRS.out.lt (g:=br) rfl).1;go_meet
       refine⟨b6,bv,br,rfl,rfl,hc6,?_,?_,by omega,by omega,by omega,by omega,by omega,by omega,((Aa.rfl' _).dr).tr E0S.out⟩
       ·have:=HVS.out;rw[AJ _ _ rfl] at this;exact this
       ·have:=HRS.out;rw[AJ _ _ rfl] at this;exact this
      refine AllReadyH.cons rfl (fun K hK=>?_) ?_
      ·have hl6:=Au hc6;have sz0:=(hX1).size;have sz1:=(hX2).size;have sz2:=(hX3).size;have sz3:=(hX4).size;have sv:=(ho3.lt (g:=bv) rfl).2;have hz6:=Hz6.out;have hzv:=Hzv.out;try simp only[World.size_alloc,World.size_drew] at sz0 sz1 sz2 sz3 sv hzv hz6
       have HVS:=lh ((ho3.ext (hX4)).set (p:=⟨b6,0,none⟩) (by simp[AD];omega) (.slice (some ⟨bv,0,none⟩) g.length g.length));have E0S:=lh (Aa.set ((((hX1.tr hX2).tr hX3).tr hX4)) (p:=⟨b6,0,none⟩) (by simp;omega) (.slice (some ⟨bv,0,none⟩) g.length g.length));have hc6:=World.cell?_setCell_same wa4 _ (.slice (some ⟨bv,0,none⟩) g.length g.length) hc6;have nvb:bv≠b6:=by omega
       have gv:w.heap.size+1<=bv:=(ho3.lt (g:=bv) rfl).1;clear sz0 sz1 sz2 sz3 sv hzv hz6;go_simp;try simp only[pg]
       clear hHeld;refine hK.out _ _ (by exact(E0S.out).cellE q0) fun hHeld=>?_;clear hK K;try simp only[Act.put]
       refine Cu 5 rfl fun K hK=>?_;refine AC rfl rfl Bq (B:=w.heap.size+1) rfl rfl (by omega) (by omega) (by have:=(E0S.out:Aa (World.drew (w.alloc (.cells #[.slice A g.length c] 35))) (World.setCell wa4 ⟨b6,0,none⟩ (.slice (some ⟨bv,0,none⟩) g.length g.length))).size;simp only[World.size_alloc,World.size_drew] at this ⊢;omega) ?_;intro br wa5 hzr ho5 hX5;have Hzr:=lh hzr;clear hzr;try simp only[pg]
       clear hHeld;refine hK.out _ _ (by exact((E0S.out.tr hX5)).cellE q0) fun hHeld=>?_;clear hK K;try simp only[Act.put,pu]
       refine ty 8 ?_;refine dn ?_;go_wp2_with fail
       have hl6:=Au hc6;have sz0:=(hX5).size;have sv:=(HVS.out.lt (g:=bv) rfl).2;have sr:=(ho5.lt (g:=br) rfl).2;have hz6:=Hz6.out;have hzv:=Hzv.out;have hzr:=Hzr.out;try simp only[World.size_setCell] at sz0 sv hzv sr hzr hz6
       have hc6:=(hX5).cellE hc6;have gr:w.heap.size+1<=br:=(ho5.lt (g:=br) rfl).1;go_meet
       refine⟨b6,bv,br,rfl,rfl,hc6,?_,?_,by omega,by omega,by omega,by omega,by omega,by omega,((Aa.rfl' _).dr).tr (E0S.out.tr hX5)⟩
       ·have:=(HVS.out.ext (hX5));rw[AJ _ _ rfl] at this;exact this
       ·have:=ho5;rw[AJ _ _ rfl] at this;exact this
      exact AllReadyH.nil
     exact AllReadyH.nil
    refine AllReadyH.cons rfl (fun K hK=>?_) ?_
    ·refine AC rfl rfl Bq (B:=w.heap.size+1) rfl rfl (by omega) (by omega) (by have:=((hX1.tr hX2)).size;simp only[World.size_alloc,World.size_drew] at this ⊢;omega) ?_;intro br wa3 hzr ho3 hX3;have Hzr:=lh hzr;clear hzr;try simp only[pg]
     clear hHeld;refine hK.out _ _ (by exact(((hX1.tr hX2).tr hX3)).cellE q0) fun hHeld=>?_;clear hK K;try simp only[Act.put,pu]
     refine wpAnyH_ready (rs:=[2,6]) (by kernel_rfl) (by simp) ?_;refine AllReadyH.cons rfl (fun K hK=>?_) ?_
     ·refine AC rfl rfl Bc (B:=w.heap.size+1) rfl rfl (by omega) (by omega) (by have:=(((hX1.tr hX2).tr hX3)).size;simp only[World.size_alloc,World.size_drew] at this ⊢;omega) ?_;intro bv wa4 hzv ho4 hX4;have Hzv:=lh hzv;clear hzv;try simp only[pg]
      clear hHeld;refine hK.out _ _ (by exact((((hX1.tr hX2).tr hX3).tr hX4)).cellE q0) fun hHeld=>?_;clear hK K;try simp only[Act.put,pu]
      refine Cu 6 rfl fun K hK=>?_;refine CQ rfl rfl ?_;intro b6 wa5 hz6 hc6 hf6 hX5 hs6;have h6:w.heap.size+1<=b6:=by have:=((((hX1.tr hX2).tr hX3).tr hX4)).size;simp only[World.size_alloc,World.size_drew] at this hz6;omega
      have Hz6:=lh hz6;clear hz6;try simp only[pg]
      clear hHeld;refine hK.out _ _ (by exact(((((hX1.tr hX2).tr hX3).tr hX4).tr hX5)).cellE q0) fun hHeld=>?_;clear hK K;try simp only[Act.put,pu]
      refine Cu 7 rfl fun K hK=>?_;have hl6:=Au hc6;have sz0:=(hX1).size;have sz1:=(hX2).size;have sz2:=(hX3).size;have sz3:=(hX4).size;have sz4:=(hX5).size;have sv:=(ho4.lt (g:=bv) rfl).2;have sr:=(ho3.lt (g:=br) rfl).2;have hz6:=Hz6.out;have hzv:=Hzv.out;have hzr:=Hzr.out;try simp only[World.size_alloc,World.size_drew] at sz0 sz1 sz2 sz3 sz4 sv hzv sr hzr hz6
      have HVS:=lh ((ho4.ext (hX5)).set (p:=⟨b6,0,none⟩) (by simp[AD];omega) (.slice (some ⟨bv,0,none⟩) g.length g.length));have HRS:=lh ((ho3.ext ((hX4.tr hX5))).set (p:=⟨b6,0,none⟩) (by simp[AD];omega) (.slice (some ⟨bv,0,none⟩) g.length g.length));have E0S:=lh (Aa.set (((((hX1.tr hX2).tr hX3).tr hX4).tr hX5)) (p:=⟨b6,0,none⟩) (by simp;omega) (.slice (some ⟨bv,0,none⟩) g.length g.length));have hc6:=World.cell?_setCell_same wa5 _ (.slice (some ⟨bv,0,none⟩) g.length g.length) hc6;have nvb:bv≠b6:=by omega
      have nrb:br≠b6:=by omega
      have nvr:bv≠br:=by omega
      have gv:w.heap.size+1<=bv:=(ho4.lt (g:=bv) rfl).1;clear sz0 sz1 sz2 sz3 sz4 sv hzv sr hzr hz6;go_simp;try simp only[pg]
      clear hHeld;refine hK.out _ _ (by exact(E0S.out).cellE q0) fun hHeld=>?_;clear hK K;try simp only[Act.put]
      refine ty 8 ?_;refine dn ?_;go_wp2_with fail
      have gr:w.heap.size+1<=br:=(HRS.out.lt (g:=br) rfl).1;go_meet
      refine⟨b6,bv,br,rfl,rfl,hc6,?_,?_,by omega,by omega,by omega,by omega,by omega,by omega,((Aa.rfl' _).dr).tr E0S.out⟩
      ·have:=HVS.out;rw[AJ _ _ rfl] at this;exact this
      ·have:=HRS.out;rw[AJ _ _ rfl] at this;exact this
     refine AllReadyH.cons rfl (fun K hK=>?_) ?_
     ·refine CQ rfl rfl ?_;intro b6 wa4 hz6 hc6 hf6 hX4 hs6;have h6:w.heap.size+1<=b6:=by have:=(((hX1.tr hX2).tr hX3)).size;simp only[World.size_alloc,World.size_drew] at this hz6;omega
      have Hz6:=lh hz6;clear hz6;try simp only[pg]
      clear hHeld;refine hK.out _ _ (by exact((((hX1.tr hX2).tr hX3).tr hX4)).cellE q0) fun hHeld=>?_;clear hK K;try simp only[Act.put,pu]
      refine Cu 2 rfl fun K hK=>?_;refine AC rfl rfl Bc (B:=w.heap.size+1) rfl rfl (by omega) (by omega) (by have:=((((hX1.tr hX2).tr hX3).tr hX4)).size;simp only[World.size_alloc,World.size_drew] at this ⊢;omega) ?_;intro bv wa5 hzv ho5 hX5;have Hzv:=lh hzv;clear hzv;try simp only[pg]
      clear hHeld;refine hK.out _ _ (by exact(((((hX1.tr hX2).tr hX3).tr hX4).tr hX5)).cellE q0) fun hHeld=>?_;clear hK K;try simp only[Act.put,pu]
      refine Cu 7 rfl fun K hK=>?_;have hl5:=Au hc6;have hc6:=(hX5).cellE hc6;have hf6:=((hX5).frozen (p:=⟨b6,0,none⟩) hl5).trans hf6;have hl6:=Au hc6;have sz0:=(hX1).size;have sz1:=(hX2).size;have sz2:=(hX3).size;have sz3:=(hX4).size;have sz4:=(hX5).size;have sv:=(ho5.lt (g:=bv) rfl).2;have sr:=(ho3.lt (g:=br) rfl).2;have hz6:=Hz6.out;have hzv:=Hzv.out;have hzr:=Hzr.out;try simp only[World.size_alloc,World.size_drew] at sz0 sz1 sz2 sz3 sz4 sv hzv sr hzr hz6
      have HVS:=lh ((ho5.ext ((Aa.rfl' _):Aa wa5 wa5)).set (p:=⟨b6,0,none⟩) (by simp[AD];omega) (.slice (some ⟨bv,0,none⟩) g.length g.length));have HRS:=lh ((ho3.ext ((hX4.tr hX5))).set (p:=⟨b6,0,none⟩) (by simp[AD];omega) (.slice (some ⟨bv,0,none⟩) g.length g.length));have E0S:=lh (Aa.set (((((hX1.tr hX2).tr hX3).tr hX4).tr hX5)) (p:=⟨b6,0,none⟩) (by simp;omega) (.slice (some ⟨bv,0,none⟩) g.length g.length));have hc6:=World.cell?_setCell_same wa5 _ (.slice (some ⟨bv,0,none⟩) g.length g.length) hc6;have nvb:bv≠b6:=by omega
      have nrb:br≠b6:=by omega
      have nvr:bv≠br:=by omega
      have gv:w.heap.size+1<=bv:=(ho5.lt (g:=bv) rfl).1;clear sz0 sz1 sz2 sz3 sz4 sv hzv sr hzr hz6;go_simp;try simp only[pg]
      clear hHeld;refine hK.out _ _ (by exact(E0S.out).cellE q0) fun hHeld=>?_;clear hK K;try simp only[Act.put]
      refine ty 8 ?_;refine dn ?_;go_wp2_with fail
      have gr:w.heap.size+1<=br:=(HRS.out.lt (g:=br) rfl).1;go_meet
      refine⟨b6,bv,br,rfl,rfl,hc6,?_,?_,by omega,by omega,by omega,by omega,by omega,by omega,((Aa.rfl' _).dr).tr E0S.out⟩
      ·have:=HVS.out;rw[AJ _ _ rfl] at this;exact this
      ·have:=HRS.out;rw[AJ _ _ rfl] at this;exact this
     exact AllReadyH.nil
    refine AllReadyH.cons rfl (fun K hK=>?_) ?_
    ·refine CQ rfl rfl ?_;intro b6 wa3 hz6 hc6 hf6 hX3 hs6;have h6:w.heap.size+1<=b6:=by have:=((hX1.tr hX2)).size;simp only[World.size_alloc,World.size_drew] at this hz6;omega
     have Hz6:=lh hz6;clear hz6;try simp only[pg]
     clear hHeld;refine hK.out _ _ (by exact(((hX1.tr hX2).tr hX3)).cellE q0) fun hHeld=>?_;clear hK K;try simp only[Act.put,pu]
     refine wpAnyH_ready (rs:=[2,5]) (by kernel_rfl) (by simp) ?_;refine AllReadyH.cons rfl (fun K hK=>?_) ?_
     ·refine AC rfl rfl Bc (B:=w.heap.size+1) rfl rfl (by omega) (by omega) (by have:=(((hX1.tr hX2).tr hX3)).size;simp only[World.size_alloc,World.size_drew] at this ⊢;omega) ?_;intro bv wa4 hzv ho4 hX4;have Hzv:=lh hzv;clear hzv;try simp only[pg]
      clear hHeld;refine hK.out _ _ (by exact((((hX1.tr hX2).tr hX3).tr hX4)).cellE q0) fun hHeld=>?_;clear hK K;try simp only[Act.put,pu]
      refine wpAnyH_ready (rs:=[5,7]) (by kernel_rfl) (by simp) ?_;refine AllReadyH.cons rfl (fun K hK=>?_) ?_
      ·refine AC rfl rfl Bq (B:=w.heap.size+1) rfl rfl (by omega) (by omega) (by have:=((((hX1.tr hX2).tr hX3).tr hX4)).size;simp only[World.size_alloc,World.size_drew] at this ⊢;omega) ?_;intro br wa5 hzr ho5 hX5;have Hzr:=lh hzr;clear hzr;try simp only[pg]
       clear hHeld;refine hK.out _ _ (by exact(((((hX1.tr hX2).tr hX3).tr hX4).tr hX5)).cellE q0) fun hHeld=>?_;clear hK K;try simp only[Act.put,pu]
       refine Cu 7 rfl fun K hK=>?_;have hl5:=Au hc6;have hc6:=((hX4.tr hX5)).cellE hc6;have hf6:=(((hX4.tr hX5)).frozen (p:=⟨b6,0,none⟩) hl5).trans hf6;have hl6:=Au hc6;have sz0:=(hX1).size;have sz1:=(hX2).size;have sz2:=(hX3).size;have sz3:=(hX4).size;have sz4:=(hX5).size;have sv:=(ho4.lt (g:=bv) rfl).2;have sr:=(ho5.lt (g:=br) rfl).2;have hz6:=Hz6.out;have hzv:=Hzv.out;have hzr:=Hzr.out;try simp only[World.size_alloc,World.size_drew] at sz0 sz1 sz2 sz3 sz4 sv hzv sr hzr hz6
       have HVS:=lh ((ho4.ext (hX5)).set (p:=⟨b6,0,none⟩) (by simp[AD];omega) (.slice (some ⟨bv,0,none⟩) g.length g.length));have HRS:=lh ((ho5.ext ((Aa.rfl' _):Aa wa5 wa5)).set (p:=⟨b6,0,none⟩) (by simp[AD];omega) (.slice (some ⟨bv,0,none⟩) g.length g.length));have E0S:=lh (Aa.set (((((hX1.tr hX2).tr hX3).tr hX4).tr hX5)) (p:=⟨b6,0,none⟩) (by simp;omega) (.slice (some ⟨bv,0,none⟩) g.length g.length));have hc6:=World.cell?_setCell_same wa5 _ (.slice (some ⟨bv,0,none⟩) g.length g.length) hc6;have nvb:bv≠b6:=by omega
       have nrb:br≠b6:=by omega
       have nvr:bv≠br:=by omega
       have gv:w.heap.size+1<=bv:=(ho4.lt (g:=bv) rfl).1;clear sz0 sz1 sz2 sz3 sz4 sv hzv sr hzr hz6;go_simp;try simp only[pg]
       clear hHeld;refine hK.out _ _ (by exact(E0S.out).cellE q0) fun hHeld=>?_;clear hK K;try simp only[Act.put]
       refine ty 8 ?_;refine dn ?_;go_wp2_with fail
       have gr:w.heap.size+1<=br:=(HRS.out.lt (g:=br) rfl).1;go_meet
       refine⟨b6,bv,br,rfl,rfl,hc6,?_,?_,by omega,by omega,by omega,by omega,by omega,by omega,((Aa.rfl' _).dr).tr E0S.out⟩
       ·have:=HVS.out;rw[AJ _ _ rfl] at this;exact this
       ·have:=HRS.out;rw[AJ _ _ rfl] at this;exact this
      refine AllReadyH.cons rfl (fun K hK=>?_) ?_
      ·have hl5:=Au hc6;have hc6:=(hX4).cellE hc6;have hf6:=((hX4).frozen (p:=⟨b6,0,none⟩) hl5).trans hf6;have hl6:=Au hc6;have sz0:=(hX1).size;have sz1:=(hX2).size;have sz2:=(hX3).size;have sz3:=(hX4).size;have sv:=(ho4.lt (g:=bv) rfl).2;have hz6:=Hz6.out;have hzv:=Hzv.out;try simp only[World.size_alloc,World.size_drew] at sz0 sz1 sz2 sz3 sv hzv hz6
       have HVS:=lh ((ho4.ext ((Aa.rfl' _):Aa wa4 wa4)).set (p:=⟨b6,0,none⟩) (by simp[AD];omega) (.slice (some ⟨bv,0,none⟩) g.length g.length));have E0S:=lh (Aa.set ((((hX1.tr hX2).tr hX3).tr hX4)) (p:=⟨b6,0,none⟩) (by simp;omega) (.slice (some ⟨bv,0,none⟩) g.length g.length));have hc6:=World.cell?_setCell_same wa4 _ (.slice (some ⟨bv,0,none⟩) g.length g.length) hc6;have nvb:bv≠b6:=by omega
       have gv:w.heap.size+1<=bv:=(ho4.lt (g:=bv) rfl).1;clear sz0 sz1 sz2 sz3 sv hzv hz6;go_simp;try simp only[pg]
       clear hHeld;refine hK.out _ _ (by exact(E0S.out).cellE q0) fun hHeld=>?_;clear hK K;try simp only[Act.put]
       refine Cu 5 rfl fun K hK=>?_;refine AC rfl rfl Bq (B:=w.heap.size+1) rfl rfl (by omega) (by omega) (by have:=(E0S.out:Aa (World.drew (w.alloc (.cells #[.slice A g.length c] 35))) (World.setCell wa4 ⟨b6,0,none⟩ (.slice (some ⟨bv,0,none⟩) g.length g.length))).size;simp only[World.size_alloc,World.size_drew] at this ⊢;omega) ?_;intro br wa5 hzr ho5 hX5;have Hzr:=lh hzr;clear hzr;try simp only[pg]
       clear hHeld;refine hK.out _ _ (by exact((E0S.out.tr hX5)).cellE q0) fun hHeld=>?_;clear hK K;try simp only[Act.put,pu]
       refine ty 8 ?_;refine dn ?_;go_wp2_with fail
       have hl6:=Au hc6;have sz0:=(hX5).size;have sv:=(HVS.out.lt (g:=bv) rfl).2;have sr:=(ho5.lt (g:=br) rfl).2;have hz6:=Hz6.out;have hzv:=Hzv.out;have hzr:=Hzr.out;try simp only[World.size_setCell] at sz0 sv hzv sr hzr hz6
       have hc6:=(hX5).cellE hc6;have gr:w.heap.size+1<=br:=(ho5.lt (g:=br) rfl).1;go_meet
       refine⟨b6,bv,br,rfl,rfl,hc6,?_,?_,by omega,by omega,by omega,by omega,by omega,by omega,((Aa.rfl' _).dr).tr (E0S.out.tr hX5)⟩
       ·have:=(HVS.out.ext (hX5));rw[AJ _ _ rfl] at this;exact this
       ·have:=ho5;rw[AJ _ _ rfl] at this;exact this
      exact AllReadyH.nil
     refine AllReadyH.cons rfl (fun K hK=>?_) ?_
     ·refine AC rfl rfl Bq (B:=w.heap.size+1) rfl rfl (by omega) (by omega) (by have:=(((hX1.tr hX2).tr hX3)).size;simp only[World.size_alloc,World.size_drew] at this ⊢;omega) ?_;intro br wa4 hzr ho4 hX4;have Hzr:=lh hzr;clear hzr;try simp only[pg]
      clear hHeld;refine hK.out _ _ (by exact((((hX1.tr hX2).tr hX3).tr hX4)).cellE q0) fun hHeld=>?_;clear hK K;try simp only[Act.put,pu]
      refine Cu 2 rfl fun K hK=>?_;refine AC rfl rfl Bc (B:=w.heap.size+1) rfl rfl (by omega) (by omega) (by have:=((((hX1.tr hX2).tr hX3).tr hX4)).size;simp only[World.size_alloc,World.size_drew] at this ⊢;omega) ?_;intro bv wa5 hzv ho5 hX5;have Hzv:=lh hzv;clear hzv;try simp only[pg]
      clear hHeld;refine hK.out _ _ (by exact(((((hX1.tr hX2).tr hX3).tr hX4).tr hX5)).cellE q0) fun hHeld=>?_;clear hK K;try simp only[Act.put,pu]
      refine Cu 7 rfl fun K hK=>?_;have hl5:=Au hc6;have hc6:=((hX4.tr hX5)).cellE hc6;have hf6:=(((hX4.tr hX5)).frozen (p:=⟨b6,0,none⟩) hl5).trans hf6;have hl6:=Au hc6;have sz0:=(hX1).size;have sz1:=(hX2).size;have sz2:=(hX3).size;have sz3:=(hX4).size;have sz4:=(hX5).size;have sv:=(ho5.lt (g:=bv) rfl).2;have sr:=(ho4.lt (g:=br) rfl).2;have hz6:=Hz6.out;have hzv:=Hzv.out;have hzr:=Hzr.out;try simp only[World.size_alloc,World.size_drew] at sz0 sz1 sz2 sz3 sz4 sv hzv sr hzr hz6
      have HVS:=lh ((ho5.ext ((Aa.rfl' _):Aa wa5 wa5)).set (p:=⟨b6,0,none⟩) (by simp[AD];omega) (.slice (some ⟨bv,0,none⟩) g.length g.length));have HRS:=lh ((ho4.ext (hX5)).set (p:=⟨b6,0,none⟩) (by simp[AD];omega) (.slice (some ⟨bv,0,none⟩) g.length g.length));have E0S:=lh (Aa.set (((((hX1.tr hX2).tr hX3).tr hX4).tr hX5)) (p:=⟨b6,0,none⟩) (by simp;omega) (.slice (some ⟨bv,0,none⟩) g.length g.length));have hc6:=World.cell?_setCell_same wa5 _ (.slice (some ⟨bv,0,none⟩) g.length g.length) hc6;have nvb:bv≠b6:=by omega
      have nrb:br≠b6:=by omega
      have nvr:bv≠br:=by omega
      have gv:w.heap.size+1<=bv:=(ho5.lt (g:=bv) rfl).1;clear sz0 sz1 sz2 sz3 sz4 sv hzv sr hzr hz6;go_simp;try simp only[pg]
      clear hHeld;refine hK.out _ _ (by exact(E0S.out).cellE q0) fun hHeld=>?_;clear hK K;try simp only[Act.put]
      refine ty 8 ?_;refine dn ?_;go_wp2_with fail
      have gr:w.heap.size+1<=br:=(HRS.out.lt (g:=br) rfl).1;go_meet
      refine⟨b6,bv,br,rfl,rfl,hc6,?_,?_,by omega,by omega,by omega,by omega,by omega,by omega,((Aa.rfl' _).dr).tr E0S.out⟩
      ·have:=HVS.out;rw[AJ _ _ rfl] at this;exact this
      ·have:=HRS.out;rw[AJ _ _ rfl] at this;exact this
     exact AllReadyH.nil
    exact AllReadyH.nil
   refine AllReadyH.cons rfl (fun K hK=>?_) ?_
   ·refine CQ rfl rfl ?_;intro b6 wa2 hz6 hc6 hf6 hX2 hs6;have h6:w.heap.size+1<=b6:=by have:=(hX1).size;simp only[World.size_alloc,World.size_drew] at this hz6;omega
    have Hz6:=lh hz6;clear hz6;try simp only[pg]
    clear hHeld;refine hK.out _ _ (by exact((hX1.tr hX2)).cellE q0) fun hHeld=>?_;clear hK K;try simp only[Act.put,pu]
    refine wpAnyH_ready (rs:=[2,4]) (by kernel_rfl) (by simp) ?_;refine AllReadyH.cons rfl (fun K hK=>?_) ?_
    ·refine AC rfl rfl Bc (B:=w.heap.size+1) rfl rfl (by omega) (by omega) (by have:=((hX1.tr hX2)).size;simp only[World.size_alloc,World.size_drew] at this ⊢;omega) ?_;intro bv wa3 hzv ho3 hX3;have Hzv:=lh hzv;clear hzv;try simp only[pg]
     clear hHeld;refine hK.out _ _ (by exact(((hX1.tr hX2).tr hX3)).cellE q0) fun hHeld=>?_;clear hK K;try simp only[Act.put,pu]
     refine Cu 4 rfl fun K hK=>?_;go_simp;refine(HSZ.out _).mono ?_;rintro e wa4 ⟨rfl,hX4⟩;try go_wp2_with fail
     clear hHeld;refine hK.out _ _ (by exact((((hX1.tr hX2).tr hX3).tr hX4)).cellE q0) fun hHeld=>?_;clear hK K;try simp only[Act.put,pu]
     refine wpAnyH_ready (rs:=[5,7]) (by kernel_rfl) (by simp) ?_;refine AllReadyH.cons rfl (fun K hK=>?_) ?_
     ·refine AC rfl rfl Bq (B:=w.heap.size+1) rfl rfl (by omega) (by omega) (by have:=((((hX1.tr hX2).tr hX3).tr hX4)).size;simp only[World.size_alloc,World.size_drew] at this ⊢;omega) ?_;intro br wa5 hzr ho5 hX5;have Hzr:=lh hzr;clear hzr;try simp only[pg]
      clear hHeld;refine hK.out _ _ (by exact(((((hX1.tr hX2).tr hX3).tr hX4).tr hX5)).cellE q0) fun hHeld=>?_;clear hK K;try simp only[Act.put,pu]
      refine Cu 7 rfl fun K hK=>?_;have hl5:=Au hc6;have hc6:=(((hX3.tr hX4).tr hX5)).cellE hc6;have hf6:=((((hX3.tr hX4).tr hX5)).frozen (p:=⟨b6,0,none⟩) hl5).trans hf6;have hl6:=Au hc6;have sz0:=(hX1).size;have sz1:=(hX2).size;have sz2:=(hX3).size;have sz3:=(hX4).size;have sz4:=(hX5).size;have sv:=(ho3.lt (g:=bv) rfl).2;have sr:=(ho5.lt (g:=br) rfl).2;have hz6:=Hz6.out;have hzv:=Hzv.out;have hzr:=Hzr.out;try simp only[World.size_alloc,World.size_drew] at sz0 sz1 sz2 sz3 sz4 sv hzv sr hzr hz6
      have HVS:=lh ((ho3.ext ((hX4.tr hX5))).set (p:=⟨b6,0,none⟩) (by simp[AD];omega) (.slice (some ⟨bv,0,none⟩) g.length g.length));have HRS:=lh ((ho5.ext ((Aa.rfl' _):Aa wa5 wa5)).set (p:=⟨b6,0,none⟩) (by simp[AD];omega) (.slice (some ⟨bv,0,none⟩) g.length g.length));have E0S:=lh (Aa.set (((((hX1.tr hX2).tr hX3).tr hX4).tr hX5)) (p:=⟨b6,0,none⟩) (by simp;omega) (.slice (some ⟨bv,0,none⟩) g.length g.length));have hc6:=World.cell?_setCell_same wa5 _ (.slice (some ⟨bv,0,none⟩) g.length g.length) hc6;have nvb:bv≠b6:=by omega
      have nrb:br≠b6:=by omega
      have nvr:bv≠br:=by omega
      have gv:w.heap.size+1<=bv:=(ho3.lt (g:=bv) rfl).1;clear sz0 sz1 sz2 sz3 sz4 sv hzv sr hzr hz6;go_simp;try simp only[pg]
      clear hHeld;refine hK.out _ _ (by exact(E0S.out).cellE q0) fun hHeld=>?_;clear hK K;try simp only[Act.put]
      refine ty 8 ?_;refine dn ?_;go_wp2_with fail
      have gr:w.heap.size+1<=br:=(HRS.out.lt (g:=br) rfl).1;go_meet
      refine⟨b6,bv,br,rfl,rfl,hc6,?_,?_,by omega,by omega,by omega,by omega,by omega,by omega,((Aa.rfl' _).dr).tr E0S.out⟩
      ·have:=HVS.out;rw[AJ _ _ rfl] at this;exact this
      ·have:=HRS.out;rw[AJ _ _ rfl] at this;exact this
     refine AllReadyH.cons rfl (fun K hK=>?_) ?_
     ·have hl5:=Au hc6;have hc6:=((hX3.tr hX4)).cellE hc6;have hf6:=(((hX3.tr hX4)).frozen (p:=⟨b6,0,none⟩) hl5).trans hf6;have hl6:=Au hc6;have sz0:=(hX1).size;have sz1:=(hX2).size;have sz2:=(hX3).size;have sz3:=(hX4).size;have sv:=(ho3.lt (g:=bv) rfl).2;have hz6:=Hz6.out;have hzv:=Hzv.out;try simp only[World.size_alloc,World.size_drew] at sz0 sz1 sz2 sz3 sv hzv hz6
      have HVS:=lh ((ho3.ext (hX4)).set (p:=⟨b6,0,none⟩) (by simp[AD];omega) (.slice (some ⟨bv,0,none⟩) g.length g.length));have E0S:=lh (Aa.set ((((hX1.tr hX2).tr hX3).tr hX4)) (p:=⟨b6,0,none⟩) (by simp;omega) (.slice (some ⟨bv,0,none⟩) g.length g.length));have hc6:=World.cell?_setCell_same wa4 _ (.slice (some ⟨bv,0,none⟩) g.length g.length) hc6;have nvb:bv≠b6:=by omega
      have gv:w.heap.size+1<=bv:=(ho3.lt (g:=bv) rfl).1;clear sz0 sz1 sz2 sz3 sv hzv hz6;go_simp;try simp only[pg]
      clear hHeld;refine hK.out _ _ (by exact(E0S.out).cellE q0) fun hHeld=>?_;clear hK K;try simp only[Act.put]
      refine Cu 5 rfl fun K hK=>?_;refine AC rfl rfl Bq (B:=w.heap.size+1) rfl rfl (by omega) (by omega) (by have:=(E0S.out:Aa (World.drew (w.alloc (.cells #[.slice A g.length c] 35))) (World.setCell wa4 ⟨b6,0,none⟩ (.slice (some ⟨bv,0,none⟩) g.length g.length))).size;simp only[World.size_alloc,World.size_drew] at this ⊢;omega) ?_;intro br wa5 hzr ho5 hX5;have Hzr:=lh hzr;clear hzr;try simp only[pg]
      clear hHeld;refine hK.out _ _ (by exact((E0S.out.tr hX5)).cellE q0) fun hHeld=>?_;clear hK K;try simp only[Act.put,pu]
      refine ty 8 ?_;refine dn ?_;go_wp2_with fail
      have hl6:=Au hc6;have sz0:=(hX5).size;have sv:=(HVS.out.lt (g:=bv) rfl).2;have sr:=(ho5.lt (g:=br) rfl).2;have hz6:=Hz6.out;have hzv:=Hzv.out;have hzr:=Hzr.out;try simp only[World.size_setCell] at sz0 sv hzv sr hzr hz6
      have hc6:=(hX5).cellE hc6;have gr:w.heap.size+1<=br:=(ho5.lt (g:=br) rfl).1;go_meet
      refine⟨b6,bv,br,rfl,rfl,hc6,?_,?_,by omega,by omega,by omega,by omega,by omega,by omega,((Aa.rfl' _).dr).tr (E0S.out.tr hX5)⟩
      ·have:=(HVS.out.ext (hX5));rw[AJ _ _ rfl] at this;exact this
      ·have:=ho5;rw[AJ _ _ rfl] at this;exact this
     exact AllReadyH.nil
    refine AllReadyH.cons rfl (fun K hK=>?_) ?_
    ·go_simp;refine(HSZ.out _).mono ?_;rintro e wa3 ⟨rfl,hX3⟩;try go_wp2_with fail
     clear hHeld;refine hK.out _ _ (by exact(((hX1.tr hX2).tr hX3)).cellE q0) fun hHeld=>?_;clear hK K;try simp only[Act.put,pu]
     refine wpAnyH_ready (rs:=[2,5]) (by kernel_rfl) (by simp) ?_;refine AllReadyH.cons rfl (fun K hK=>?_) ?_
     ·refine AC rfl rfl Bc (B:=w.heap.size+1) rfl rfl (by omega) (by omega) (by have:=(((hX1.tr hX2).tr hX3)).size;simp only[World.size_alloc,World.size_drew] at this ⊢;omega) ?_;intro bv wa4 hzv ho4 hX4;have Hzv:=lh hzv;clear hzv;try simp only[pg]
      clear hHeld;refine hK.out _ _ (by exact((((hX1.tr hX2).tr hX3).tr hX4)).cellE q0) fun hHeld=>?_;clear hK K;try simp only[Act.put,pu]
      refine wpAnyH_ready (rs:=[5,7]) (by kernel_rfl) (by simp) ?_;refine AllReadyH.cons rfl (fun K hK=>?_) ?_
      ·refine AC rfl rfl Bq (B:=w.heap.size+1) rfl rfl (by omega) (by omega) (by have:=((((hX1.tr hX2).tr hX3).tr hX4)).size;simp only[World.size_alloc,World.size_drew] at this ⊢;omega) ?_;intro br wa5 hzr ho5 hX5;have Hzr:=lh hzr;clear hzr;try simp only[pg]
       clear hHeld;refine hK.out _ _ (by exact(((((hX1.tr hX2).tr hX3).tr hX4).tr hX5)).cellE q0) fun hHeld=>?_;clear hK K;try simp only[Act.put,pu]
       refine Cu 7 rfl fun K hK=>?_;have hl5:=Au hc6;have hc6:=(((hX3.tr hX4).tr hX5)).cellE hc6;have hf6:=((((hX3.tr hX4).tr hX5)).frozen (p:=⟨b6,0,none⟩) hl5).trans hf6;have hl6:=Au hc6;have sz0:=(hX1).size;have sz1:=(hX2).size;have sz2:=(hX3).size;have sz3:=(hX4).size;have sz4:=(hX5).size;have sv:=(ho4.lt (g:=bv) rfl).2;have sr:=(ho5.lt (g:=br) rfl).2;have hz6:=Hz6.out;have hzv:=Hzv.out;have hzr:=Hzr.out;try simp only[World.size_alloc,World.size_drew] at sz0 sz1 sz2 sz3 sz4 sv hzv sr hzr hz6
       have HVS:=lh ((ho4.ext (hX5)).set (p:=⟨b6,0,none⟩) (by simp[AD];omega) (.slice (some ⟨bv,0,none⟩) g.length g.length));have HRS:=lh ((ho5.ext ((Aa.rfl' _):Aa wa5 wa5)).set (p:=⟨b6,0,none⟩) (by simp[AD];omega) (.slice (some ⟨bv,0,none⟩) g.length g.length));have E0S:=lh (Aa.set (((((hX1.tr hX2).tr hX3).tr hX4).tr hX5)) (p:=⟨b6,0,none⟩) (by simp;omega) (.slice (some ⟨bv,0,none⟩) g.length g.length));have hc6:=World.cell?_setCell_same wa5 _ (.slice (some ⟨bv,0,none⟩) g.length g.length) hc6;have nvb:bv≠b6:=by omega
       have nrb:br≠b6:=by omega
       have nvr:bv≠br:=by omega
       have gv:w.heap.size+1<=bv:=(ho4.lt (g:=bv) rfl).1;clear sz0 sz1 sz2 sz3 sz4 sv hzv sr hzr hz6;go_simp;try simp only[pg]
       clear hHeld;refine hK.out _ _ (by exact(E0S.out).cellE q0) fun hHeld=>?_;clear hK K;try simp only[Act.put]
       refine ty 8 ?_;refine dn ?_;go_wp2_with fail
       have gr:w.heap.size+1<=br:=(HRS.out.lt (g:=br) rfl).1;go_meet
       refine⟨b6,bv,br,rfl,rfl,hc6,?_,?_,by omega,by omega,by omega,by omega,by omega,by omega,((Aa.rfl' _).dr).tr E0S.out⟩
       ·have:=HVS.out;rw[AJ _ _ rfl] at this;exact this
       ·have:=HRS.out;rw[AJ _ _ rfl] at this;exact this
      refine AllReadyH.cons rfl (fun K hK=>?_) ?_
      ·have hl5:=Au hc6;have hc6:=((hX3.tr hX4)).cellE hc6;have hf6:=(((hX3.tr hX4)).frozen (p:=⟨b6,0,none⟩) hl5).trans hf6;have hl6:=Au hc6;have sz0:=(hX1).size;have sz1:=(hX2).size;have sz2:=(hX3).size;have sz3:=(hX4).size;have sv:=(ho4.lt (g:=bv) rfl).2;have hz6:=Hz6.out;have hzv:=Hzv.out;try simp only[World.size_alloc,World.size_drew] at sz0 sz1 sz2 sz3 sv hzv hz6
       have HVS:=lh ((ho4.ext ((Aa.rfl' _):Aa wa4 wa4)).set (p:=⟨b6,0,none⟩) (by simp[AD];omega) (.slice (some ⟨bv,0,none⟩) g.length g.length));have E0S:=lh (Aa.set ((((hX1.tr hX2).tr hX3).tr hX4)) (p:=⟨b6,0,none⟩) (by simp;omega) (.slice (some ⟨bv,0,none⟩) g.length g.length));have hc6:=World.cell?_setCell_same wa4 _ (.slice (some ⟨bv,0,none⟩) g.length g.length) hc6;have nvb:bv≠b6:=by omega
       have gv:w.heap.size+1<=bv:=(ho4.lt (g:=bv) rfl).1;clear sz0 sz1 sz2 sz3 sv hzv hz6;go_simp;try simp only[pg]
       clear hHeld;refine hK.out _ _ (by exact(E0S.out).cellE q0) fun hHeld=>?_;clear hK K;try simp only[Act.put]
       refine Cu 5 rfl fun K hK=>?_;refine AC rfl rfl Bq (B:=w.heap.size+1) rfl rfl (by omega) (by omega) (by have:=(E0S.out:Aa (World.drew (w.alloc (.cells #[.slice A g.length c] 35))) (World.setCell wa4 ⟨b6,0,none⟩ (.slice (some ⟨bv,0,none⟩) g.length g.length))).size;simp only[World.size_alloc,World.size_drew] at this ⊢;omega) ?_;intro br wa5 hzr ho5 hX5;have Hzr:=lh hzr;clear hzr;try simp only[pg]
       clear hHeld;refine hK.out _ _ (by exact((E0S.out.tr hX5)).cellE q0) fun hHeld=>?_;clear hK K;try simp only[Act.put,pu]
       refine ty 8 ?_;refine dn ?_;go_wp2_with fail
       have hl6:=Au hc6;have sz0:=(hX5).size;have sv:=(HVS.out.lt (g:=bv) rfl).2;have sr:=(ho5.lt (g:=br) rfl).2;have hz6:=Hz6.out;have hzv:=Hzv.out;have hzr:=Hzr.out;try simp only[World.size_setCell] at sz0 sv hzv sr hzr hz6
       have hc6:=(hX5).cellE hc6;have gr:w.heap.size+1<=br:=(ho5.lt (g:=br) rfl).1;go_meet
       refine⟨b6,bv,br,rfl,rfl,hc6,?_,?_,by omega,by omega,by omega,by omega,by omega,by omega,((Aa.rfl' _).dr).tr (E0S.out.tr hX5)⟩
       ·have:=(HVS.out.ext (hX5));rw[AJ _ _ rfl] at this;exact this
       ·have:=ho5;rw[AJ _ _ rfl] at this;exact this
      exact AllReadyH.nil
     refine AllReadyH.cons rfl (fun K hK=>?_) ?_
     ·refine AC rfl rfl Bq (B:=w.heap.size+1) rfl rfl (by omega) (by omega) (by have:=(((hX1.tr hX2).tr hX3)).size;simp only[World.size_alloc,World.size_drew] at this ⊢;omega) ?_;intro br wa4 hzr ho4 hX4;have Hzr:=lh hzr;clear hzr;try simp only[pg]
      clear hHeld;refine hK.out _ _ (by exact((((hX1.tr hX2).tr hX3).tr hX4)).cellE q0) fun hHeld=>?_;clear hK K;try simp only[Act.put,pu]
      refine Cu 2 rfl fun K hK=>?_;refine AC rfl rfl Bc (B:=w.heap.size+1) rfl rfl (by omega) (by omega) (by have:=((((hX1.tr hX2).tr hX3).tr hX4)).size;simp only[World.size_alloc,World.size_drew] at this ⊢;omega) ?_;intro bv wa5 hzv ho5 hX5;have Hzv:=lh hzv;clear hzv;try simp only[pg]
      clear hHeld;refine hK.out _ _ (by exact(((((hX1.tr hX2).tr hX3).tr hX4).tr hX5)).cellE q0) fun hHeld=>?_;clear hK K;try simp only[Act.put,pu]
      refine Cu 7 rfl fun K hK=>?_;have hl5:=Au hc6;have hc6:=(((hX3.tr hX4).tr hX5)).cellE hc6;have hf6:=((((hX3.tr hX4).tr hX5)).frozen (p:=⟨b6,0,none⟩) hl5).trans hf6;have hl6:=Au hc6;have sz0:=(hX1).size;have sz1:=(hX2).size;have sz2:=(hX3).size;have sz3:=(hX4).size;have sz4:=(hX5).size;have sv:=(ho5.lt (g:=bv) rfl).2;have sr:=(ho4.lt (g:=br) rfl).2;have hz6:=Hz6.out;have hzv:=Hzv.out;have hzr:=Hzr.out;try simp only[World.size_alloc,World.size_drew] at sz0 sz1 sz2 sz3 sz4 sv hzv sr hzr hz6
      have HVS:=lh ((ho5.ext ((Aa.rfl' _):Aa wa5 wa5)).set (p:=⟨b6,0,none⟩) (by simp[AD];omega) (.slice (some ⟨bv,0,none⟩) g.length g.length));have HRS:=lh ((ho4.ext (hX5)).set (p:=⟨b6,0,none⟩) (by simp[AD];omega) (.slice (some ⟨bv,0,none⟩) g.length g.length));have E0S:=lh (Aa.set (((((hX1.tr hX2).tr hX3).tr hX4).tr hX5)) (p:=⟨b6,0,none⟩) (by simp;omega) (.slice (some ⟨bv,0,none⟩) g.length g.length));have hc6:=World.cell?_setCell_same wa5 _ (.slice (some ⟨bv,0,none⟩) g.length g.length) hc6;have nvb:bv≠b6:=by omega
      have nrb:br≠b6:=by omega
      have nvr:bv≠br:=by omega
      have gv:w.heap.size+1<=bv:=(ho5.lt (g:=bv) rfl).1;clear sz0 sz1 sz2 sz3 sz4 sv hzv sr hzr hz6;go_simp;try simp only[pg]
      clear hHeld;refine hK.out _ _ (by exact(E0S.out).cellE q0) fun hHeld=>?_;clear hK K;try simp only[Act.put]
      refine ty 8 ?_;refine dn ?_;go_wp2_with fail
      have gr:w.heap.size+1<=br:=(HRS.out.lt (g:=br) rfl).1;go_meet
      refine⟨b6,bv,br,rfl,rfl,hc6,?_,?_,by omega,by omega,by omega,by omega,by omega,by omega,((Aa.rfl' _).dr).tr E0S.out⟩
      ·have:=HVS.out;rw[AJ _ _ rfl] at this;exact this
      ·have:=HRS.out;rw[AJ _ _ rfl] at this;exact this
     exact AllReadyH.nil
    exact AllReadyH.nil
   exact AllReadyH.nil
  refine AllReadyH.cons rfl (fun K hK=>?_) ?_
  ·refine CQ rfl rfl ?_;intro b6 wa1 hz6 hc6 hf6 hX1 hs6;have h6:w.heap.size+1<=b6:=by have:=((Aa.rfl' _):Aa (World.drew (w.alloc (.cells #[.slice A g.length c] 35))) (World.drew (w.alloc (.cells #[.slice A g.length c] 35)))).size;simp only[World.size_alloc,World.size_drew] at this hz6;omega
   have Hz6:=lh hz6;clear hz6;try simp only[pg]
   clear hHeld;refine hK.out _ _ (by exact(hX1).cellE q0) fun hHeld=>?_;clear hK K;try simp only[Act.put,pu]
   refine Cu 1 rfl fun K hK=>?_;go_simp;refine(HSZ.out _).mono ?_;rintro e wa2 ⟨rfl,hX2⟩;try go_wp2_with fail
   clear hHeld;refine hK.out _ _ (by exact((hX1.tr hX2)).cellE q0) fun hHeld=>?_;clear hK K;try simp only[Act.put,pu]
   refine wpAnyH_ready (rs:=[2,4]) (by kernel_rfl) (by simp) ?_;refine AllReadyH.cons rfl (fun K hK=>?_) ?_
   ·refine AC rfl rfl Bc (B:=w.heap.size+1) rfl rfl (by omega) (by omega) (by have:=((hX1.tr hX2)).size;simp only[World.size_alloc,World.size_drew] at this ⊢;omega) ?_;intro bv wa3 hzv ho3 hX3;have Hzv:=lh hzv;clear hzv;try simp only[pg]
    clear hHeld;refine hK.out _ _ (by exact(((hX1.tr hX2).tr hX3)).cellE q0) fun hHeld=>?_;clear hK K;try simp only[Act.put,pu]
    refine Cu 4 rfl fun K hK=>?_;go_simp;refine(HSZ.out _).mono ?_;rintro e wa4 ⟨rfl,hX4⟩;try go_wp2_with fail
    clear hHeld;refine hK.out _ _ (by exact((((hX1.tr hX2).tr hX3).tr hX4)).cellE q0) fun hHeld=>?_;clear hK K;try simp only[Act.put,pu]
    refine wpAnyH_ready (rs:=[5,7]) (by kernel_rfl) (by simp) ?_;refine AllReadyH.cons rfl (fun K hK=>?_) ?_
    ·refine AC rfl rfl Bq (B:=w.heap.size+1) rfl rfl (by omega) (by omega) (by have:=((((hX1.tr hX2).tr hX3).tr hX4)).size;simp only[World.size_alloc,World.size_drew] at this ⊢;omega) ?_;intro br wa5 hzr ho5 hX5;have Hzr:=lh hzr;clear hzr;try simp only[pg]
     clear hHeld;refine hK.out _ _ (by exact(((((hX1.tr hX2).tr hX3).tr hX4).tr hX5)).cellE q0) fun hHeld=>?_;clear hK K;try simp only[Act.put,pu]
     refine Cu 7 rfl fun K hK=>?_;have hl5:=Au hc6;have hc6:=((((hX2.tr hX3).tr hX4).tr hX5)).cellE hc6;have hf6:=(((((hX2.tr hX3).tr hX4).tr hX5)).frozen (p:=⟨b6,0,none⟩) hl5).trans hf6;have hl6:=Au hc6;have sz0:=(hX1).size;have sz1:=(hX2).size;have sz2:=(hX3).size;have sz3:=(hX4).size;have sz4:=(hX5).size;have sv:=(ho3.lt (g:=bv) rfl).2;have sr:=(ho5.lt (g:=br) rfl).2;have hz6:=Hz6.out;have hzv:=Hzv.out;have hzr:=Hzr.out;try simp only[World.size_alloc,World.size_drew] at sz0 sz1 sz2 sz3 sz4 sv hzv sr hzr hz6
     have HVS:=lh ((ho3.ext ((hX4.tr hX5))).set (p:=⟨b6,0,none⟩) (by simp[AD];omega) (.slice (some ⟨bv,0,none⟩) g.length g.length));have HRS:=lh ((ho5.ext ((Aa.rfl' _):Aa wa5 wa5)).set (p:=⟨b6,0,none⟩) (by simp[AD];omega) (.slice (some ⟨bv,0,none⟩) g.length g.length));have E0S:=lh (Aa.set (((((hX1.tr hX2).tr hX3).tr hX4).tr hX5)) (p:=⟨b6,0,none⟩) (by simp;omega) (.slice (some ⟨bv,0,none⟩) g.length g.length));have hc6:=World.cell?_setCell_same wa5 _ (.slice (some ⟨bv,0,none⟩) g.length g.length) hc6;have nvb:bv≠b6:=by omega
     have nrb:br≠b6:=by omega
     have nvr:bv≠br:=by omega
     have gv:w.heap.size+1<=bv:=(ho3.lt (g:=bv) rfl).1;clear sz0 sz1 sz2 sz3 sz4 sv hzv sr hzr hz6;go_simp;try simp only[pg]
     clear hHeld;refine hK.out _ _ (by exact(E0S.out).cellE q0) fun hHeld=>?_;clear hK K;try simp only[Act.put]
     refine ty 8 ?_;refine dn ?_;go_wp2_with fail
     have gr:w.heap.size+1<=br:=(HRS.out.lt (g:=br) rfl).1;go_meet
     refine⟨b6,bv,br,rfl,rfl,hc6,?_,?_,by omega,by omega,by omega,by omega,by omega,by omega,((Aa.rfl' _).dr).tr E0S.out⟩
     ·have:=HVS.out;rw[AJ _ _ rfl] at this;exact this
     ·have:=HRS.out;rw[AJ _ _ rfl] at this;exact this
    refine AllReadyH.cons rfl (fun K hK=>?_) ?_
    ·have hl5:=Au hc6;have hc6:=(((hX2.tr hX3).tr hX4)).cellE hc6;have hf6:=((((hX2.tr hX3).tr hX4)).frozen (p:=⟨b6,0,none⟩) hl5).trans hf6;have hl6:=Au hc6;have sz0:=(hX1).size;have sz1:=(hX2).size;have sz2:=(hX3).size;have sz3:=(hX4).size;have sv:=(ho3.lt (g:=bv) rfl).2;have hz6:=Hz6.out;have hzv:=Hzv.out;try simp only[World.size_alloc,World.size_drew] at sz0 sz1 sz2 sz3 sv hzv hz6
     have HVS:=lh ((ho3.ext (hX4)).set (p:=⟨b6,0,none⟩) (by simp[AD];omega) (.slice (some ⟨bv,0,none⟩) g.length g.length));have E0S:=lh (Aa.set ((((hX1.tr hX2).tr hX3).tr hX4)) (p:=⟨b6,0,none⟩) (by simp;omega) (.slice (some ⟨bv,0,none⟩) g.length g.length));have hc6:=World.cell?_setCell_same wa4 _ (.slice (some ⟨bv,0,none⟩) g.length g.length) hc6;have nvb:bv≠b6:=by omega
     have gv:w.heap.size+1<=bv:=(ho3.lt (g:=bv) rfl).1;clear sz0 sz1 sz2 sz3 sv hzv hz6;go_simp;try simp only[pg]
     clear hHeld;refine hK.out _ _ (by exact(E0S.out).cellE q0) fun hHeld=>?_;clear hK K;try simp only[Act.put]
     refine Cu 5 rfl fun K hK=>?_;refine AC rfl rfl Bq (B:=w.heap.size+1) rfl rfl (by omega) (by omega) (by have:=(E0S.out:Aa (World.drew (w.alloc (.cells #[.slice A g.length c] 35))) (World.setCell wa4 ⟨b6,0,none⟩ (.slice (some ⟨bv,0,none⟩) g.length g.length))).size;simp only[World.size_alloc,World.size_drew] at this ⊢;omega) ?_;intro br wa5 hzr ho5 hX5;have Hzr:=lh hzr;clear hzr;try simp only[pg]
     clear hHeld;refine hK.out _ _ (by exact((E0S.out.tr hX5)).cellE q0) fun hHeld=>?_;clear hK K;try simp only[Act.put,pu]
     refine ty 8 ?_;refine dn ?_;go_wp2_with fail
     have hl6:=Au hc6;have sz0:=(hX5).size;have sv:=(HVS.out.lt (g:=bv) rfl).2;have sr:=(ho5.lt (g:=br) rfl).2;have hz6:=Hz6.out;have hzv:=Hzv.out;have hzr:=Hzr.out;try simp only[World.size_alloc,World.size_drew,World.size_setCell] at sz0 sv hzv sr hzr hz6
     have hc6:=(hX5).cellE hc6;have gr:w.heap.size+1<=br:=(ho5.lt (g:=br) rfl).1;go_meet
     refine⟨b6,bv,br,rfl,rfl,hc6,?_,?_,by omega,by omega,by omega,by omega,by omega,by omega,((Aa.rfl' _).dr).tr (E0S.out.tr hX5)⟩
     ·have:=(HVS.out.ext (hX5));rw[AJ _ _ rfl] at this;exact this
     ·have:=ho5;rw[AJ _ _ rfl] at this;exact this
    exact AllReadyH.nil
   refine AllReadyH.cons rfl (fun K hK=>?_) ?_
   ·go_simp;refine(HSZ.out _).mono ?_;rintro e wa3 ⟨rfl,hX3⟩;try go_wp2_with fail
    clear hHeld;refine hK.out _ _ (by exact(((hX1.tr hX2).tr hX3)).cellE q0) fun hHeld=>?_;clear hK K;try simp only[Act.put,pu]
    refine wpAnyH_ready (rs:=[2,5]) (by kernel_rfl) (by simp) ?_;refine AllReadyH.cons rfl (fun K hK=>?_) ?_
    ·refine AC rfl rfl Bc (B:=w.heap.size+1) rfl rfl (by omega) (by omega) (by have:=(((hX1.tr hX2).tr hX3)).size;simp only[World.size_alloc,World.size_drew] at this ⊢;omega) ?_;intro bv wa4 hzv ho4 hX4;have Hzv:=lh hzv;clear hzv;try simp only[pg]
     clear hHeld;refine hK.out _ _ (by exact((((hX1.tr hX2).tr hX3).tr hX4)).cellE q0) fun hHeld=>?_;clear hK K;try simp only[Act.put,pu]
     refine wpAnyH_ready (rs:=[5,7]) (by kernel_rfl) (by simp) ?_;refine AllReadyH.cons rfl (fun K hK=>?_) ?_
     ·refine AC rfl rfl Bq (B:=w.heap.size+1) rfl rfl (by omega) (by omega) (by have:=((((hX1.tr hX2).tr hX3).tr hX4)).size;simp only[World.size_alloc,World.size_drew] at this ⊢;omega) ?_;intro br wa5 hzr ho5 hX5;have Hzr:=lh hzr;clear hzr;try simp only[pg]
      clear hHeld;refine hK.out _ _ (by exact(((((hX1.tr hX2).tr hX3).tr hX4).tr hX5)).cellE q0) fun hHeld=>?_;clear hK K;try simp only[Act.put,pu]
      refine Cu 7 rfl fun K hK=>?_;have hl5:=Au hc6;have hc6:=((((hX2.tr hX3).tr hX4).tr hX5)).cellE hc6;have hf6:=(((((hX2.tr hX3).tr hX4).tr hX5)).frozen (p:=⟨b6,0,none⟩) hl5).trans hf6;have hl6:=Au hc6;have sz0:=(hX1).size;have sz1:=(hX2).size;have sz2:=(hX3).size;have sz3:=(hX4).size;have sz4:=(hX5).size;have sv:=(ho4.lt (g:=bv) rfl).2;have sr:=(ho5.lt (g:=br) rfl).2;have hz6:=Hz6.out;have hzv:=Hzv.out;have hzr:=Hzr.out;try simp only[World.size_alloc,World.size_drew] at sz0 sz1 sz2 sz3 sz4 sv hzv sr hzr hz6
      have HVS:=lh ((ho4.ext (hX5)).set (p:=⟨b6,0,none⟩) (by simp[AD];omega) (.slice (some ⟨bv,0,none⟩) g.length g.length));have HRS:=lh ((ho5.ext ((Aa.rfl' _):Aa wa5 wa5)).set (p:=⟨b6,0,none⟩) (by simp[AD];omega) (.slice (some ⟨bv,0,none⟩) g.length g.length));have E0S:=lh (Aa.set (((((hX1.tr hX2).tr hX3).tr hX4).tr hX5)) (p:=⟨b6,0,none⟩) (by simp;omega) (.slice (some ⟨bv,0,none⟩) g.length g.length));have hc6:=World.cell?_setCell_same wa5 _ (.slice (some ⟨bv,0,none⟩) g.length g.length) hc6;have nvb:bv≠b6:=by omega
      have nrb:br≠b6:=by omega
      have nvr:bv≠br:=by omega
      have gv:w.heap.size+1<=bv:=(ho4.lt (g:=bv) rfl).1;clear sz0 sz1 sz2 sz3 sz4 sv hzv sr hzr hz6;go_simp;try simp only[pg]
      clear hHeld;refine hK.out _ _ (by exact(E0S.out).cellE q0) fun hHeld=>?_;clear hK K;try simp only[Act.put]
      refine ty 8 ?_;refine dn ?_;go_wp2_with fail
      have gr:w.heap.size+1<=br:=(HRS.out.lt (g:=br) rfl).1;go_meet
      refine⟨b6,bv,br,rfl,rfl,hc6,?_,?_,by omega,by omega,by omega,by omega,by omega,by omega,((Aa.rfl' _).dr).tr E0S.out⟩
      ·have:=HVS.out;rw[AJ _ _ rfl] at this;exact this
      ·have:=HRS.out;rw[AJ _ _ rfl] at this;exact this
     refine AllReadyH.cons rfl (fun K hK=>?_) ?_
     ·have hl5:=Au hc6;have hc6:=(((hX2.tr hX3).tr hX4)).cellE hc6;have hf6:=((((hX2.tr hX3).tr hX4)).frozen (p:=⟨b6,0,none⟩) hl5).trans hf6;have hl6:=Au hc6;have sz0:=(hX1).size;have sz1:=(hX2).size;have sz2:=(hX3).size;have sz3:=(hX4).size;have sv:=(ho4.lt (g:=bv) rfl).2;have hz6:=Hz6.out;have hzv:=Hzv.out;try simp only[World.size_alloc,World.size_drew] at sz0 sz1 sz2 sz3 sv hzv hz6
      have HVS:=lh ((ho4.ext ((Aa.rfl' _):Aa wa4 wa4)).set (p:=⟨b6,0,none⟩) (by simp[AD];omega) (.slice (some ⟨bv,0,none⟩) g.length g.length));have E0S:=lh (Aa.set ((((hX1.tr hX2).tr hX3).tr hX4)) (p:=⟨b6,0,none⟩) (by simp;omega) (.slice (some ⟨bv,0,none⟩) g.length g.length));have hc6:=World.cell?_setCell_same wa4 _ (.slice (some ⟨bv,0,none⟩) g.length g.length) hc6;have nvb:bv≠b6:=by omega
      have gv:w.heap.size+1<=bv:=(ho4.lt (g:=bv) rfl).1;clear sz0 sz1 sz2 sz3 sv hzv hz6;go_simp;try simp only[pg]
      clear hHeld;refine hK.out _ _ (by exact(E0S.out).cellE q0) fun hHeld=>?_;clear hK K;try simp only[Act.put]
      refine Cu 5 rfl fun K hK=>?_;refine AC rfl rfl Bq (B:=w.heap.size+1) rfl rfl (by omega) (by omega) (by have:=(E0S.out:Aa (World.drew (w.alloc (.cells #[.slice A g.length c] 35))) (World.setCell wa4 ⟨b6,0,none⟩ (.slice (some ⟨bv,0,none⟩) g.length g.length))).size;simp only[World.size_alloc,World.size_drew] at this ⊢;omega) ?_;intro br wa5 hzr ho5 hX5;have Hzr:=lh hzr;clear hzr;try simp only[pg]
      clear hHeld;refine hK.out _ _ (by exact((E0S.out.tr hX5)).cellE q0) fun hHeld=>?_;clear hK K;try simp only[Act.put,pu]
      refine ty 8 ?_;refine dn ?_;go_wp2_with fail
      have hl6:=Au hc6;have sz0:=(hX5).size;have sv:=(HVS.out.lt (g:=bv) rfl).2;have sr:=(ho5.lt (g:=br) rfl).2;have hz6:=Hz6.out;have hzv:=Hzv.out;have hzr:=Hzr.out;try simp only[World.size_alloc,World.size_drew,World.size_setCell] at sz0 sv hzv sr hzr hz6
      have hc6:=(hX5).cellE hc6;have gr:w.heap.size+1<=br:=(ho5.lt (g:=br) rfl).1;go_meet
      refine⟨b6,bv,br,rfl,rfl,hc6,?_,?_,by omega,by omega,by omega,by omega,by omega,by omega,((Aa.rfl' _).dr).tr (E0S.out.tr hX5)⟩
      ·have:=(HVS.out.ext (hX5));rw[AJ _ _ rfl] at this;exact this
      ·have:=ho5;rw[AJ _ _ rfl] at this;exact this
     exact AllReadyH.nil
    refine AllReadyH.cons rfl (fun K hK=>?_) ?_
    ·refine AC rfl rfl Bq (B:=w.heap.size+1) rfl rfl (by omega) (by omega) (by have:=(((hX1.tr hX2).tr hX3)).size;simp only[World.size_alloc,World.size_drew] at this ⊢;omega) ?_;intro br wa4 hzr ho4 hX4;have Hzr:=lh hzr;clear hzr;try simp only[pg]
     clear hHeld;refine hK.out _ _ (by exact((((hX1.tr hX2).tr hX3).tr hX4)).cellE q0) fun hHeld=>?_;clear hK K;try simp only[Act.put,pu]
     refine Cu 2 rfl fun K hK=>?_;refine AC rfl rfl Bc (B:=w.heap.size+1) rfl rfl (by omega) (by omega) (by have:=((((hX1.tr hX2).tr hX3).tr hX4)).size;simp only[World.size_alloc,World.size_drew] at this ⊢;omega) ?_;intro bv wa5 hzv ho5 hX5;have Hzv:=lh hzv;clear hzv;try simp only[pg]
     clear hHeld;refine hK.out _ _ (by exact(((((hX1.tr hX2).tr hX3).tr hX4).tr hX5)).cellE q0) fun hHeld=>?_;clear hK K;try simp only[Act.put,pu]
     refine Cu 7 rfl fun K hK=>?_;have hl5:=Au hc6;have hc6:=((((hX2.tr hX3).tr hX4).tr hX5)).cellE hc6;have hf6:=(((((hX2.tr hX3).tr hX4).tr hX5)).frozen (p:=⟨b6,0,none⟩) hl5).trans hf6;have hl6:=Au hc6;have sz0:=(hX1).size;have sz1:=(hX2).size;have sz2:=(hX3).size;have sz3:=(hX4).size;have sz4:=(hX5).size;have sv:=(ho5.lt (g:=bv) rfl).2;have sr:=(ho4.lt (g:=br) rfl).2;have hz6:=Hz6.out;have hzv:=Hzv.out;have hzr:=Hzr.out;try simp only[World.size_alloc,World.size_drew] at sz0 sz1 sz2 sz3 sz4 sv hzv sr hzr hz6
     have HVS:=lh ((ho5.ext ((Aa.rfl' _):Aa wa5 wa5)).set (p:=⟨b6,0,none⟩) (by simp[AD];omega) (.slice (some ⟨bv,0,none⟩) g.length g.length));have HRS:=lh ((ho4.ext (hX5)).set (p:=⟨b6,0,none⟩) (by simp[AD];omega) (.slice (some ⟨bv,0,none⟩) g.length g.length));have E0S:=lh (Aa.set (((((hX1.tr hX2).tr hX3).tr hX4).tr hX5)) (p:=⟨b6,0,none⟩) (by simp;omega) (.slice (some ⟨bv,0,none⟩) g.length g.length));have hc6:=World.cell?_setCell_same wa5 _ (.slice (some ⟨bv,0,none⟩) g.length g.length) hc6;have nvb:bv≠b6:=by omega
     have nrb:br≠b6:=by omega
     have nvr:bv≠br:=by omega
     have gv:w.heap.size+1<=bv:=(ho5.lt (g:=bv) rfl).1;clear sz0 sz1 sz2 sz3 sz4 sv hzv sr hzr hz6;go_simp;try simp only[pg]
     clear hHeld;refine hK.out _ _ (by exact(E0S.out).cellE q0) fun hHeld=>?_;clear hK K;try simp only[Act.put]
     refine ty 8 ?_;refine dn ?_;go_wp2_with fail
     have gr:w.heap.size+1<=br:=(HRS.out.lt (g:=br) rfl).1;go_meet
     refine⟨b6,bv,br,rfl,rfl,hc6,?_,?_,by omega,by omega,by omega,by omega,by omega,by omega,((Aa.rfl' _).dr).tr E0S.out⟩
     ·have:=HVS.out;rw[AJ _ _ rfl] at this;exact this
     ·have:=HRS.out;rw[AJ _ _ rfl] at this;exact this
    exact AllReadyH.nil
   exact AllReadyH.nil
  exact AllReadyH.nil
 case rest =>
  obtain⟨b6,bv,br,rfl,rfl,hb6,hov,hor,d1,d2,d3,d4,d5,d6,ex⟩:=hcut;have hzv:=(hov.lt (g:=bv) rfl).2;have hzr:=(hor.lt (g:=br) rfl).2;have hz6:=Au hb6;have g0:=ex.cellE (show (w.alloc (.cells #[.slice A g.length c] 35)).cell? ⟨w.heap.size,0,none⟩=some (.slice A g.length c) by simp[go_sem]);have Hex:=lh ex;have Hov:=lh hov;have Hor:=lh hor;have d7:bv≠b6:=fun e=>d1 e.symm;have d8:br≠b6:=fun e=>d2 e.symm;have d9:br≠bv:=fun e=>d3 e.symm;clear hov hor ex;go_wp2
  go_loopw [19] (fun i wr=>∃ (k:Nat) (hs:List (Option Addr × Nat)),k<=g.length/\i= .int .i64 k/\hs.length=k/\Aa (w.alloc (.cells #[.slice A g.length c] 35)) wr/\wc.heap.size<=wr.heap.size/\wr.cell? ⟨b6,0,none⟩=some (.slice (some ⟨bv,0,none⟩) g.length g.length) /\
   AA wr (w.heap.size+1) 3 1 (some ⟨bv,0,none⟩) g.length g.length (Ah (Sg.AZ g l k++List.replicate (g.length - k) 0)) /\
   En wr wc.heap.size 3 1 br (AM (Sg.Cm g (Sg.Bz g l) g.length)) hs/\AA wr (w.heap.size+1) 36 1 (some ⟨br,0,none⟩) g.length g.length (Bb (AM (Sg.Cm g (Sg.Bz g l) g.length)) hs++List.replicate (g.length - k) (.slice none 0 0))) (fun i _=>g.length - (intOf i).toNat)
  case atStart =>
   refine⟨0,[],Nat.zero_le _,rfl,rfl,Hex.out,Nat.le_refl _,hb6,?_,En.nil _ _ _ _ _ _,by rw[GD];exact Hor.out⟩;have:=Hov.out;simpa[Sg.AZ,Ah] using this
  case round =>
   clear g0 hb6;obtain⟨k,hs,hk,rfl,hlen,he,hwz,hb6,hov,hinn,hor⟩:=hrel;have Hlen2:=lh hlen;have Ev:=lh (E0.out.tr he);have He:=lh he;have Hv:=lh hov;have Hr:=lh hor;have Hinn:=lh hinn;have hdl:=lh (show (Bb (AM (Sg.Cm g (Sg.Bz g l) g.length)) hs).length=k by rw[Jn (EJ _) (by simp;omega),hlen,Nat.mul_one]);have hl6:=Au hb6;clear hlen he hov hor hinn;by_cases hlt:k<g.length
   ·obtain⟨⟨nk,nf⟩,b,o,Ap,cp,hn,rfl,hkc,hsc,hf,hfl⟩:=(H.out.ext Ev.out).at_ hlt;dsimp only at *;have hb1:=Au hkc;have hkl:k<l.length:=by have:=Hlen.out;omega
    obtain⟨bc,oc,x,rfl,hx,hxc0⟩:=Hc.out.at1 hkl;have hbc:=Au hxc0;have hxc:=Ev.out.cellE hxc0;have hb2:=Au hxc;have hrep:=lh (show List.replicate (g.length - k) (0:Int)=0 :: List.replicate (g.length - (k+1)) 0 by rw[show g.length - k=(g.length - (k+1))+1 from by omega,List.replicate_succ]);have hyv:(Ah (Sg.AZ g l k++List.replicate (g.length - k) 0))[k]? = some (.int .i64 0):=by rw[hrep.out,Ct,List.getElem?_append_right (by simp)];simp
    have hyr:(Bb (AM (Sg.Cm g (Sg.Bz g l) g.length)) hs++List.replicate (g.length - k) (.slice none 0 0))[k]? = some (.slice none 0 0):=by rw[List.getElem?_append_right (by rw[hdl.out];exact Nat.le_refl _),hdl.out,Nat.sub_self,List.getElem?_replicate,if_pos (by omega)]
    have Hyv:=lh hyv;have Hyr:=lh hyr
    have hat:(AM (Sg.Cm g (Sg.Bz g l) g.length))[hs.length]? = some ⟨[],(Sg.Cb g (Sg.Bz g l) k).length,Ah (Sg.Cb g (Sg.Bz g l) k)⟩:=by
     rw[Hlen2.out];exact Dv (by simp[Sg.Cm,hlt])
    have Hat:=lh hat;have cv0:=Hv.out.cell hyv;have cr0:=Hr.out.cell hyr;have fv0:=Hv.out.free k;have fr0:=Hr.out.free k;have hwv:=Au cv0;have hwr:=Au cr0;clear hyv hyr hat;have e9:=((Aa.rfl' wr).al (.cells #[.int .i64 nk,.slice Ap nf.length cp] 70)).dr;have m0:=e9.cellE hb6;by_cases hz:nk=0
    ·have z1:(nk == 0)=true:=by simp[hz]
     have hv:=lh (show Sg.AZ g l (k+1)=Sg.AZ g l k++[x] by simp only[Sg.AZ];rw[L3 hn hx hz]);have hd:=lh (L5 (v:=Sg.Bz g l) hn hz);have m1:=e9.cellE hxc;clear hn hx hz e9;go_wp2_with fail
     refine wp_region_held_drew (S:=(fun W=>W.cell? ⟨b6,0,none⟩=some (.slice (some ⟨bv,0,none⟩) g.length g.length)/\W.cell? ⟨bc,oc+k,none⟩=some (.int .i64 x))) (by kernel_rfl) ?_ (fun hHeld=>?_)
     ·exact⟨m0,m1⟩
     refine ty 0 ?_;refine ty 1 ?_;refine ty 2 ?_;refine ty 3 ?_;refine ty 4 ?_;refine ty 5 ?_;refine ty 6 ?_;refine Cu 7 rfl fun K hK=>?_;go_simp;try simp only[pg]
     clear hHeld;refine hK.out _ _ (by exact⟨(Aa.dr (Aa.al (Aa.rfl' _) _)).cellE ((co).trans hb6),(Aa.dr (Aa.al (Aa.rfl' _) _)).cellE ((co).trans hxc)⟩) fun hHeld=>?_;clear hK K;try simp only[Act.put]
     refine dn ?_;go_wp2;go_roundw
     case rel =>
      have h1:=((Hv.out.st k (.int .i64 x)).al (.cells #[.int .i64 nk,.slice Ap nf.length cp] 70)).dr;rw[hrep.out,O8 _ _ k x 0 (by simp),<- hv.out] at h1;have hB:bv<wc.heap.size:=hzv;refine⟨k+1,hs++[(none,0)],by omega,by go_num,by simp[Hlen2.out],((He.out.set (p:=⟨bv,k,none⟩) (by simp;omega) _).al _).dr,by simp;omega,?_,h1,?_,?_⟩
      ·exact(Aa.dr (Aa.al (Aa.rfl' _) _)).cellE ((co).trans hb6)
      ·refine(Hinn.out.below (p:=⟨bv,k,none⟩) hB (.int .i64 x)).snoc (Aa.dr (Aa.al (Aa.rfl' _) _)) (by simp;omega) (by simp;omega) Hat.out ?_;rw[hd.out];exact AA.nil _ _ _ _
      ·have h2:=((Hr.out.set (p:=⟨bv,k,none⟩) (by simp[AD];omega) (.int .i64 x)).al (.cells #[.int .i64 nk,.slice Ap nf.length cp] 70)).dr;rw[IW _ Hat.out,hd.out];have e:Mt ⟨[],([]:List Int).length,Ah []⟩ (none,0)=[.slice none 0 0]:=rfl;rw[e,List.append_assoc];rw[show List.replicate (g.length - k) (Value.slice none 0 0)=[.slice none 0 0]++List.replicate (g.length - (k+1)) (.slice none 0 0) by rw[show g.length - k=(g.length - (k+1))+1 from by omega,List.replicate_succ];rfl] at h2;exact h2
     case measure=>simp[intOf];omega
    ·have z1:(nk == 0)=false:=by simp[hz]
     have hok:=Sg.Bj HG.out k hn hz;have hran:=Ta (Sg.FV HG.out HC.out k hk) (g.length - k);have hvlen:(Sg.AZ g l k++List.replicate (g.length - k) 0).length=g.length:=by simp;omega
     have hrv:=Sg.Tw (cells:=l) HG.out hn hz (g.length - k);have hrd:=Sg.Lu (cells:=l) HG.out hn hz;have hv:=lh (show Sg.AZ g l (k+1)=Sg.AZ g l k++[(Sg.AK nf (Sg.AZ g l k)).1] by simp only[Sg.AZ];rw[L4 hn hz]);have hd:=lh (show Sg.Cb g (Sg.Bz g l) k=(Sg.AK nf (Sg.AZ g l k)).2 by rw[Iu hn hz];dsimp only at hrd;rw[hrd]);have m1:=(Aa.dr (Aa.rfl' _)).cellE (show (wr.alloc (.cells #[.int .i64 nk,.slice Ap nf.length cp] 70)).cell? ⟨wr.heap.size,1,none⟩=some (.slice Ap nf.length cp) by simp[go_sem]);have C:=PE b6 (some ⟨bv,0,none⟩) g.length (Sg.AZ g l k++List.replicate (g.length - k) 0) (wr.heap.size+1) (by omega) (fun _ b hb=>by simp[AD] at hb;omega) hran
     have HR:=RC C (fun n hn=>⟨hn.1,hn.2.2⟩) Ap cp nf (QY hok _ (by rw[hvlen];omega)) () (fun _=>False)
      (World.drew (wr.alloc (.cells #[.int .i64 nk,.slice Ap nf.length cp] 70))) (by simp)
      ⟨by rw[hvlen];exact m0,by rw[hvlen];exact(Hv.out.ext e9).rd,fun _ h=>h⟩ (hf.ext e9) (fun _ _ h=>h)
     rw[Sg.Kk] at HR;dsimp only at HR hrv;rw[hrv] at HR
     have HR:Calls Tryz.prog 87 #[.agg #[.slice Ap nf.length cp],.func (.func 88) #[] #[.pointer (some ⟨b6,0,none⟩)]] (World.drew (wr.alloc (.cells #[.int .i64 nk,.slice Ap nf.length cp] 70))) fun e w' =>
       ∃ A',e= .returned (.tuple #[.int .i64 (Sg.AK nf (Sg.AZ g l k)).1,.slice A' (Sg.AK nf (Sg.AZ g l k)).2.length (Sg.AK nf (Sg.AZ g l k)).2.length])/\AA w' wr.heap.size 3 1 A' (Sg.AK nf (Sg.AZ g l k)).2.length (Sg.AK nf (Sg.AZ g l k)).2.length (Ah (Sg.AK nf (Sg.AZ g l k)).2) /\
        Aa (World.drew (wr.alloc (.cells #[.int .i64 nk,.slice Ap nf.length cp] 70))) w':=by
      refine HR.mono ?_;rintro e w1 ⟨A',F',rfl,ho,hi,hm,hF,hfo,hx0,hx1⟩;exact⟨A',rfl,ho.mono (by simp),hm.ext fun _=>id⟩
     have HR:=lh HR;obtain⟨rs,hrs⟩:∃ rs,rs=Sg.AK nf (Sg.AZ g l k):=⟨_,rfl⟩;rw[<- hrs] at HR hv hd;have H9:=lh e9;clear hn hx hz hok hran hvlen hrv hrd C hrs hf;go_wp2_with fail
     refine wp_region_held_drew (S:=(fun W=>W.cell? ⟨b6,0,none⟩=some (.slice (some ⟨bv,0,none⟩) g.length g.length)/\W.cell? ⟨wr.heap.size,1,none⟩=some (.slice Ap nf.length cp))) (by kernel_rfl) ?_ (fun hHeld=>?_)
     ·exact⟨m0,m1⟩
     refine ty 0 ?_;refine ty 1 ?_;refine ty 2 ?_;refine ty 3 ?_;refine ty 4 ?_;refine ty 5 ?_;refine ty 6 ?_;refine Cu 7 rfl fun K hK=>?_;go_simp;refine HR.out.mono ?_;rintro e w2 ⟨A3,rfl,ho3,he3⟩;have hv2:=Hv.out.ext (e9.tr he3);have hr2:=Hr.out.ext (e9.tr he3);have Xq:=hv2.cell (Hyv.out);have f12:=hv2.free k;have Xr:=hr2.cell (Hyr.out);have f14:=hr2.free k;have n0:=he3.cellE m0;have n1:=he3.cellE m1;have n2:=Au n0;have n3:=Au n1;have hb12:=Au Xq;have hb14:=Au Xr;try go_wp2_with fail
     clear hHeld;refine hK.out _ _ (by exact⟨n0,n1⟩) fun hHeld=>?_;clear hK K;try simp only[Act.put,pu]
     refine ty 8 ?_;refine ty 9 ?_;refine ty 10 ?_;refine ty 11 ?_;refine Cu 12 rfl fun K hK=>?_;go_simp;clear hHeld;refine hK.out _ _ (by exact⟨(co).trans n0,(co).trans n1⟩) fun hHeld=>?_;clear hK K;try simp only[Act.put]
     refine ty 13 ?_;refine Cu 14 rfl fun K hK=>?_;go_simp;clear hHeld;refine hK.out _ _ (by exact⟨(co).trans ((co).trans n0),(co).trans ((co).trans n1)⟩) fun hHeld=>?_;clear hK K;try simp only[Act.put]
     refine dn ?_;go_wp2;go_roundw
     case rel =>
      have h1:=(hv2.st k (.int .i64 rs.1)).set (p:=⟨br,k,none⟩) (by simp[AD];omega) (.slice A3 rs.2.length rs.2.length);rw[hrep.out,O8 _ _ k rs.1 0 (by simp),<- hv.out] at h1;have hB:bv<wc.heap.size:=hzv;have e10:=e9.tr he3;refine⟨k+1,hs++[(A3,rs.2.length)],by omega,by go_num,by simp[Hlen2.out],((He.out.tr e10).set (p:=⟨bv,k,none⟩) (by simp;omega) _).set (p:=⟨br,k,none⟩) (by simp;omega) _,by have:=e10.size;simp;omega,?_,h1,?_,?_⟩
      ·exact(co).trans ((co).trans n0)
      ·refine((Hinn.out.snoc e10 hwz hwr Hat.out (c:=rs.2.length) ?_).below (p:=⟨bv,k,none⟩) hB _).st k _;rw[hd.out];exact ho3
      ·have h2:=((Hr.out.ext e10).set (p:=⟨bv,k,none⟩) (by simp[AD];omega) (.int .i64 rs.1)).st k (.slice A3 rs.2.length rs.2.length);rw[Vx _ k g.length hdl.out hlt] at h2;rw[IW _ Hat.out,hd.out];exact h2
     case measure=>simp[intOf];omega
   ·obtain rfl:k=g.length:=by omega
    go_wp2;go_ret2;have h1:=Hv.out;have h2:=Hr.out;rw[Nat.sub_self,List.replicate_zero,List.append_nil] at h1 h2;have h3:=(Hinn.out.mono (B':=w.heap.size+1) (by omega)).own (eo:=36) (so:=1) (c:=g.length) (by simp[Hlen2.out]) (by simpa using h2);refine⟨_,_,hs,rfl,h1.mono (by omega),Bn.mono h3 (by omega),?_,Ev.out⟩;intro b hb hf;simp[AD] at hb
    subst hb;rcases hf with hf | ⟨h,hh,hf⟩
    ·simp[AD] at hf;omega
    ·obtain⟨i,hi⟩:=List.getElem?_of_mem hh;obtain⟨it,_,ow⟩:=Hinn.out.at_ hi;have:=(ow.lt hf).1;omega
end Go.Proofs.YthibllkleakiiaaGreatDoor
