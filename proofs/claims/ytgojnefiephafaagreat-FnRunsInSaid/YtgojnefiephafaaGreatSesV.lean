/- Valid sessions, on both sides: contracts. Conditions: none. -/
import Derived.Test.YtgojnefiephafaaGreatSesAB
import Derived.IntWalk
namespace Sg
theorem validA_bad {g:Graph} {l:List Act} {a:Act} (hm:a ∈ l) (h:actOk g a=false):validA g l=false:=by
 unfold validA;have:l.all (actOk g)=false:=by rw [List.all_eq_false];exact ⟨a,hm,by rw [h];simp⟩
 rw [this];simp
end Sg
namespace Go.Proofs.YtgojnefiephafaaGreat
open Go.RowKit
set_option maxRecDepth 100000 in
set_option maxHeartbeats 4000000 in
theorem s_validActs (A Al:Option Addr) (c cl:Nat) (g:Sg.Graph) (l:List Sg.Act) (w:World) (h:RdN w A g) (hl:Rd w 3 Al l.length (acts l)) :
  Calls Tryz.prog 67 #[.agg #[.slice A g.length c],.slice Al l.length cl] w fun e w'=>e = .returned (.bool (Sg.validA g l))∧Ext w w':=by
 have E0:=lh (((Ext.rfl' w).al (.cells #[.slice A g.length c] 33)):Ext w (World.alloc w (.cells #[.slice A g.length c] 33)));have qlg:World.cell? (World.alloc w (.cells #[.slice A g.length c] 33)) ⟨w.heap.size,0,none⟩=some (.slice A g.length c):=by simp [go_sem]
 have Qlg:=lh qlg;clear qlg;have hgl:=h.1;have hbl:=hl.big;have H:=lh h;have HL:=lh hl;clear h hl;have iw:IntKind.i64.wrap ((g.length:Int) - 1)=(g.length:Int) - 1:=IntWalk.i64_in _ (by omega);have HVG:=lh (s_validGraph A c g);have HCE:=lh (s_isCell A c g);go_enter Tryz.func67,Tryz.ntmps67;go_wp2_with fail
 go_loopw [5] (fun s5 wr=>∃ n:Nat,n≤l.length∧s5 = .int .i64 n∧Hid (∀ a ∈ l.take n,Sg.actOk g a=true)∧Hid (Ext (World.alloc w (.cells #[.slice A g.length c] 33)) wr)) (fun s5 _=>l.length - (intOf s5).toNat)
 case atStart=>exact ⟨0,Nat.zero_le _,rfl,lh (by simp),lh (Ext.rfl' _)⟩
 case round =>
  obtain ⟨n,hn,rfl,hall,hext⟩:=hrel;have lE0:=lh (Ext.rfl' wr);have lg_r:=hext.out.cellE Qlg.out;have blg_r:=blt lg_r;have Hr1:=lh (H.out.ext (E0.out.tr hext.out));have Hr2:=lh (HL.out.ext (E0.out.tr hext.out));by_cases hlt:n<l.length
  ·skip
   obtain ⟨bo,oo,⟨ak,an,av⟩,rfl,ha,hc0,hc1,hc2⟩:=Hr2.out.atA hlt;dsimp only at *;have HA:=lh ha;clear ha;have bc0:=blt hc0;have bc1:=blt hc1;have bc2:=blt hc2;by_cases hk0:ak=0
   ·skip
    subst hk0;cases hc:Sg.isCell g an
    ·skip
     have HC:=lh hc;clear hc;have lX0_1:=lh (Ext.al (Ext.rfl' wr) (.cells #[.int .i64 0,.int .i64 an,.int .i64 av] 58));go_wp2_with fail
     refine (HCE.out an _ (Hr1.out.ext lX0_1.out)).mono ?_;rintro e lw1 ⟨rfl,lhe1⟩;rw [HC.out];have lU1:=lh ((Ext.al (Ext.rfl' wr) (.cells #[.int .i64 0,.int .i64 an,.int .i64 av] 58)).tr lhe1);have lE1:=lh (lE0.out.tr lU1.out);have lg_l1:=lU1.out.cellE lg_r;have c0_l1:=lU1.out.cellE hc0;have c1_l1:=lU1.out.cellE hc1;have c2_l1:=lU1.out.cellE hc2;have a0_l1:=lhe1.cellE (show World.cell? (World.alloc wr (.cells #[.int .i64 0,.int .i64 an,.int .i64 av] 58)) ⟨wr.heap.size,0,none⟩=some (.int .i64 0) by simp [go_sem]);have a1_l1:=lhe1.cellE (show World.cell? (World.alloc wr (.cells #[.int .i64 0,.int .i64 an,.int .i64 av] 58)) ⟨wr.heap.size,1,none⟩=some (.int .i64 an) by simp [go_sem]);have a2_l1:=lhe1.cellE (show World.cell? (World.alloc wr (.cells #[.int .i64 0,.int .i64 an,.int .i64 av] 58)) ⟨wr.heap.size,2,none⟩=some (.int .i64 av) by simp [go_sem]);clear lhe1 lg_r hc0 hc1 hc2 blg_r bc0 bc1 bc2 lX0_1;have blg_l1:=blt lg_l1;have bc0_l1:=blt c0_l1;have bc1_l1:=blt c1_l1;have bc2_l1:=blt c2_l1;have ba0_l1:=blt a0_l1;have ba1_l1:=blt a1_l1;have ba2_l1:=blt a2_l1;have szl1:=lU1.out.size;go_wp2;go_ret;exact ⟨ret_bool (Sg.validA_bad (List.mem_of_getElem? HA.out) (show Sg.actOk g ⟨0,an,av⟩=false by unfold Sg.actOk;simp [HC.out])).symm,(E0.out.tr hext.out).tr lE1.out⟩
    have HC:=lh hc;clear hc;cases hv:Sg.inR av 0 999
    ·skip
     have HV:=lh hv;clear hv;have lX0_1:=lh (Ext.al (Ext.rfl' wr) (.cells #[.int .i64 0,.int .i64 an,.int .i64 av] 58));go_wp2_with fail
     refine (HCE.out an _ (Hr1.out.ext lX0_1.out)).mono ?_;rintro e lw1 ⟨rfl,lhe1⟩;rw [HC.out];have lU1:=lh ((Ext.al (Ext.rfl' wr) (.cells #[.int .i64 0,.int .i64 an,.int .i64 av] 58)).tr lhe1);have lE1:=lh (lE0.out.tr lU1.out);have lg_l1:=lU1.out.cellE lg_r;have c0_l1:=lU1.out.cellE hc0;have c1_l1:=lU1.out.cellE hc1;have c2_l1:=lU1.out.cellE hc2;have a0_l1:=lhe1.cellE (show World.cell? (World.alloc wr (.cells #[.int .i64 0,.int .i64 an,.int .i64 av] 58)) ⟨wr.heap.size,0,none⟩=some (.int .i64 0) by simp [go_sem]);have a1_l1:=lhe1.cellE (show World.cell? (World.alloc wr (.cells #[.int .i64 0,.int .i64 an,.int .i64 av] 58)) ⟨wr.heap.size,1,none⟩=some (.int .i64 an) by simp [go_sem]);have a2_l1:=lhe1.cellE (show World.cell? (World.alloc wr (.cells #[.int .i64 0,.int .i64 an,.int .i64 av] 58)) ⟨wr.heap.size,2,none⟩=some (.int .i64 av) by simp [go_sem]);clear lhe1 lg_r hc0 hc1 hc2 blg_r bc0 bc1 bc2 lX0_1;have blg_l1:=blt lg_l1;have bc0_l1:=blt c0_l1;have bc1_l1:=blt c1_l1;have bc2_l1:=blt c2_l1;have ba0_l1:=blt a0_l1;have ba1_l1:=blt a1_l1;have ba2_l1:=blt a2_l1;have szl1:=lU1.out.size;go_wp2_with fail
     refine (s_inRange _ _ _ _).mono ?_;rintro e w' ⟨rfl,rfl⟩;rw [HV.out];go_wp2;go_ret;exact ⟨ret_bool (Sg.validA_bad (List.mem_of_getElem? HA.out) (show Sg.actOk g ⟨0,an,av⟩=false by unfold Sg.actOk;simp [HC.out,HV.out])).symm,(E0.out.tr hext.out).tr lE1.out⟩
    ·skip
     have HV:=lh hv;clear hv;have lX0_1:=lh (Ext.al (Ext.rfl' wr) (.cells #[.int .i64 0,.int .i64 an,.int .i64 av] 58));go_wp2_with fail
     refine (HCE.out an _ (Hr1.out.ext lX0_1.out)).mono ?_;rintro e lw1 ⟨rfl,lhe1⟩;rw [HC.out];have lU1:=lh ((Ext.al (Ext.rfl' wr) (.cells #[.int .i64 0,.int .i64 an,.int .i64 av] 58)).tr lhe1);have lE1:=lh (lE0.out.tr lU1.out);have lg_l1:=lU1.out.cellE lg_r;have c0_l1:=lU1.out.cellE hc0;have c1_l1:=lU1.out.cellE hc1;have c2_l1:=lU1.out.cellE hc2;have a0_l1:=lhe1.cellE (show World.cell? (World.alloc wr (.cells #[.int .i64 0,.int .i64 an,.int .i64 av] 58)) ⟨wr.heap.size,0,none⟩=some (.int .i64 0) by simp [go_sem]);have a1_l1:=lhe1.cellE (show World.cell? (World.alloc wr (.cells #[.int .i64 0,.int .i64 an,.int .i64 av] 58)) ⟨wr.heap.size,1,none⟩=some (.int .i64 an) by simp [go_sem]);have a2_l1:=lhe1.cellE (show World.cell? (World.alloc wr (.cells #[.int .i64 0,.int .i64 an,.int .i64 av] 58)) ⟨wr.heap.size,2,none⟩=some (.int .i64 av) by simp [go_sem]);clear lhe1 lg_r hc0 hc1 hc2 blg_r bc0 bc1 bc2 lX0_1;have blg_l1:=blt lg_l1;have bc0_l1:=blt c0_l1;have bc1_l1:=blt c1_l1;have bc2_l1:=blt c2_l1;have ba0_l1:=blt a0_l1;have ba1_l1:=blt a1_l1;have ba2_l1:=blt a2_l1;have szl1:=lU1.out.size;go_wp2_with fail
     refine (s_inRange _ _ _ _).mono ?_;rintro e w' ⟨rfl,rfl⟩;rw [HV.out];go_wp2;have HOK:=lh (show Sg.actOk g ⟨0,an,av⟩=true by unfold Sg.actOk;simp [HC.out,HV.out]);go_roundw
     case rel=>exact ⟨n + 1,by omega,by go_num,lh (fun x hx=>by rw [take_snoc l n HA.out] at hx;rcases List.mem_append.1 hx with hx | hx;exact hall.out x hx;rw [List.mem_singleton.1 hx];exact HOK.out),lh (hext.out.tr lE1.out)⟩
     case measure=>simp [intOf];omega
   by_cases hk1:ak=1
   ·skip
    subst hk1;cases hi:Sg.inR an 0 ((g.length:Int) - 1)
    ·skip
     have HI:=lh hi;clear hi;go_wp2_with fail
     refine (s_inRange _ _ _ _).mono ?_;rintro e w' ⟨rfl,rfl⟩;rw [HI.out];go_wp2;go_ret;exact ⟨ret_bool (Sg.validA_bad (List.mem_of_getElem? HA.out) (show Sg.actOk g ⟨1,an,av⟩=false by unfold Sg.actOk;simp [HI.out])).symm,(E0.out.tr hext.out).tr (Ext.al lE0.out (.cells #[.int .i64 1,.int .i64 an,.int .i64 av] 58))⟩
    obtain ⟨m,rfl⟩:=Int.eq_ofNat_of_zero_le (show 0≤an by unfold Sg.inR at hi;simp at hi;omega);have hm:m<g.length:=by unfold Sg.inR at hi;simp at hi;omega
    have HI:=lh hi;clear hi;obtain ⟨⟨nk,nf⟩,bg,og,Ap,cp,hn,hAe,hkc,hsc,hf,hfl⟩:=Hr1.out.at_ hm;subst hAe;dsimp only at *;have HK:=lh (show Sg.kindAt g (m:Int)=nk by unfold Sg.kindAt;simp [hn]);have bkc:=blt hkc;clear hn hsc hf hfl;by_cases hz:nk=2
    ·skip
     subst hz;by_cases hv:av=0
     ·skip
      subst hv;go_wp2_with fail
      refine (s_inRange _ _ _ _).mono ?_;rintro e w' ⟨rfl,rfl⟩;rw [HI.out];go_wp2;have HOK:=lh (show Sg.actOk g ⟨1,m,0⟩=true by unfold Sg.actOk;simp [HI.out,HK.out]);go_roundw
      case rel=>exact ⟨n + 1,by omega,by go_num,lh (fun x hx=>by rw [take_snoc l n HA.out] at hx;rcases List.mem_append.1 hx with hx | hx;exact hall.out x hx;rw [List.mem_singleton.1 hx];exact HOK.out),lh (hext.out.tr (Ext.al lE0.out (.cells #[.int .i64 1,.int .i64 m,.int .i64 0] 58)))⟩
      case measure=>simp [intOf];omega
     ·skip
      have z3:(av != 0)=true:=by simp [hv]
      have z4:(av == 0)=false:=by simp [hv]
      have HVZ:=lh hv;clear hv;go_wp2_with fail
      refine (s_inRange _ _ _ _).mono ?_;rintro e w' ⟨rfl,rfl⟩;rw [HI.out];go_wp2;go_ret;exact ⟨ret_bool (Sg.validA_bad (List.mem_of_getElem? HA.out) (show Sg.actOk g ⟨1,m,av⟩=false by unfold Sg.actOk;simp [HI.out,HK.out,HVZ.out])).symm,(E0.out.tr hext.out).tr (Ext.al lE0.out (.cells #[.int .i64 1,.int .i64 m,.int .i64 av] 58))⟩
    ·skip
     have z1:(nk != 2)=true:=by simp [hz]
     have z2:(nk == 2)=false:=by simp [hz]
     have HZ:=lh hz;clear hz;go_wp2_with fail
     refine (s_inRange _ _ _ _).mono ?_;rintro e w' ⟨rfl,rfl⟩;rw [HI.out];go_wp2;go_ret;exact ⟨ret_bool (Sg.validA_bad (List.mem_of_getElem? HA.out) (show Sg.actOk g ⟨1,m,av⟩=false by unfold Sg.actOk;simp [HI.out,HK.out,HZ.out])).symm,(E0.out.tr hext.out).tr (Ext.al lE0.out (.cells #[.int .i64 1,.int .i64 m,.int .i64 av] 58))⟩
   by_cases hk2:ak=2
   ·skip
    subst hk2;by_cases hn:an=0
    ·skip
     subst hn;by_cases hv:av=0
     ·skip
      subst hv;go_wp2;have HOK:=lh (show Sg.actOk g ⟨2,0,0⟩=true by rfl);go_roundw
      case rel=>exact ⟨n + 1,by omega,by go_num,lh (fun x hx=>by rw [take_snoc l n HA.out] at hx;rcases List.mem_append.1 hx with hx | hx;exact hall.out x hx;rw [List.mem_singleton.1 hx];exact HOK.out),lh (hext.out.tr (Ext.al lE0.out (.cells #[.int .i64 2,.int .i64 0,.int .i64 0] 58)))⟩
      case measure=>simp [intOf];omega
     ·skip
      have z3:(av != 0)=true:=by simp [hv]
      have z4:(av == 0)=false:=by simp [hv]
      have HVZ:=lh hv;clear hv;go_wp2;go_ret;exact ⟨ret_bool (Sg.validA_bad (List.mem_of_getElem? HA.out) (show Sg.actOk g ⟨2,0,av⟩=false by unfold Sg.actOk;simp [HVZ.out])).symm,(E0.out.tr hext.out).tr (Ext.al lE0.out (.cells #[.int .i64 2,.int .i64 0,.int .i64 av] 58))⟩
    ·skip
     have z1:(an != 0)=true:=by simp [hn]
     have z2:(an == 0)=false:=by simp [hn]
     have HNZ:=lh hn;clear hn;go_wp2;go_ret;exact ⟨ret_bool (Sg.validA_bad (List.mem_of_getElem? HA.out) (show Sg.actOk g ⟨2,an,av⟩=false by unfold Sg.actOk;simp [HNZ.out])).symm,(E0.out.tr hext.out).tr (Ext.al lE0.out (.cells #[.int .i64 2,.int .i64 an,.int .i64 av] 58))⟩
   by_cases hk3:ak=3
   ·skip
    subst hk3;by_cases hn:an=0
    ·skip
     subst hn;by_cases hv:av=0
     ·skip
      subst hv;go_wp2;have HOK:=lh (show Sg.actOk g ⟨3,0,0⟩=true by rfl);go_roundw
      case rel=>exact ⟨n + 1,by omega,by go_num,lh (fun x hx=>by rw [take_snoc l n HA.out] at hx;rcases List.mem_append.1 hx with hx | hx;exact hall.out x hx;rw [List.mem_singleton.1 hx];exact HOK.out),lh (hext.out.tr (Ext.al lE0.out (.cells #[.int .i64 3,.int .i64 0,.int .i64 0] 58)))⟩
      case measure=>simp [intOf];omega
     ·skip
      have z3:(av != 0)=true:=by simp [hv]
      have z4:(av == 0)=false:=by simp [hv]
      have HVZ:=lh hv;clear hv;go_wp2;go_ret;exact ⟨ret_bool (Sg.validA_bad (List.mem_of_getElem? HA.out) (show Sg.actOk g ⟨3,0,av⟩=false by unfold Sg.actOk;simp [HVZ.out])).symm,(E0.out.tr hext.out).tr (Ext.al lE0.out (.cells #[.int .i64 3,.int .i64 0,.int .i64 av] 58))⟩
    ·skip
     have z1:(an != 0)=true:=by simp [hn]
     have z2:(an == 0)=false:=by simp [hn]
     have HNZ:=lh hn;clear hn;go_wp2;go_ret;exact ⟨ret_bool (Sg.validA_bad (List.mem_of_getElem? HA.out) (show Sg.actOk g ⟨3,an,av⟩=false by unfold Sg.actOk;simp [HNZ.out])).symm,(E0.out.tr hext.out).tr (Ext.al lE0.out (.cells #[.int .i64 3,.int .i64 an,.int .i64 av] 58))⟩
   have y0:(ak == 0)=false:=by simp [hk0]
   have y1:(ak == 1)=false:=by simp [hk1]
   have y2:(ak == 2)=false:=by simp [hk2]
   have y3:(ak == 3)=false:=by simp [hk3]
   have HNK:=lh (And.intro hk0 (And.intro hk1 (And.intro hk2 hk3)));clear hk0 hk1 hk2 hk3;go_wp2;go_ret;exact ⟨ret_bool (Sg.validA_bad (List.mem_of_getElem? HA.out) (show Sg.actOk g ⟨ak,an,av⟩=false by unfold Sg.actOk;simp [HNK.out])).symm,(E0.out.tr hext.out).tr (Ext.al lE0.out (.cells #[.int .i64 ak,.int .i64 an,.int .i64 av] 58))⟩
  ·skip
   obtain rfl:n=l.length:=by omega
   have hall2:=hall.out;rw [List.take_length] at hall2;have HAL:=lh (List.all_eq_true.2 hall2);clear hall2;cases hG:Sg.validG g
   ·skip
    have HG:=lh hG;clear hG;have lX0_1:=lh (Ext.rfl' wr);go_wp2_with fail
    refine (HVG.out _ (Hr1.out.ext lX0_1.out)).mono ?_;rintro e lw1 ⟨rfl,lhe1⟩;rw [HG.out];have lU1:=lh ((Ext.rfl' wr).tr lhe1);have lE1:=lh (lE0.out.tr lU1.out);have lg_l1:=lU1.out.cellE lg_r;clear lhe1 lg_r blg_r lX0_1;have blg_l1:=blt lg_l1;have szl1:=lU1.out.size;go_wp2;go_ret;exact ⟨ret_bool (by unfold Sg.validA;rw [HG.out];simp),(E0.out.tr hext.out).tr lE1.out⟩
   have HG:=lh hG;clear hG;have lX0_1:=lh (Ext.rfl' wr);go_wp2_with fail
   refine (HVG.out _ (Hr1.out.ext lX0_1.out)).mono ?_;rintro e lw1 ⟨rfl,lhe1⟩;rw [HG.out];have lU1:=lh ((Ext.rfl' wr).tr lhe1);have lE1:=lh (lE0.out.tr lU1.out);have lg_l1:=lU1.out.cellE lg_r;clear lhe1 lg_r blg_r lX0_1;have blg_l1:=blt lg_l1;have szl1:=lU1.out.size;go_wp2;go_ret;exact ⟨ret_bool (by unfold Sg.validA;rw [HAL.out,HG.out];simp;omega),(E0.out.tr hext.out).tr lE1.out⟩
set_option maxRecDepth 100000 in
set_option maxHeartbeats 4000000 in
theorem i_ValidActs (A Al:Option Addr) (c cl:Nat) (g:Sg.Graph) (l:List Sg.Act) (w:World) (h:RdN w A g) (hl:Rd w 3 Al l.length (acts l)) :
  Calls Tryz.prog 28 #[.agg #[.slice A g.length c],.slice Al l.length cl] w fun e w'=>e = .returned (.bool (Sg.validA g l))∧Ext w w':=by
 have E0:=lh (((Ext.rfl' w).al (.cells #[.slice A g.length c] 33)):Ext w (World.alloc w (.cells #[.slice A g.length c] 33)));have qlg:World.cell? (World.alloc w (.cells #[.slice A g.length c] 33)) ⟨w.heap.size,0,none⟩=some (.slice A g.length c):=by simp [go_sem]
 have Qlg:=lh qlg;clear qlg;have hgl:=h.1;have hbl:=hl.big;have H:=lh h;have HL:=lh hl;clear h hl;have iw:IntKind.i64.wrap ((g.length:Int) - 1)=(g.length:Int) - 1:=IntWalk.i64_in _ (by omega);have HVG:=lh (i_ValidGraph A c g);have HCE:=lh (i_cellB A c g);have HHS:=lh (fun k w=>i_has A g.length c k w hgl);go_enter Tryz.func28,Tryz.ntmps28;cases hG:Sg.validG g
 ·skip
  have HG:=lh hG;clear hG;go_wp2_with fail
  refine (HVG.out _ (H.out.ext E0.out)).mono ?_;rintro e w1 ⟨rfl,he1⟩;rw [HG.out];have U1:=lh ((Ext.rfl' (World.alloc w (.cells #[.slice A g.length c] 33))).tr he1);have E1:=lh (E0.out.tr U1.out);have lg_1:=U1.out.cellE Qlg.out;clear he1 ;have blg_1:=blt lg_1;go_wp2;go_ret;exact ⟨ret_bool (by unfold Sg.validA;rw [HG.out];simp),E1.out⟩
 have HG:=lh hG;clear hG;by_cases h30:30<l.length
 ·skip
  have H30:=lh h30;have h31:decide ((30:Int)<(l.length:Int))=true:=by simp;omega
  go_wp2_with fail
  refine (HVG.out _ (H.out.ext E0.out)).mono ?_;rintro e w1 ⟨rfl,he1⟩;rw [HG.out];have U1:=lh ((Ext.rfl' (World.alloc w (.cells #[.slice A g.length c] 33))).tr he1);have E1:=lh (E0.out.tr U1.out);have lg_1:=U1.out.cellE Qlg.out;clear he1 ;have blg_1:=blt lg_1;go_wp2;go_ret;exact ⟨ret_bool (by unfold Sg.validA;rw [decide_eq_false (show ¬ l.length≤30 by have:=H30.out;omega)];simp),E1.out⟩
 have h31:decide ((30:Int)<(l.length:Int))=false:=by simp;omega
 have H30:=lh h30;go_wp2_with fail
 refine (HVG.out _ (H.out.ext E0.out)).mono ?_;rintro e w1 ⟨rfl,he1⟩;rw [HG.out];have U1:=lh ((Ext.rfl' (World.alloc w (.cells #[.slice A g.length c] 33))).tr he1);have E1:=lh (E0.out.tr U1.out);have lg_1:=U1.out.cellE Qlg.out;clear he1 ;have blg_1:=blt lg_1;go_wp2_with fail
 go_loopw [18] (fun s18 wr=>∃ n:Nat,n≤l.length∧s18 = .int .i64 n∧Hid (∀ a ∈ l.take n,Sg.actOk g a=true)∧Hid (Ext w1 wr)) (fun s18 _=>l.length - (intOf s18).toNat)
 case atStart=>exact ⟨0,Nat.zero_le _,rfl,lh (by simp),lh (Ext.rfl' _)⟩
 case round =>
  obtain ⟨n,hn,rfl,hall,hext⟩:=hrel;have lE0:=lh (Ext.rfl' wr);have lg_r:=hext.out.cellE lg_1;have blg_r:=blt lg_r;clear lg_1 blg_1;have Hr1:=lh (H.out.ext (E1.out.tr hext.out));have Hr2:=lh (HL.out.ext (E1.out.tr hext.out));by_cases hlt:n<l.length
  ·skip
   obtain ⟨bo,oo,⟨ak,an,av⟩,rfl,ha,hc0,hc1,hc2⟩:=Hr2.out.atA hlt;dsimp only at *;have HA:=lh ha;clear ha;have bc0:=blt hc0;have bc1:=blt hc1;have bc2:=blt hc2;by_cases hk0:ak=0
   ·skip
    subst hk0;cases hc:Sg.isCell g an
    ·skip
     have HC:=lh hc;clear hc;have lX0_1:=lh (Ext.al (Ext.rfl' wr) (.cells #[.int .i64 0,.int .i64 an,.int .i64 av] 58));go_wp2_with fail
     refine (HCE.out an _ (Hr1.out.ext lX0_1.out)).mono ?_;rintro e lw1 ⟨rfl,lhe1⟩;rw [HC.out];have lU1:=lh ((Ext.al (Ext.rfl' wr) (.cells #[.int .i64 0,.int .i64 an,.int .i64 av] 58)).tr lhe1);have lE1:=lh (lE0.out.tr lU1.out);have lg_l1:=lU1.out.cellE lg_r;have c0_l1:=lU1.out.cellE hc0;have c1_l1:=lU1.out.cellE hc1;have c2_l1:=lU1.out.cellE hc2;have a0_l1:=lhe1.cellE (show World.cell? (World.alloc wr (.cells #[.int .i64 0,.int .i64 an,.int .i64 av] 58)) ⟨wr.heap.size,0,none⟩=some (.int .i64 0) by simp [go_sem]);have a1_l1:=lhe1.cellE (show World.cell? (World.alloc wr (.cells #[.int .i64 0,.int .i64 an,.int .i64 av] 58)) ⟨wr.heap.size,1,none⟩=some (.int .i64 an) by simp [go_sem]);have a2_l1:=lhe1.cellE (show World.cell? (World.alloc wr (.cells #[.int .i64 0,.int .i64 an,.int .i64 av] 58)) ⟨wr.heap.size,2,none⟩=some (.int .i64 av) by simp [go_sem]);clear lhe1 lg_r hc0 hc1 hc2 blg_r bc0 bc1 bc2 lX0_1;have blg_l1:=blt lg_l1;have bc0_l1:=blt c0_l1;have bc1_l1:=blt c1_l1;have bc2_l1:=blt c2_l1;have ba0_l1:=blt a0_l1;have ba1_l1:=blt a1_l1;have ba2_l1:=blt a2_l1;have szl1:=lU1.out.size;go_wp2;go_ret;exact ⟨ret_bool (Sg.validA_bad (List.mem_of_getElem? HA.out) (show Sg.actOk g ⟨0,an,av⟩=false by unfold Sg.actOk;simp [HC.out])).symm,(E1.out.tr hext.out).tr lE1.out⟩
    have HC:=lh hc;clear hc;cases hv:Sg.inR av 0 999
    ·skip
     have HV:=lh hv;clear hv;have lX0_1:=lh (Ext.al (Ext.rfl' wr) (.cells #[.int .i64 0,.int .i64 an,.int .i64 av] 58));go_wp2_with fail
     refine (HCE.out an _ (Hr1.out.ext lX0_1.out)).mono ?_;rintro e lw1 ⟨rfl,lhe1⟩;rw [HC.out];have lU1:=lh ((Ext.al (Ext.rfl' wr) (.cells #[.int .i64 0,.int .i64 an,.int .i64 av] 58)).tr lhe1);have lE1:=lh (lE0.out.tr lU1.out);have lg_l1:=lU1.out.cellE lg_r;have c0_l1:=lU1.out.cellE hc0;have c1_l1:=lU1.out.cellE hc1;have c2_l1:=lU1.out.cellE hc2;have a0_l1:=lhe1.cellE (show World.cell? (World.alloc wr (.cells #[.int .i64 0,.int .i64 an,.int .i64 av] 58)) ⟨wr.heap.size,0,none⟩=some (.int .i64 0) by simp [go_sem]);have a1_l1:=lhe1.cellE (show World.cell? (World.alloc wr (.cells #[.int .i64 0,.int .i64 an,.int .i64 av] 58)) ⟨wr.heap.size,1,none⟩=some (.int .i64 an) by simp [go_sem]);have a2_l1:=lhe1.cellE (show World.cell? (World.alloc wr (.cells #[.int .i64 0,.int .i64 an,.int .i64 av] 58)) ⟨wr.heap.size,2,none⟩=some (.int .i64 av) by simp [go_sem]);clear lhe1 lg_r hc0 hc1 hc2 blg_r bc0 bc1 bc2 lX0_1;have blg_l1:=blt lg_l1;have bc0_l1:=blt c0_l1;have bc1_l1:=blt c1_l1;have bc2_l1:=blt c2_l1;have ba0_l1:=blt a0_l1;have ba1_l1:=blt a1_l1;have ba2_l1:=blt a2_l1;have szl1:=lU1.out.size;go_wp2_with fail
     refine (i_in _ _ _ _).mono ?_;rintro e w' ⟨rfl,rfl⟩;rw [HV.out];go_wp2;go_ret;exact ⟨ret_bool (Sg.validA_bad (List.mem_of_getElem? HA.out) (show Sg.actOk g ⟨0,an,av⟩=false by unfold Sg.actOk;simp [HC.out,HV.out])).symm,(E1.out.tr hext.out).tr lE1.out⟩
    ·skip
     have HV:=lh hv;clear hv;have lX0_1:=lh (Ext.al (Ext.rfl' wr) (.cells #[.int .i64 0,.int .i64 an,.int .i64 av] 58));go_wp2_with fail
     refine (HCE.out an _ (Hr1.out.ext lX0_1.out)).mono ?_;rintro e lw1 ⟨rfl,lhe1⟩;rw [HC.out];have lU1:=lh ((Ext.al (Ext.rfl' wr) (.cells #[.int .i64 0,.int .i64 an,.int .i64 av] 58)).tr lhe1);have lE1:=lh (lE0.out.tr lU1.out);have lg_l1:=lU1.out.cellE lg_r;have c0_l1:=lU1.out.cellE hc0;have c1_l1:=lU1.out.cellE hc1;have c2_l1:=lU1.out.cellE hc2;have a0_l1:=lhe1.cellE (show World.cell? (World.alloc wr (.cells #[.int .i64 0,.int .i64 an,.int .i64 av] 58)) ⟨wr.heap.size,0,none⟩=some (.int .i64 0) by simp [go_sem]);have a1_l1:=lhe1.cellE (show World.cell? (World.alloc wr (.cells #[.int .i64 0,.int .i64 an,.int .i64 av] 58)) ⟨wr.heap.size,1,none⟩=some (.int .i64 an) by simp [go_sem]);have a2_l1:=lhe1.cellE (show World.cell? (World.alloc wr (.cells #[.int .i64 0,.int .i64 an,.int .i64 av] 58)) ⟨wr.heap.size,2,none⟩=some (.int .i64 av) by simp [go_sem]);clear lhe1 lg_r hc0 hc1 hc2 blg_r bc0 bc1 bc2 lX0_1;have blg_l1:=blt lg_l1;have bc0_l1:=blt c0_l1;have bc1_l1:=blt c1_l1;have bc2_l1:=blt c2_l1;have ba0_l1:=blt a0_l1;have ba1_l1:=blt a1_l1;have ba2_l1:=blt a2_l1;have szl1:=lU1.out.size;go_wp2_with fail
     refine (i_in _ _ _ _).mono ?_;rintro e w' ⟨rfl,rfl⟩;rw [HV.out];go_wp2;have HOK:=lh (show Sg.actOk g ⟨0,an,av⟩=true by unfold Sg.actOk;simp [HC.out,HV.out]);go_roundw
     case rel=>exact ⟨n + 1,by omega,by go_num,lh (fun x hx=>by rw [take_snoc l n HA.out] at hx;rcases List.mem_append.1 hx with hx | hx;exact hall.out x hx;rw [List.mem_singleton.1 hx];exact HOK.out),lh (hext.out.tr lE1.out)⟩
     case measure=>simp [intOf];omega
   by_cases hk1:ak=1
   ·skip
    subst hk1;cases hi:Sg.inR an 0 ((g.length:Int) - 1)
    ·skip
     have HI:=lh hi;clear hi;go_wp2_with fail
     refine (HHS.out an _).mono ?_;rintro e lw1 ⟨rfl,lhe1⟩;rw [HI.out];have lU1:=lh ((Ext.al (Ext.rfl' wr) (.cells #[.int .i64 1,.int .i64 an,.int .i64 av] 58)).tr lhe1);have lE1:=lh (lE0.out.tr lU1.out);have lg_l1:=lU1.out.cellE lg_r;have c0_l1:=lU1.out.cellE hc0;have c1_l1:=lU1.out.cellE hc1;have c2_l1:=lU1.out.cellE hc2;have a0_l1:=lhe1.cellE (show World.cell? (World.alloc wr (.cells #[.int .i64 1,.int .i64 an,.int .i64 av] 58)) ⟨wr.heap.size,0,none⟩=some (.int .i64 1) by simp [go_sem]);have a1_l1:=lhe1.cellE (show World.cell? (World.alloc wr (.cells #[.int .i64 1,.int .i64 an,.int .i64 av] 58)) ⟨wr.heap.size,1,none⟩=some (.int .i64 an) by simp [go_sem]);have a2_l1:=lhe1.cellE (show World.cell? (World.alloc wr (.cells #[.int .i64 1,.int .i64 an,.int .i64 av] 58)) ⟨wr.heap.size,2,none⟩=some (.int .i64 av) by simp [go_sem]);clear lhe1 lg_r hc0 hc1 hc2 blg_r bc0 bc1 bc2;have blg_l1:=blt lg_l1;have bc0_l1:=blt c0_l1;have bc1_l1:=blt c1_l1;have bc2_l1:=blt c2_l1;have ba0_l1:=blt a0_l1;have ba1_l1:=blt a1_l1;have ba2_l1:=blt a2_l1;have szl1:=lU1.out.size;go_wp2;go_ret;exact ⟨ret_bool (Sg.validA_bad (List.mem_of_getElem? HA.out) (show Sg.actOk g ⟨1,an,av⟩=false by unfold Sg.actOk;simp [HI.out])).symm,(E1.out.tr hext.out).tr lE1.out⟩
    obtain ⟨m,rfl⟩:=Int.eq_ofNat_of_zero_le (show 0≤an by unfold Sg.inR at hi;simp at hi;omega);have hm:m<g.length:=by unfold Sg.inR at hi;simp at hi;omega
    have HI:=lh hi;clear hi;obtain ⟨⟨nk,nf⟩,bg,og,Ap,cp,hn,hAe,hkc,hsc,hf,hfl⟩:=Hr1.out.at_ hm;subst hAe;dsimp only at *;have HK:=lh (show Sg.kindAt g (m:Int)=nk by unfold Sg.kindAt;simp [hn]);have bkc:=blt hkc;clear hn hsc hf hfl;by_cases hz:nk=2
    ·skip
     subst hz;by_cases hv:av=0
     ·skip
      subst hv;go_wp2_with fail
      refine (HHS.out m _).mono ?_;rintro e lw1 ⟨rfl,lhe1⟩;rw [HI.out];have lU1:=lh ((Ext.al (Ext.rfl' wr) (.cells #[.int .i64 1,.int .i64 m,.int .i64 0] 58)).tr lhe1);have lE1:=lh (lE0.out.tr lU1.out);have lg_l1:=lU1.out.cellE lg_r;have c0_l1:=lU1.out.cellE hc0;have c1_l1:=lU1.out.cellE hc1;have c2_l1:=lU1.out.cellE hc2;have nk_l1:=lU1.out.cellE hkc;have a0_l1:=lhe1.cellE (show World.cell? (World.alloc wr (.cells #[.int .i64 1,.int .i64 m,.int .i64 0] 58)) ⟨wr.heap.size,0,none⟩=some (.int .i64 1) by simp [go_sem]);have a1_l1:=lhe1.cellE (show World.cell? (World.alloc wr (.cells #[.int .i64 1,.int .i64 m,.int .i64 0] 58)) ⟨wr.heap.size,1,none⟩=some (.int .i64 m) by simp [go_sem]);have a2_l1:=lhe1.cellE (show World.cell? (World.alloc wr (.cells #[.int .i64 1,.int .i64 m,.int .i64 0] 58)) ⟨wr.heap.size,2,none⟩=some (.int .i64 0) by simp [go_sem]);clear lhe1 lg_r hc0 hc1 hc2 hkc blg_r bc0 bc1 bc2 bkc;have blg_l1:=blt lg_l1;have bc0_l1:=blt c0_l1;have bc1_l1:=blt c1_l1;have bc2_l1:=blt c2_l1;have bnk_l1:=blt nk_l1;have ba0_l1:=blt a0_l1;have ba1_l1:=blt a1_l1;have ba2_l1:=blt a2_l1;have szl1:=lU1.out.size;go_wp2;have HOK:=lh (show Sg.actOk g ⟨1,m,0⟩=true by unfold Sg.actOk;simp [HI.out,HK.out]);go_roundw
      case rel=>exact ⟨n + 1,by omega,by go_num,lh (fun x hx=>by rw [take_snoc l n HA.out] at hx;rcases List.mem_append.1 hx with hx | hx;exact hall.out x hx;rw [List.mem_singleton.1 hx];exact HOK.out),lh (hext.out.tr lE1.out)⟩
      case measure=>simp [intOf];omega
     ·skip
      have z3:(av != 0)=true:=by simp [hv]
      have z4:(av == 0)=false:=by simp [hv]
      have HVZ:=lh hv;clear hv;go_wp2_with fail
      refine (HHS.out m _).mono ?_;rintro e lw1 ⟨rfl,lhe1⟩;rw [HI.out];have lU1:=lh ((Ext.al (Ext.rfl' wr) (.cells #[.int .i64 1,.int .i64 m,.int .i64 av] 58)).tr lhe1);have lE1:=lh (lE0.out.tr lU1.out);have lg_l1:=lU1.out.cellE lg_r;have c0_l1:=lU1.out.cellE hc0;have c1_l1:=lU1.out.cellE hc1;have c2_l1:=lU1.out.cellE hc2;have nk_l1:=lU1.out.cellE hkc;have a0_l1:=lhe1.cellE (show World.cell? (World.alloc wr (.cells #[.int .i64 1,.int .i64 m,.int .i64 av] 58)) ⟨wr.heap.size,0,none⟩=some (.int .i64 1) by simp [go_sem]);have a1_l1:=lhe1.cellE (show World.cell? (World.alloc wr (.cells #[.int .i64 1,.int .i64 m,.int .i64 av] 58)) ⟨wr.heap.size,1,none⟩=some (.int .i64 m) by simp [go_sem]);have a2_l1:=lhe1.cellE (show World.cell? (World.alloc wr (.cells #[.int .i64 1,.int .i64 m,.int .i64 av] 58)) ⟨wr.heap.size,2,none⟩=some (.int .i64 av) by simp [go_sem]);clear lhe1 lg_r hc0 hc1 hc2 hkc blg_r bc0 bc1 bc2 bkc;have blg_l1:=blt lg_l1;have bc0_l1:=blt c0_l1;have bc1_l1:=blt c1_l1;have bc2_l1:=blt c2_l1;have bnk_l1:=blt nk_l1;have ba0_l1:=blt a0_l1;have ba1_l1:=blt a1_l1;have ba2_l1:=blt a2_l1;have szl1:=lU1.out.size;go_wp2;go_ret;exact ⟨ret_bool (Sg.validA_bad (List.mem_of_getElem? HA.out) (show Sg.actOk g ⟨1,m,av⟩=false by unfold Sg.actOk;simp [HI.out,HK.out,HVZ.out])).symm,(E1.out.tr hext.out).tr lE1.out⟩
    ·skip
     have z1:(nk != 2)=true:=by simp [hz]
     have z2:(nk == 2)=false:=by simp [hz]
     have HZ:=lh hz;clear hz;go_wp2_with fail
     refine (HHS.out m _).mono ?_;rintro e lw1 ⟨rfl,lhe1⟩;rw [HI.out];have lU1:=lh ((Ext.al (Ext.rfl' wr) (.cells #[.int .i64 1,.int .i64 m,.int .i64 av] 58)).tr lhe1);have lE1:=lh (lE0.out.tr lU1.out);have lg_l1:=lU1.out.cellE lg_r;have c0_l1:=lU1.out.cellE hc0;have c1_l1:=lU1.out.cellE hc1;have c2_l1:=lU1.out.cellE hc2;have nk_l1:=lU1.out.cellE hkc;have a0_l1:=lhe1.cellE (show World.cell? (World.alloc wr (.cells #[.int .i64 1,.int .i64 m,.int .i64 av] 58)) ⟨wr.heap.size,0,none⟩=some (.int .i64 1) by simp [go_sem]);have a1_l1:=lhe1.cellE (show World.cell? (World.alloc wr (.cells #[.int .i64 1,.int .i64 m,.int .i64 av] 58)) ⟨wr.heap.size,1,none⟩=some (.int .i64 m) by simp [go_sem]);have a2_l1:=lhe1.cellE (show World.cell? (World.alloc wr (.cells #[.int .i64 1,.int .i64 m,.int .i64 av] 58)) ⟨wr.heap.size,2,none⟩=some (.int .i64 av) by simp [go_sem]);clear lhe1 lg_r hc0 hc1 hc2 hkc blg_r bc0 bc1 bc2 bkc;have blg_l1:=blt lg_l1;have bc0_l1:=blt c0_l1;have bc1_l1:=blt c1_l1;have bc2_l1:=blt c2_l1;have bnk_l1:=blt nk_l1;have ba0_l1:=blt a0_l1;have ba1_l1:=blt a1_l1;have ba2_l1:=blt a2_l1;have szl1:=lU1.out.size;go_wp2;go_ret;exact ⟨ret_bool (Sg.validA_bad (List.mem_of_getElem? HA.out) (show Sg.actOk g ⟨1,m,av⟩=false by unfold Sg.actOk;simp [HI.out,HK.out,HZ.out])).symm,(E1.out.tr hext.out).tr lE1.out⟩
   by_cases hk2:ak=2
   ·skip
    subst hk2;by_cases hn:an=0
    ·skip
     subst hn;by_cases hv:av=0
     ·skip
      subst hv;go_wp2;have HOK:=lh (show Sg.actOk g ⟨2,0,0⟩=true by rfl);go_roundw
      case rel=>exact ⟨n + 1,by omega,by go_num,lh (fun x hx=>by rw [take_snoc l n HA.out] at hx;rcases List.mem_append.1 hx with hx | hx;exact hall.out x hx;rw [List.mem_singleton.1 hx];exact HOK.out),lh (hext.out.tr (Ext.al lE0.out (.cells #[.int .i64 2,.int .i64 0,.int .i64 0] 58)))⟩
      case measure=>simp [intOf];omega
     ·skip
      have z3:(av != 0)=true:=by simp [hv]
      have z4:(av == 0)=false:=by simp [hv]
      have HVZ:=lh hv;clear hv;go_wp2;go_ret;exact ⟨ret_bool (Sg.validA_bad (List.mem_of_getElem? HA.out) (show Sg.actOk g ⟨2,0,av⟩=false by unfold Sg.actOk;simp [HVZ.out])).symm,(E1.out.tr hext.out).tr (Ext.al lE0.out (.cells #[.int .i64 2,.int .i64 0,.int .i64 av] 58))⟩
    ·skip
     have z1:(an != 0)=true:=by simp [hn]
     have z2:(an == 0)=false:=by simp [hn]
     have HNZ:=lh hn;clear hn;go_wp2;go_ret;exact ⟨ret_bool (Sg.validA_bad (List.mem_of_getElem? HA.out) (show Sg.actOk g ⟨2,an,av⟩=false by unfold Sg.actOk;simp [HNZ.out])).symm,(E1.out.tr hext.out).tr (Ext.al lE0.out (.cells #[.int .i64 2,.int .i64 an,.int .i64 av] 58))⟩
   by_cases hk3:ak=3
   ·skip
    subst hk3;by_cases hn:an=0
    ·skip
     subst hn;by_cases hv:av=0
     ·skip
      subst hv;go_wp2;have HOK:=lh (show Sg.actOk g ⟨3,0,0⟩=true by rfl);go_roundw
      case rel=>exact ⟨n + 1,by omega,by go_num,lh (fun x hx=>by rw [take_snoc l n HA.out] at hx;rcases List.mem_append.1 hx with hx | hx;exact hall.out x hx;rw [List.mem_singleton.1 hx];exact HOK.out),lh (hext.out.tr (Ext.al lE0.out (.cells #[.int .i64 3,.int .i64 0,.int .i64 0] 58)))⟩
      case measure=>simp [intOf];omega
     ·skip
      have z3:(av != 0)=true:=by simp [hv]
      have z4:(av == 0)=false:=by simp [hv]
      have HVZ:=lh hv;clear hv;go_wp2;go_ret;exact ⟨ret_bool (Sg.validA_bad (List.mem_of_getElem? HA.out) (show Sg.actOk g ⟨3,0,av⟩=false by unfold Sg.actOk;simp [HVZ.out])).symm,(E1.out.tr hext.out).tr (Ext.al lE0.out (.cells #[.int .i64 3,.int .i64 0,.int .i64 av] 58))⟩
    ·skip
     have z1:(an != 0)=true:=by simp [hn]
     have z2:(an == 0)=false:=by simp [hn]
     have HNZ:=lh hn;clear hn;go_wp2;go_ret;exact ⟨ret_bool (Sg.validA_bad (List.mem_of_getElem? HA.out) (show Sg.actOk g ⟨3,an,av⟩=false by unfold Sg.actOk;simp [HNZ.out])).symm,(E1.out.tr hext.out).tr (Ext.al lE0.out (.cells #[.int .i64 3,.int .i64 an,.int .i64 av] 58))⟩
   have y0:(ak == 0)=false:=by simp [hk0]
   have y1:(ak == 1)=false:=by simp [hk1]
   have y2:(ak == 2)=false:=by simp [hk2]
   have y3:(ak == 3)=false:=by simp [hk3]
   have HNK:=lh (And.intro hk0 (And.intro hk1 (And.intro hk2 hk3)));clear hk0 hk1 hk2 hk3;go_wp2;go_ret;exact ⟨ret_bool (Sg.validA_bad (List.mem_of_getElem? HA.out) (show Sg.actOk g ⟨ak,an,av⟩=false by unfold Sg.actOk;simp [HNK.out])).symm,(E1.out.tr hext.out).tr (Ext.al lE0.out (.cells #[.int .i64 ak,.int .i64 an,.int .i64 av] 58))⟩
  ·skip
   obtain rfl:n=l.length:=by omega
   have hall2:=hall.out;rw [List.take_length] at hall2;have HAL:=lh (List.all_eq_true.2 hall2);clear hall2;go_wp2;go_ret;exact ⟨ret_bool (by unfold Sg.validA;rw [HAL.out,HG.out,decide_eq_true (show l.length≤30 by have:=H30.out;omega)];rfl),(E1.out.tr hext.out).tr lE0.out⟩
set_option maxRecDepth 100000 in
set_option maxHeartbeats 4000000 in
theorem s_validSession (A Ac Al:Option Addr) (c cc cl:Nat) (g:Sg.Graph) (x:List Int) (l:List Sg.Act) (w:World) (h:RdN w A g) (hc:Rd w 1 Ac x.length (ints x)) (hl:Rd w 3 Al l.length (acts l)) :
  Calls Tryz.prog 35 #[.agg #[.slice A g.length c],.slice Ac x.length cc,.slice Al l.length cl] w fun e w'=>e = .returned (.bool (Sg.fitS g x l))∧Ext w w':=by
 have E0:=lh (((Ext.rfl' w).al (.cells #[.slice A g.length c] 33)):Ext w (World.alloc w (.cells #[.slice A g.length c] 33)));have qlg:World.cell? (World.alloc w (.cells #[.slice A g.length c] 33)) ⟨w.heap.size,0,none⟩=some (.slice A g.length c):=by simp [go_sem]
 have Qlg:=lh qlg;clear qlg;have H:=lh h;have HX:=lh hc;have HL:=lh hl;clear h hc hl;have HVA:=lh (s_validActs A Al c cl g l);have HVC:=lh (s_validCells A Ac c cc g x);have HVG:=lh (s_validGraph A c g);go_enter Tryz.func35,Tryz.ntmps35;cases hG:Sg.validG g
 ·skip
  have HG:=lh hG;clear hG;go_wp2_with fail
  refine (HVG.out _ (H.out.ext E0.out)).mono ?_;rintro e w1 ⟨rfl,he1⟩;rw [HG.out];have U1:=lh ((Ext.rfl' (World.alloc w (.cells #[.slice A g.length c] 33))).tr he1);have E1:=lh (E0.out.tr U1.out);have lg_1:=U1.out.cellE Qlg.out;clear he1 ;have blg_1:=blt lg_1;go_wp2;go_ret;exact ⟨ret_bool (by unfold Sg.fitS;rw [HG.out];rfl),E1.out⟩
 have HG:=lh hG;clear hG;cases hC:Sg.validC g x
 ·skip
  have HC:=lh hC;clear hC;go_wp2_with fail
  refine (HVG.out _ (H.out.ext E0.out)).mono ?_;rintro e w1 ⟨rfl,he1⟩;rw [HG.out];have U1:=lh ((Ext.rfl' (World.alloc w (.cells #[.slice A g.length c] 33))).tr he1);have E1:=lh (E0.out.tr U1.out);have lg_1:=U1.out.cellE Qlg.out;clear he1 ;have blg_1:=blt lg_1;have X1_1:=lh ((Ext.rfl' (World.alloc w (.cells #[.slice A g.length c] 33))).tr U1.out);go_wp2_with fail
  refine (HVC.out _ (H.out.ext (E0.out.tr X1_1.out)) (HX.out.ext (E0.out.tr X1_1.out))).mono ?_;rintro e w2 ⟨rfl,he2⟩;rw [HC.out];have U2:=lh ((Ext.rfl' w1).tr he2);have E2:=lh (E1.out.tr U2.out);have lg_2:=U2.out.cellE lg_1;clear he2 lg_1 blg_1 X1_1;have blg_2:=blt lg_2;go_wp2;go_ret;exact ⟨ret_bool (by unfold Sg.fitS;rw [HG.out,HC.out];rfl),E2.out⟩
 have HC:=lh hC;clear hC;go_wp2_with fail
 refine (HVG.out _ (H.out.ext E0.out)).mono ?_;rintro e w1 ⟨rfl,he1⟩;rw [HG.out];have U1:=lh ((Ext.rfl' (World.alloc w (.cells #[.slice A g.length c] 33))).tr he1);have E1:=lh (E0.out.tr U1.out);have lg_1:=U1.out.cellE Qlg.out;clear he1 ;have blg_1:=blt lg_1;have X1_1:=lh ((Ext.rfl' (World.alloc w (.cells #[.slice A g.length c] 33))).tr U1.out);go_wp2_with fail
 refine (HVC.out _ (H.out.ext (E0.out.tr X1_1.out)) (HX.out.ext (E0.out.tr X1_1.out))).mono ?_;rintro e w2 ⟨rfl,he2⟩;rw [HC.out];have U2:=lh ((Ext.rfl' w1).tr he2);have E2:=lh (E1.out.tr U2.out);have lg_2:=U2.out.cellE lg_1;clear he2 lg_1 blg_1 X1_1;have blg_2:=blt lg_2;have X2_2:=lh (((Ext.rfl' (World.alloc w (.cells #[.slice A g.length c] 33))).tr U1.out).tr U2.out);go_wp2_with fail
 refine (HVA.out _ (H.out.ext (E0.out.tr X2_2.out)) (HL.out.ext (E0.out.tr X2_2.out))).mono ?_;rintro e w3 ⟨rfl,he3⟩;have U3:=lh ((Ext.rfl' w2).tr he3);have E3:=lh (E2.out.tr U3.out);have lg_3:=U3.out.cellE lg_2;clear he3 lg_2 blg_2 X2_2;have blg_3:=blt lg_3;go_wp2;go_ret;exact ⟨ret_bool (by unfold Sg.fitS;rw [HG.out,HC.out];rfl),E3.out⟩
set_option maxRecDepth 100000 in
set_option maxHeartbeats 4000000 in
theorem i_sessionFits (A Ac Al:Option Addr) (c cc cl:Nat) (g:Sg.Graph) (x:List Int) (l:List Sg.Act) (w:World) (h:RdN w A g) (hc:Rd w 1 Ac x.length (ints x)) (hl:Rd w 3 Al l.length (acts l)) :
  Calls Tryz.prog 39 #[.agg #[.slice A g.length c],.slice Ac x.length cc,.slice Al l.length cl] w fun e w'=>e = .returned (.bool (Sg.fitS g x l))∧Ext w w':=by
 have E0:=lh (((Ext.rfl' w).al (.cells #[.slice A g.length c] 33)):Ext w (World.alloc w (.cells #[.slice A g.length c] 33)));have qlg:World.cell? (World.alloc w (.cells #[.slice A g.length c] 33)) ⟨w.heap.size,0,none⟩=some (.slice A g.length c):=by simp [go_sem]
 have Qlg:=lh qlg;clear qlg;have H:=lh h;have HX:=lh hc;have HL:=lh hl;clear h hc hl;have HVA:=lh (i_ValidActs A Al c cl g l);have HVC:=lh (i_ValidCells A Ac c cc g x);go_enter Tryz.func39,Tryz.ntmps39;cases hC:(Sg.validG g && Sg.validC g x)
 ·skip
  have HC:=lh hC;clear hC;go_wp2_with fail
  refine (HVC.out _ (H.out.ext E0.out) (HX.out.ext E0.out)).mono ?_;rintro e w1 ⟨rfl,he1⟩;rw [HC.out];have U1:=lh ((Ext.rfl' (World.alloc w (.cells #[.slice A g.length c] 33))).tr he1);have E1:=lh (E0.out.tr U1.out);have lg_1:=U1.out.cellE Qlg.out;clear he1 ;have blg_1:=blt lg_1;go_wp2;go_ret;exact ⟨ret_bool (by unfold Sg.fitS;rw [HC.out];rfl),E1.out⟩
 have HC:=lh hC;clear hC;go_wp2_with fail
 refine (HVC.out _ (H.out.ext E0.out) (HX.out.ext E0.out)).mono ?_;rintro e w1 ⟨rfl,he1⟩;rw [HC.out];have U1:=lh ((Ext.rfl' (World.alloc w (.cells #[.slice A g.length c] 33))).tr he1);have E1:=lh (E0.out.tr U1.out);have lg_1:=U1.out.cellE Qlg.out;clear he1 ;have blg_1:=blt lg_1;have X1_1:=lh ((Ext.rfl' (World.alloc w (.cells #[.slice A g.length c] 33))).tr U1.out);go_wp2_with fail
 refine (HVA.out _ (H.out.ext (E0.out.tr X1_1.out)) (HL.out.ext (E0.out.tr X1_1.out))).mono ?_;rintro e w2 ⟨rfl,he2⟩;have U2:=lh ((Ext.rfl' w1).tr he2);have E2:=lh (E1.out.tr U2.out);have lg_2:=U2.out.cellE lg_1;clear he2 lg_1 blg_1 X1_1;have blg_2:=blt lg_2;go_wp2;go_ret;exact ⟨ret_bool (by unfold Sg.fitS;rw [HC.out];rfl),E2.out⟩
end Go.Proofs.YtgojnefiephafaaGreat
