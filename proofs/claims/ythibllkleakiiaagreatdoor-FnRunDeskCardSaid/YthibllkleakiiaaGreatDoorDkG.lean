/- The program's RunDesk, in memory: contract. Conditions: bounds on sizes; the program's variables as they were laid. -/
import Derived.Test.YthibllkleakiiaaGreatDoorDkE
import Derived.Test.YthibllkleakiiaaGreatDoorDkF
import Derived.Test.YthibllkleakiiaaGreatDoorTxO
namespace Sg
theorem OB (s:AO):∃ g cc ok,Ff (Do s)=(g,cc,ok)/\AG g=true/\AT g cc=true/\(ok=true->Do s=some (g,cc))/\(ok=false->Do s=none):=by
 cases h:Do s with
 | none=>exact⟨[],[],false,rfl,rfl,rfl,(fun e=>by cases e),(fun _=>rfl)⟩
 | some y =>
  obtain⟨g,cc⟩:=y;obtain⟨h1,h2,-⟩:=Jb h;exact⟨g,cc,true,rfl,h1,h2,(fun _=>rfl),(fun e=>by cases e)⟩
end Sg
namespace Go.Proofs.YthibllkleakiiaaGreatDoor
open Go.RowKit
theorem Qy {g:Sg.Ae}{l:List Int}(hG:Sg.AG g=true)(hC:Sg.AT g l=true):DK g l=Sg.BQ g l:=by unfold DK;rw[hG,hC];rfl
theorem Ny (A Ac:Option Addr)(c cc:Nat)(g:Sg.Ae)(l:List Int)(w:World)(h:Eg w A g)(hc:Rd w 1 Ac l.length (Ah l))(hG:Sg.AG g=true)(hC:Sg.AT g l=true) :
  Calls Tryz.prog 17 #[.agg #[.slice A g.length c],.slice Ac l.length cc] w fun e w'=>∃ A1 A2 hs,e= .returned (.agg #[.slice A1 g.length g.length,.slice A2 g.length g.length]) /\
   Au w' w.heap.size 3 1 A1 g.length g.length (Ah (Sg.BQ g l).vals)/\CG w' w.heap.size A2 g.length (Sg.BQ g l).reads hs/\(∀ b,AE A1=some b->¬ Gi A2 hs b)/\Aa w w':=by
 have z:=Pg A Ac c cc g l w h hc;rw[Qy hG hC] at z;obtain⟨-,h1,h2,-⟩:=Sg.Bb (Sg.Fg hG hC);rw[h1,h2] at z;refine z.mono ?_;rintro e w' ⟨A1,A2,hs,rfl,hO,he⟩;have hv:=hO.v;rw[h1] at hv;exact⟨A1,A2,hs,rfl,hv,hO.r,hO.d,he⟩
theorem Wt (a:World)(A Av Ar Zv Az Zq:Option Addr)(c cv cr kv kr kq bd:Nat)(g:Sg.Ae)(st:Sg.BZ × Sg.BC)(l:Sg.AO)(hs hz:List (Option Addr × Nat))(rs:List (Th a.heap.size))(w:World)(ha:Eg a A g)(hGe:Ge a)(hE:Aa a w)(hD:Sg.DV g st)(hsz:l.length<=1048576)(hS:Ai (Th.box a.heap.size bd [.slice A g.length c,.slice Av g.length cv,.slice Ar g.length cr,.slice Zv g.length kv,.slice Az g.length kr,.slice Zq g.length kq] :: (Pu a.heap.size Av cv Ar cr Zv kv Az kr Zq kq g.length hs hz st++rs)) w) :
  Calls Tryz.prog 20 #[.pointer (some ⟨bd,0,none⟩),.string (ts l)] w fun e w'=>∃ Zv' kv' Az' kr' Zq' kq' hs' hz',e= .returned (.string (ts (Sg.CZ (Sg.BJ g) g st l).2))/\Aa a w' /\
   Ai (Th.box a.heap.size bd [.slice A g.length c,.slice Av g.length cv,.slice Ar g.length cr,.slice Zv' g.length kv',.slice Az' g.length kr',.slice Zq' g.length kq'] :: (Pu a.heap.size Av cv Ar cr Zv' kv' Az' kr' Zq' kq' g.length hs' hz' (Sg.CZ (Sg.BJ g) g st l).1++rs)) w':=by
 have z:=Xn a A Av Ar Zv Az Zq c cv cr kv kr kq bd g st (ts l) hs hz rs w ha hGe hE hD (by rw[BB];exact hsz) hS;rw[Fm,Sg.Xg (Sg.BJ g) hD.g10] at z;exact z
theorem Ai.bu {B:Nat}{us:List (Th B)}{W W':World}(h:Ai us W)(i:Nat){b:Nat}{gs gs':Option Nat}{l l':Sg.AO}(ht:us[i]? = some (Th.bu B b gs l))(m:AF (fun x=>x=b\/gs=some x) W W')(hok:On W' B b gs' l')(hat:gs'=gs\/∃ g,gs'=some g/\W.heap.size<=g):Ai (us.set i (Th.bu B b gs' l')) W' :=
 Ai.set h i ht m (Th.bu B b gs' l') (fun _ e=>.inl e) hok (fun x hx=>by
  rcases hx with rfl | hx
  ·exact .inl (.inl rfl)
  ·rcases hat with e | ⟨g,e,hg⟩
   ·exact .inl (.inr (e.symm.trans hx))
   ·rw[e] at hx;injection hx with hx;exact .inr (by omega))
theorem Aa.bu {a W W':World}{b:Nat}{gs:Option Nat}{l:Sg.AO}(E:Aa a W)(h:On W a.heap.size b gs l)(m:AF (fun x=>x=b\/gs=some x) W W'):Aa a W':=Aa.md E m (fun _ e=>(h.lt e).1)
theorem zk0{p:Prop}(h:p:=by
 refine(K5 w1.heap.size bb _ _ BK.out.bu).mono ?_;rintro e w8 ⟨rfl,hb8⟩;go_wp2;go_ret;exact⟨by rw[HF.out];first | rfl | (rw[List.take_length];rfl),HW.out.tr (Below.trans EE.out hb8)⟩):p:=h
set_option maxRecDepth 100000 in
set_option maxHeartbeats 8000000 in
theorem K4 (s:ByteArray)(A:Option Addr)(c:Nat)(ls:List Sg.AO)(w:World)(hG:Ge w)(hs:s.size<=1048576)(hll:∀ l ∈ ls,l.length<=1048576)(h:Rd w 1 A ls.length (Bh (ls.map ts))) :
  Calls Tryz.prog 8 #[.string s,.slice A ls.length c] w fun e w'=>e= .returned (.string (ts (Sg.FD (tx s) ls)))/\Aa w w':=by
 have HP:=lh (Pi s w hs hG);rw[Sg.NJ] at HP;obtain⟨g,cc,ok,hpg,hvg,hvc,hok1,hok0⟩:=Sg.OB (tx s);rw[hpg] at HP;dsimp only at HP;have HR:=lh h;have HLL:=lh hll;have HG:=lh hG;have HF0:=lh (show 20<ls.length->Sg.FD (tx s) ls=[] from fun hb=>by unfold Sg.FD;rw[if_pos hb]);have HF1:=lh (show ok=false->¬ 20<ls.length->Sg.FD (tx s) ls=Sg.CR ls from fun ho hb=>by unfold Sg.FD;rw[if_neg hb,hok0 ho]);have HF2:=lh (show ok=true->¬ 20<ls.length->Sg.FD (tx s) ls=(Sg.Dx g ls ((Sg.BQ g cc,Sg.Cs g cc),[])).2 from fun ho hb=>by unfold Sg.FD;rw[if_neg hb,hok1 ho,Sg.JG];rfl);have HVG:=lh hvg;have HVC:=lh hvc;have h10:=Sg.FE hvg;have hcl:=Sg.FP hvc;have HCL:=lh hcl;have hcl10:cc.length<=10:=by omega
 clear h hll hG hpg hok1 hok0 hvg hvc hcl;generalize Sg.FD (tx s) ls=R at *;by_cases hb:20<ls.length
 ·have hbi:(20:Int)<(ls.length:Int):=by omega
  have HF:=lh (HF0.out hb);clear HF0 HF1 HF2 HP;go_enter Tryz.func8,Tryz.ntmps8;go_wp2;go_ret;exact⟨by rw[HF.out];try rfl,Aa.rfl' _⟩
 have hbi:¬ (20:Int)<(ls.length:Int):=by omega
 go_enter Tryz.func8,Tryz.ntmps8;go_wp2_with fail
 refine HP.out.mono ?_;rintro e w1 ⟨A1,c1,ks,A2,c2,rfl,he1,hS1⟩;have HW:=lh he1;have HGE:=lh (HG.out.ext he1);have HGN:=lh (show Eg w1 A1 g from (show Gj w1 _ A1 c1 g ks from Ai.get hS1 0 rfl).rdN (by omega) (Sg.NX HVG.out));have HCC:=lh (show Rd w1 1 A2 cc.length (Ah cc) from (show Au w1 _ 3 1 A2 cc.length c2 (Ah cc) from Ai.get hS1 1 rfl).rd);have HD0:=lh (Sg.DV.start HVG.out HVC.out);clear hS1 he1 HP HG;have E5:=lh ((Aa.rfl' w1).al (.cells #[.slice A1 g.length c1] 35));have Q5:=lh (show World.cell? (World.alloc w1 (.cells #[.slice A1 g.length c1] 35)) ⟨w1.heap.size,0,none⟩=some (.slice A1 g.length c1) by simp[go_sem]);go_upto_region 4 with fail
 generalize World.alloc w1 (.cells #[.slice A1 g.length c1] 35)=v5 at *;go_wp2_with fail
 have EE:=lh (E5.out.tr xd);have EX:=lh ((Aa.rfl' v5).dr);have SS:=lh (show Ai (B:=w1.heap.size) [] (World.drew v5) from trivial);refine wp_region_held_drew (S:=(fun W=>W.cell? ⟨w1.heap.size,0,none⟩=some (.slice A1 g.length c1))) (by kernel_rfl) ?_ (fun hHeld=>?_)
 ·exact EX.out.cellE Q5.out
 refine ty 0 ?_;refine ty 1 ?_;refine ty 2 ?_;refine ty 4 ?_;refine ty 5 ?_;refine DL 3 rfl (fun K hK=>?_);go_simp;refine(Ny A1 A2 c1 c2 g cc _ (HGN.out.ext EE.out) (HCC.out.ext EE.out) HVG.out HVC.out).mono ?_;rintro e w3 ⟨Av,Ar,hs,rfl,hv3,hr3,hd3,he3⟩;have SS:=lh (Ai.addT SS.out he3 (Th.own w1.heap.size 3 1 Av g.length g.length (Ah (Sg.BQ g cc).vals)) (Th.ownL w1.heap.size Ar g.length (Sg.BQ g cc).reads hs) (hv3.mono EE.out.size) (Bj.mono hr3 EE.out.size) (fun b hb=>(hv3.lt hb).1) (fun b hb=>(Bj.lt hr3 hb).1) hd3);have EE:=lh (EE.out.tr he3);have EX:=lh (EX.out.tr he3);clear hv3 hr3 hd3 he3;try go_wp2_with fail
 clear hHeld;refine hK.out _ _ (EX.out.cellE Q5.out) fun hHeld=>?_;clear hK K;try simp only[Act.put,pu]
 refine DL 6 rfl (fun K hK=>?_);go_simp;refine(O8 A1 A2 c1 c2 g cc _ (HGN.out.ext EE.out) (HCC.out.ext EE.out) HVG.out HVC.out).mono ?_;rintro e w4 ⟨Zv,bz,bq,rfl,hz4,he4⟩;have SS:=lh (Ai.addL SS.out he4 EE.out.size hz4);have EE:=lh (EE.out.tr he4);have EX:=lh (EX.out.tr he4);clear hz4 he4;try go_wp2_with fail
 clear hHeld;refine hK.out _ _ (EX.out.cellE Q5.out) fun hHeld=>?_;clear hK K;try simp only[Act.put,pu]
 refine ty 7 ?_;refine DL 8 rfl (fun K hK=>?_);go_simp;have LB:w1.heap.size<=w4.heap.size:=EE.out.size;have SS:=lh (Ai.add SS.out (xr.al (.cells #[.slice A1 g.length c1,.slice Av g.length g.length,.slice Ar g.length g.length,.slice Zv g.length g.length,.slice (some ⟨bz,0,none⟩) g.length g.length,.slice (some ⟨bq,0,none⟩) g.length g.length] 50)) (Th.box w1.heap.size w4.heap.size [.slice A1 g.length c1,.slice Av g.length g.length,.slice Ar g.length g.length,.slice Zv g.length g.length,.slice (some ⟨bz,0,none⟩) g.length g.length,.slice (some ⟨bq,0,none⟩) g.length g.length]) ⟨Bx.new w4 #[.slice A1 g.length c1,.slice Av g.length g.length,.slice Ar g.length g.length,.slice Zv g.length g.length,.slice (some ⟨bz,0,none⟩) g.length g.length,.slice (some ⟨bq,0,none⟩) g.length g.length] 50,LB⟩ (fun b e=>by have e2:b=w4.heap.size:=e;omega));have EE:=lh (EE.out.al (.cells #[.slice A1 g.length c1,.slice Av g.length g.length,.slice Ar g.length g.length,.slice Zv g.length g.length,.slice (some ⟨bz,0,none⟩) g.length g.length,.slice (some ⟨bq,0,none⟩) g.length g.length] 50));have EX:=lh (EX.out.al (.cells #[.slice A1 g.length c1,.slice Av g.length g.length,.slice Ar g.length g.length,.slice Zv g.length g.length,.slice (some ⟨bz,0,none⟩) g.length g.length,.slice (some ⟨bq,0,none⟩) g.length g.length] 50));try simp only[pg]
 clear hHeld;refine hK.out _ _ (EX.out.cellE Q5.out) fun hHeld=>?_;clear hK K;try simp only[Act.put,pu]
 refine ty 9 ?_;refine dn ?_;generalize World.alloc w4 _=w5 at *;generalize w4.heap.size=bd at *;obtain⟨Az,hAz⟩:∃ Az:Option Addr,Az=some ⟨bz,0,none⟩:=⟨_,rfl⟩;obtain⟨Zq,hZq⟩:∃ Zq:Option Addr,Zq=some ⟨bq,0,none⟩:=⟨_,rfl⟩;rw[<- hAz,<- hZq] at SS;clear hAz hZq;have SS:=lh (show Ai (Th.box w1.heap.size bd [.slice A1 g.length c1,.slice Av g.length g.length,.slice Ar g.length g.length,.slice Zv g.length g.length,.slice Az g.length g.length,.slice Zq g.length g.length] :: (Pu w1.heap.size Av g.length Ar g.length Zv g.length Az g.length Zq g.length g.length hs (List.replicate g.length (none,0)) (Sg.BQ g cc,Sg.Cs g cc)++[])) w5 from Ai.perm SS.out (List.Perm.cons _ (List.perm_append_comm (l₁:=In w1.heap.size Zv g.length Az g.length Zq g.length g.length (List.replicate g.length (none,0)) (Sg.Cs g cc)))));have LB5:w1.heap.size<=w5.heap.size:=EE.out.size;have BN:=lh (On.new w5 LB5);have EB:=lh ((Aa.rfl' w5).al (.cells #[.pointer none,.slice none 0 0] 53));have SS:=lh (Ai.add SS.out EB.out (Th.bu w1.heap.size w5.heap.size none []) BN.out (fun x hx=>by rcases hx with rfl | hx;exact Nat.le_refl _;cases hx));have EE:=lh (EE.out.tr EB.out);clear BN EB E5 Q5 EX HCC;go_upto_region 6 with fail
 generalize World.alloc w5 (.cells #[.pointer none,.slice none 0 0] 53)=w6 at *;generalize w5.heap.size=bb at *;have HDJ:=lh fun j=>Sg.Kl (ls.take j) ((Sg.BQ g cc,Sg.Cs g cc),[]) HD0.out;have HSU:=lh fun (j:Nat) (l:Sg.AO) (hl:ls[j]? = some l)=>Sg.Mo (g:=g) hl ((Sg.BQ g cc,Sg.Cs g cc),[]);clear HD0;cases ok with
 | false =>
  have HF:=lh (HF1.out rfl hb);clear HF0 HF1 HF2;have SS:=lh (Ai.sub SS.out (List.Sublist.cons_cons _ (List.nil_sublist _)):Ai [Th.bu w1.heap.size bb none []] w6);go_wp2_with fail
  go_loopw [32] (fun s32 wr=>∃ (j:Nat) (gs:Option Nat),j<=ls.length/\s32= .int .i64 j/\Hid (Aa w1 wr)/\Hid (Ai [Th.bu w1.heap.size bb gs (Sg.CR (ls.take j))] wr)) (fun s32 _=>ls.length - (intOf s32).toNat)
  case atStart=>exact⟨0,none,Nat.zero_le _,rfl,EE,SS⟩
  case round =>
   clear SS EE;obtain⟨j,gs,hj,rfl,EE,SS⟩:=hrel;by_cases hlt:j<ls.length
   ·have hji:(j:Int)<(ls.length:Int):=by omega
    obtain⟨bl,ol,x,rfl,hx,hcell⟩:=HR.out.atT hlt;have HC9:=lh hcell;have hcw:=(HW.out.tr EE.out).cellE hcell;have hcb:=AA hcw;have HT:=lh (Sg.Ld (gg hlt));have BK:=lh (show On wr w1.heap.size bb gs (Sg.CR (ls.take j)) from Ai.get SS.out 0 rfl);have HWR:=lh (Qz w1.heap.size bb gs (Sg.CR (ls.take j)) [119,114,111,110,103,10] wr BK.out (by rw[Sg.IS,List.length_take];simp;omega));clear hcell hx;go_wp2_with fail
    refine HWR.out.mono ?_;rintro e w7 ⟨rfl,gs',hok',hm',hat'⟩;have EE:=lh (Aa.bu EE.out BK.out hm');have SS:=lh (Ai.bu SS.out 0 rfl hm' hok' hat');clear hok' hm' hat' BK HWR hcw hcb;go_wp2_with fail
    go_roundw
    case rel=>exact⟨j+1,gs',by omega,by go_num,EE,by rw[HT.out];exact SS⟩
    case measure=>simp[intOf];omega
   ·obtain rfl:j=ls.length:=by omega
    have BK:=lh (show On wr w1.heap.size bb gs (Sg.CR (ls.take ls.length)) from Ai.get SS.out 0 rfl);go_wp2_with fail
    exact zk0
 | true =>
  have HF:=lh (HF2.out rfl hb);clear HF0 HF1 HF2;have SS:=lh (Ai.mid [Th.bu w1.heap.size bb none []] (Th.box w1.heap.size bd [.slice A1 g.length c1,.slice Av g.length g.length,.slice Ar g.length g.length,.slice Zv g.length g.length,.slice Az g.length g.length,.slice Zq g.length g.length] :: Pu w1.heap.size Av g.length Ar g.length Zv g.length Az g.length Zq g.length g.length hs (List.replicate g.length (none,0)) (Sg.BQ g cc,Sg.Cs g cc)) [] SS.out);go_wp2_with fail
  go_loopw [32] (fun s32 wr=>∃ (j:Nat) (gs:Option Nat) (Zv:Option Addr) (kv:Nat) (Az:Option Addr) (kr:Nat) (Zq:Option Addr) (kq:Nat) (hs hz:List (Option Addr × Nat)),j<=ls.length/\s32= .int .i64 j/\Hid (Aa w1 wr)/\Hid (Ai (Th.box w1.heap.size bd [.slice A1 g.length c1,.slice Av g.length g.length,.slice Ar g.length g.length,.slice Zv g.length kv,.slice Az g.length kr,.slice Zq g.length kq] :: (Pu w1.heap.size Av g.length Ar g.length Zv kv Az kr Zq kq g.length hs hz (Sg.Dx g (ls.take j) ((Sg.BQ g cc,Sg.Cs g cc),[])).1++[Th.bu w1.heap.size bb gs (Sg.Dx g (ls.take j) ((Sg.BQ g cc,Sg.Cs g cc),[])).2])) wr)) (fun s32 _=>ls.length - (intOf s32).toNat)
  case atStart=>exact⟨0,none,Zv,g.length,Az,g.length,Zq,g.length,hs,_,Nat.zero_le _,rfl,EE,SS⟩
  case round =>
   clear SS EE;obtain⟨j,gs,Zv,kv,Az,kr,Zq,kq,hs,hz,hj,rfl,EE,SS⟩:=hrel;by_cases hlt:j<ls.length
   ·have hji:(j:Int)<(ls.length:Int):=by omega
    have hl:=gg hlt;obtain⟨l,hl0⟩:∃ l,l=ls[j]:=⟨_,rfl⟩;rw[<- hl0] at hl;have hle:=HLL.out l (List.mem_of_getElem? hl);obtain⟨bl,ol,x,rfl,hx,hcell⟩:=HR.out.atT hlt;rw[List.getElem?_map,hl] at hx;injection hx with hx;subst hx;have H1:=lh (HSU.out j l hl);have hdj:=HDJ.out j;rw[List.length_take] at hdj;clear hl hl0;generalize Sg.Dx g (ls.take j) ((Sg.BQ g cc,Sg.Cs g cc),[])=y at *;obtain⟨stt,out⟩:=y;dsimp only at *;have HDV:=lh hdj.1;have hol:out.length<=900:=by have:=hdj.2;simp only[List.length_nil] at this;omega
    have hal:=(Sg.RA hdj.1 l).2;have s2:=CT (a:=(Sg.CZ (Sg.BJ g) g stt l).2) (b:=[10]) (by simp;omega);have HOL:=lh hol;have HAL:=lh hal;clear hdj hal hol;have HC9:=lh hcell;have hcw:=(HW.out.tr EE.out).cellE hcell;have hcb:=AA hcw;clear hcell;have HLN:=lh (Wt w1 A1 Av Ar Zv Az Zq c1 g.length g.length kv kr kq bd g stt l hs hz [Th.bu w1.heap.size bb gs out] wr HGN.out HGE.out EE.out HDV.out hle SS.out);go_wp2_with fail
    refine HLN.out.mono ?_;rintro e w7 ⟨Zv',kv',Az',kr',Zq',kq',hs',hz',rfl,hE7,hS7⟩;have EE:=lh hE7;have SS:=lh hS7;clear hE7 hS7 HLN hcw hcb;have BK:=lh (show On w7 w1.heap.size bb gs out from Ai.get SS.out 6 rfl);have HWR:=lh (Qz w1.heap.size bb gs out ((Sg.CZ (Sg.BJ g) g stt l).2++[10]) w7 BK.out (by have:=HOL.out;have:=HAL.out;rw[List.length_append];simp;omega));rw[<- BY] at HWR;go_wp2_with fail
    refine HWR.out.mono ?_;rintro e w8 ⟨rfl,gs',hok',hm',hat'⟩;have EE:=lh (Aa.bu EE.out BK.out hm');have SS:=lh (Ai.bu SS.out 6 rfl hm' hok' hat');clear hok' hm' hat' BK HWR;go_wp2_with fail
    go_roundw
    case rel=>exact⟨j+1,gs',Zv',kv',Az',kr',Zq',kq',hs',hz',by omega,by go_num,EE,by rw[H1.out];exact SS⟩
    case measure=>simp[intOf];omega
   ·obtain rfl:j=ls.length:=by omega
    have BK:=lh (show On wr w1.heap.size bb gs (Sg.Dx g (ls.take ls.length) ((Sg.BQ g cc,Sg.Cs g cc),[])).2 from Ai.get SS.out 6 rfl);go_wp2_with fail
    exact zk0
end Go.Proofs.YthibllkleakiiaaGreatDoor
