/- Parts of one proof, joined. The program's clean: its contract, and more. Conditions: in the theorems. -/
import Derived.Deep.CutBlock
import Derived.Deep.DeepCutAuto
import Derived.Test.YthibllkleakiiaaGreatDoorLazSmall
namespace Go.Proofs.YthibllkleakiiaaGreatDoor
open Go.RowKit
structure CI (w0:World) (L gv cv gr cr gq cq Br cg bS bG bN:Nat) (A:Option Addr) (g:Sg.Ae) (s t:Sg.LR) (F:Nat->Prop) (W:World):Prop where
 st:LS w0 L gv cv gr cr gq cq Br [] t F W
 cl:Sg.AW g (fun _=>True) s t
 bs:Bx W bS [.slice (some ⟨gv,0,none⟩) L cv,.slice (some ⟨gr,0,none⟩) L cr,.slice (some ⟨gq,0,none⟩) L cq]
 bg:Bx W bG [.slice A g.length cg]
 bn:Bx W bN [.pointer (some ⟨Br,0,none⟩)]
 no:¬ F bS/\¬ F bG/\¬ F bN
def VC (w0:World)(L gv cv gr cr gq cq Br cg:Nat)(A:Option Addr)(g:Sg.Ae)(c:Int->Sg.LR->Sg.LR)(R n:Nat):Prop :=
 ∀ (k:Int) (t:Sg.LR) (F:Nat->Prop) (W:World),0<=k->k<(n:Int)->Sg.AM g t.st=true->t.ran.length<=R->LS w0 L gv cv gr cr gq cq Br [] t F W ->
  Calls Tryz.prog 101 #[.agg #[.slice (some ⟨gv,0,none⟩) L cv,.slice (some ⟨gr,0,none⟩) L cr,.slice (some ⟨gq,0,none⟩) L cq],.agg #[.slice A g.length cg],.int .i64 k,.pointer (some ⟨Br,0,none⟩)] W fun e w' =>
   e= .returned (.tuple #[])/\LG w0 L gv cv gr cr gq cq Br [] (c k t) F W w'
set_option maxRecDepth 100000 in
set_option maxHeartbeats 4000000 in
theorem Uq {w0:World}{L gv cv gr cr gq cq Br cg bS bG bN:Nat}{A:Option Addr}{g:Sg.Ae}{c:Int->Sg.LR->Sg.LR}{R n:Nat}(hI:VC w0 L gv cv gr cr gq cq Br cg A g c R n)(hc:Sg.IL g c n)(hLg:L=g.length)(hnL:n<L)(_hL10:L<=10)(s:Sg.LR)(hs:Sg.AM g s.st=true)(hR:s.ran.length+g.length<=R)(M:Nat)(hM:w0.heap.size<=M/\bS<M/\bG<M/\bN<M) :
  U_ Tryz.prog 139 [.pointer (some ⟨bS,0,none⟩),.pointer (some ⟨bG,0,none⟩),.pointer (some ⟨bN,0,none⟩)] Sg.LR (CI w0 L gv cv gr cr gq cq Br cg bS bG bN A g s) (fun t k=>Sg.Ba (c k t) k.toNat) (fun t k=>c k t) (fun k=>0<=k/\k<(n:Int)) M where
 ent:=GZ Tryz.func139 rfl (by kernel_rfl)
 call:=fun t F w k h hk=>by
  have HLG:=lh hLg;have hv:=h.cl.ok;have hcl:=hc k.toNat t (by omega) (by omega) hv;rw[Int.toNat_of_nonneg hk.1] at hcl;have HN:=lh (Sg.AW.trans hs h.cl (hcl.1.mono fun _ _=>trivial));have HI:=lh (hI k t F w hk.1 hk.2 hv (by have:=h.cl.ran_len;omega) h.st);have HB:=lh (And.intro h.bs (And.intro h.bg (And.intro h.bn h.no)));have s0:=h.bs.cell (j:=0) rfl;have s1:=h.bs.cell (j:=1) rfl;have s2:=h.bs.cell (j:=2) rfl;have g0:=h.bg.cell (j:=0) rfl;have n0:=h.bn.cell (j:=0) rfl;have t1:=AA s0;have t2:=AA g0;have t3:=AA n0;obtain⟨m,rfl⟩:=Int.eq_ofNat_of_zero_le hk.1;have hmL:m<L:=by omega
  clear h hcl hv hI hc hs hLg;go_enter Tryz.func139,Tryz.ntmps139;go_wp2_with fail
  refine HI.out.mono ?_;rintro e w1 ⟨rfl,hG⟩;obtain⟨F1,hS1,hm1,hF1⟩:=hG;have v1:=hS1.val hmL;have b1:=HB.out.1.mod hm1 HB.out.2.2.2.1;have q0:=b1.cell (j:=0) rfl;have q0l:=AA q0;obtain⟨v1a,v1b,v1c⟩:=v1;have Hfin:=lh (And.intro hS1 (And.intro hm1 hF1));clear hS1 hm1 hF1 s0 s1 s2 g0 n0 b1;go_wp2;go_ret;obtain⟨hS1,hm1,hF1⟩:=Hfin.out;obtain⟨b1,b2,b3,n1,n2,n3⟩:=HB.out;have nF:∀ b,b<w.heap.size->¬ F b->¬ F1 b:=fun b hb hn hf=>(hF1 b hf).elim hn (fun e=>by omega);exact⟨by simp,F1,⟨hS1,HN.out,b1.mod hm1 n1,b2.mod hm1 n2,b3.mod hm1 n3,nF _ t1 n1,nF _ t2 n2,nF _ t3 n3⟩,hm1,hF1⟩
 old:=fun t F w b h hb=>(h.st.lt hb).2
 md:=fun t F G w w' h hm h1 h2=>⟨h.st.md hm h1 (fun b hb=>h2 b (by omega)),h.cl,h.bs.mod hm (h2 _ (by omega)),h.bg.mod hm (h2 _ (by omega)),h.bn.mod hm (h2 _ (by omega)),h.no⟩
 ran:=fun t F w k h hk=>by
  have hcl:=hc k.toNat t (by omega) (by omega) h.cl.ok;rw[Int.toNat_of_nonneg hk.1] at hcl;exact Sg.UI hcl.1.ok k.toNat
theorem zo0{p:Prop}(h:p:=by
 refine DL 6 rfl fun K hK=>?_;refine CP rfl rfl Bc rfl OD.out rfl rfl (Bn _ _) (by omega) (by omega) (by first | exact zd | (simp;omega)) ?_;intro A2 c2 w9 hown2 hg2 hat2;have U9:=lh (And.intro hown2 (And.intro hg2 hat2));have hx9:=(hg2.block Br bxl (fun e=>hnb e.symm));have b9:=BD.out.keep hx9;simp only[List.nil_append] at b9;have x9:=b9.cell (j:=0) rfl;have f9:=b9.free 0;have bl9:=b9.lt;have hz9:=AP hg2 (xd.cellE n0) hnN;clear hown2 hg2 hat2 hx9 b9;try simp only[pg]
 clear hHeld;refine hK.out _ _ (hz9) fun hHeld=>?_;clear hK K;try simp only[Act.put,pu]
 refine ty 7 ?_;refine DL 8 rfl fun K hK=>?_;go_simp;clear hHeld;refine hK.out _ _ (by exact(co).trans hz9) fun hHeld=>?_;clear hK K;try simp only[Act.put]
 refine dn ?_;go_wp2;go_end0;exact⟨rfl,(LG.pr (LG.tr1 MD.out HSb.out.2.2 (LD.out.addR n BD.out U9.out.1 U9.out.2.1 U9.out.2.2)) E1.out).cong HFR.out.symm⟩):p:=h
set_option maxRecDepth 100000 in
set_option maxHeartbeats 16000000 in
theorem WL (w0:World)(L gv cv gr cr gq cq Br cg:Nat)(A:Option Addr)(g:Sg.Ae)(hg:Eg w0 A g)(hG:Sg.AG g=true)(hLg:L=g.length) :
  ∀ (f n:Nat) (s:Sg.LR) (F:Nat->Prop) (W:World),n<f->n<L->Sg.AM g s.st=true->s.ran.length+10 * f<=1000000->LS w0 L gv cv gr cr gq cq Br [] s F W ->
   Calls Tryz.prog 101 #[.agg #[.slice (some ⟨gv,0,none⟩) L cv,.slice (some ⟨gr,0,none⟩) L cr,.slice (some ⟨gq,0,none⟩) L cq],.agg #[.slice A g.length cg],.int .i64 n,.pointer (some ⟨Br,0,none⟩)] W fun e w' =>
    e= .returned (.tuple #[])/\LG w0 L gv cv gr cr gq cq Br [] (Sg.AI g f n s) F W w':=by
 have hL10:L<=10:=by rw[hLg];exact Sg.CW hG
 have HG:=lh hG;have HLG:=lh hLg;have HRG:=lh hg;have hgl10:g.length<=10:=Sg.CW hG;clear hG hLg hg;intro f;induction f with
 | zero=>intro n s F W hn;omega
 | succ f ih =>
  intro n s F W hn hnL hV hR hS;have HV:=lh hV;have hc:Sg.IL g (Sg.AI g f) n:=fun k t hk hkg ht=>Sg.Fd HG.out f k t (by omega) hkg ht;have HC:=lh hc
  have hI:VC w0 L gv cv gr cr gq cq Br cg A g (Sg.AI g f) (s.ran.length+10) n:=by
   intro k t F' W' h0 h1 h2 h3 h4;have:=ih k.toNat t F' W' (by omega) (by omega) h2 (by omega) h4;rwa [Int.toNat_of_nonneg h0] at this
  have HI:=lh hI;have hng:n<g.length:=by have:=HLG.out;omega
  obtain⟨nd,hnd⟩:∃ nd,g[n]? = some nd:=⟨_,gg hng⟩;have HND:=lh hnd;have FW:=lh (fun b (hb:F b)=>(hS.lt hb).2);obtain⟨W1,hW1⟩:∃ W1,W1=((W.alloc (.cells #[.slice (some ⟨gv,0,none⟩) L cv,.slice (some ⟨gr,0,none⟩) L cr,.slice (some ⟨gq,0,none⟩) L cq] 44)).alloc (.cells #[.slice A g.length cg] 35)).alloc (.cells #[.pointer (some ⟨Br,0,none⟩)] 142):=⟨_,rfl⟩;have e1:Aa W W1:=by rw[hW1];exact(((Aa.rfl' W).al _).al _).al _
  have E1:=lh e1;have z1:W1.heap.size=W.heap.size+1+1+1:=by rw[hW1];simp
  have Z1:=lh z1;have BS:=lh (show Bx W1 W.heap.size [.slice (some ⟨gv,0,none⟩) L cv,.slice (some ⟨gr,0,none⟩) L cr,.slice (some ⟨gq,0,none⟩) L cq] by rw[hW1];exact((Bx.new W _ _).al _).al _)
  have BG:=lh (show Bx W1 (W.heap.size+1) [.slice A g.length cg] by
   have h1:=(Bx.new (W.alloc (.cells #[.slice (some ⟨gv,0,none⟩) L cv,.slice (some ⟨gr,0,none⟩) L cr,.slice (some ⟨gq,0,none⟩) L cq] 44)) #[.slice A g.length cg] 35).al (.cells #[.pointer (some ⟨Br,0,none⟩)] 142);simp only[World.size_alloc] at h1;rw[hW1];exact h1)
  have BN:=lh (show Bx W1 (W.heap.size+1+1) [.pointer (some ⟨Br,0,none⟩)] by
   have h1:=Bx.new ((W.alloc (.cells #[.slice (some ⟨gv,0,none⟩) L cv,.slice (some ⟨gr,0,none⟩) L cr,.slice (some ⟨gq,0,none⟩) L cq] 44)).alloc (.cells #[.slice A g.length cg] 35)) #[.pointer (some ⟨Br,0,none⟩)] 142;simp only[World.size_alloc] at h1;rw[hW1];exact h1)
  have S1:=lh (hS.ext e1);have hold:=hS.old.size;clear ih hI hc hV hS hnd e1 z1;go_enter Tryz.func101,Tryz.ntmps101;go_upto_region 1 with fail
  rw[<- hW1];clear hW1;generalize hN:W.heap.size=N at *;clear hN;have LB:=lh (fun (W':World) (m:AF F W1 W')=>And.intro (BS.out.mod m (fun e=>by have:=FW.out _ e;omega)) (And.intro (BG.out.mod m (fun e=>by have:=FW.out _ e;omega)) (BN.out.mod m (fun e=>by have:=FW.out _ e;omega))));have s2:=BS.out.cell (j:=2) rfl;have bs2:=AA s2;obtain⟨cq0,fq0,bq0⟩:=S1.out.col hnL;go_upto_if 17 with fail
  go_cut [] (fun wx=>Hid (LG w0 L gv cv gr cr gq cq Br [] (Sg.Cr (Sg.AI g f) n s) F W1 wx))
  case first =>
   by_cases h1:Sg.AL s n=1
   ·have y1:(Sg.AL s n == 1)=true:=by simp[h1]
    have H1:=lh h1;have s1:=BS.out.cell (j:=1) rfl;obtain⟨Al,cl,cr0,rr0,fr0,br0⟩:=S1.out.rds hnL
    have hlen:(Sg.Co s n).length<=10:=by
     have hx:Sg.Co s n ∈ s.st.reads:=by
      have hl:=S1.out.rl;unfold Sg.Co;rw[g_d,gg (by omega),Option.getD_some];exact List.getElem_mem _
     exact ES HV.out _ hx
    have HAH:=lh (fun x (hx:x ∈ Sg.Co s n)=>Sg.C7 HV.out n x hx);have HCK:=lh (show Sg.Cr (Sg.AI g f) n s=if Sg.AL (Sg.Cy (Sg.AI g f) n (Sg.Co s n) s) n=1 then Sg.KM (Sg.Cy (Sg.AI g f) n (Sg.Co s n) s) n 0 else Sg.Cy (Sg.AI g f) n (Sg.Co s n) s by unfold Sg.Cr;rw[if_pos H1.out]);generalize hrd:Sg.Co s n=l at *;have RR:=lh rr0;clear h1 hrd rr0;go_wp2_with fail
    refine(Kv Al l.length cl l _ RR.out (by omega)).mono ?_;rintro e w2 ⟨A3,rfl,ho3,he3⟩;have O3:=lh ho3;have E3:=lh he3;have S2:=lh (S1.out.ext he3);have OF:=lh (show Nk F A3 from fun b hb hf=>by have:=(O3.out.lt hb).1;have:=FW.out b hf;have:=Z1.out;omega);clear ho3 he3 s1 s2 cr0 fr0 br0 cq0 fq0 bq0 bs2;go_upto_block 0 with fail
    go_cut [] (fun wx=>Hid (LG w0 L gv cv gr cr gq cq Br [] (Sg.Cy (Sg.AI g f) n l s) F w2 wx))
    case first =>
     have HLP:=lh (fun (k:Nat)=>(Sg.Il (g:=g) (c:=Sg.AI g f) (n:=n) (by have:=HLG.out;omega) HC.out (l.take k) (fun x hx=>HAH.out x (List.mem_of_mem_take hx)) s HV.out (fun _=>True) (fun _ _ _ _=>trivial)).1);have HTK:=lh (fun (k:Nat) (x:Int) (h:l[k]? = some x)=>show l.take (k+1)=l.take k++[x] by obtain⟨hk,he⟩:=ge_.1 h;rw[List.take_succ_eq_append_getElem hk,he]);have HEN:=lh (List.take_length (l:=l));have HRR:=lh (fun (k:Nat)=>Sg.L5 (Sg.AI g f) n l k s);go_wp2_with fail
     go_loopw [25] (fun i wr=>∃ k:Nat,k<=l.length/\i= .int .i64 k/\Hid (LG w0 L gv cv gr cr gq cq Br [] (Sg.Cy (Sg.AI g f) n (l.take k) s) F w2 wr)) (fun i _=>l.length - (intOf i).toNat)
     case atStart=>exact⟨0,Nat.zero_le _,rfl,lh (by rw[List.take_zero];exact S2.out.start)⟩
     case round =>
      obtain⟨k,hk,rfl,hT⟩:=hrel;by_cases hlt:k<l.length
      ·obtain⟨b,o,x,rfl,hx,hcx⟩:=(O3.out.mod hT.out.m OF.out).rd.at1 hlt;have hxr:=HAH.out x (List.mem_of_getElem? hx);have HT:=lh (HTK.out k x hx);have hCL:=HLP.out k;have HVT:=lh hCL.ok;have hrn:=hCL.ran_len;obtain⟨m,rfl⟩:=Int.eq_ofNat_of_zero_le hxr.1;have hmn:m<n:=by omega
       have HST:=lh (Sg.L4 (Sg.AI g f) n (l.take k) (m:Int) s);have HRK:=lh (HRR.out k);obtain⟨lb1,lb2,lb3⟩:=LB.out wr ((AF.of E3.out).tr' hT.out.m);have s0:=lb1.cell (j:=0) rfl;have s1:=lb1.cell (j:=1) rfl;have s2:=lb1.cell (j:=2) rfl;have g0:=lb2.cell (j:=0) rfl;have n0:=lb3.cell (j:=0) rfl;have bs2:=AA s2;have bg0:=AA g0;have bn0:=AA n0;have bcx:=AA hcx;generalize htt:Sg.Cy (Sg.AI g f) n (l.take k) s=t at *;obtain⟨F',hS',hm',hF'⟩:=hT.out;obtain⟨cq1,fq1,bq1⟩:=hS'.col hnL;have HS':=lh (And.intro hS' (And.intro hm' hF'));clear hx hxr hCL htt hS' hm' hF' lb1 lb2 lb3;by_cases h2:Sg.AL t n=1
       ·have y2:(Sg.AL t n != 1)=false:=by simp[h2]
        have H2:=lh h2;clear h2;go_wp2_with fail
        refine(HI.out (m:Int) t F' wr (by omega) (by omega) HVT.out (by omega) HS'.out.1).mono ?_;rintro e w4 ⟨rfl,hG4⟩;have G4:=lh hG4;clear hG4;go_wp2;go_roundw
        case rel=>exact⟨k+1,by omega,by go_num,lh (by
         rw[HT.out,HST.out,if_pos H2.out];exact LG.tr1 HS'.out.2.1 HS'.out.2.2 G4.out)⟩
        case measure=>simp[intOf];omega
       ·have y2:(Sg.AL t n != 1)=true:=by simp[h2]
        have H2:=lh h2;clear h2;go_wp2_with fail
        go_meet
        exact lh (by rw[HRK.out H2.out];exact hT.out)
      ·obtain rfl:k=l.length:=by omega
       go_wp2_with fail
       go_meet
       exact lh (by have:=hT.out;rw[HEN.out] at this;exact this)
    case rest =>
     have T2:=lh (hcut.out.pr E3.out);clear S2 OF O3;generalize Sg.Cy (Sg.AI g f) n l s=t at *;obtain⟨F',hS',hm',hF'⟩:=T2.out;obtain⟨lb1,lb2,lb3⟩:=LB.out wc hm';have s2:=lb1.cell (j:=2) rfl;have bs2:=AA s2;obtain⟨cq1,fq1,bq1⟩:=hS'.col hnL;have HS':=lh (And.intro hS' (And.intro hm' hF'));clear hS' hm' hF' lb1 lb2 lb3 hcut;by_cases h2:Sg.AL t n=1
     ·have y2:(Sg.AL t n == 1)=true:=by simp[h2]
      have H2:=lh h2;clear h2;go_wp2_with fail
      go_meet
      exact lh (by rw[HCK.out,if_pos H2.out];exact LG.tr1 HS'.out.2.1 HS'.out.2.2 (HS'.out.1.setCol n 0))
     ·have y2:(Sg.AL t n == 1)=false:=by simp[h2]
      have H2:=lh h2;clear h2;go_wp2_with fail
      go_meet
      exact lh (by rw[HCK.out,if_neg H2.out];exact T2.out)
   ·have y1:(Sg.AL s n == 1)=false:=by simp[h1]
    have H1:=lh h1;clear h1;go_wp2_with fail
    go_meet
    exact lh (by unfold Sg.Cr;rw[if_neg H1.out];exact S1.out.start)
  case rest =>
   obtain⟨hCt,hCc⟩:=Sg.GO HND.out HC.out s HV.out;have HFIN:=lh (show Sg.AI g (f+1) (n:Int) s=if Sg.AL (Sg.Cr (Sg.AI g f) n s) n=2 then Sg.Eo (Sg.GM g (Sg.AI g f) n (Sg.Cr (Sg.AI g f) n s)).2.2 n (Sg.GM g (Sg.AI g f) n (Sg.Cr (Sg.AI g f) n s)).1 (Sg.GM g (Sg.AI g f) n (Sg.Cr (Sg.AI g f) n s)).2.1 else Sg.Cr (Sg.AI g f) n s by simp only[Sg.AI,Int.toNat_natCast]);have T1:=lh hcut.out;clear hcut s2 bs2 cq0 fq0 bq0;generalize Sg.Cr (Sg.AI g f) n s=t at *;have HCT:=lh hCt;obtain⟨F',hS',hm',hF'⟩:=T1.out;obtain⟨lb1,lb2,lb3⟩:=LB.out wc hm';have s2:=lb1.cell (j:=2) rfl;have bs2:=AA s2;obtain⟨cq1,fq1,bq1⟩:=hS'.col hnL;have g0:=lb2.cell (j:=0) rfl;have bg0:=AA g0;have HS':=lh (And.intro hS' (And.intro hm' hF'));have HB':=lh (And.intro lb1 (And.intro lb2 lb3));clear hCt hS' hm' hF' lb1 lb2 lb3;rcases hCc with h2 | h2
   ·have y2:(Sg.AL t n != 2)=true:=by simp[h2]
    have H2:=lh h2;clear h2;go_wp2;refine bodyPost_ret (results_none rfl _ _ _) rfl ?_;exact⟨rfl,(T1.out.pr E1.out).cong (by rw[HFIN.out,if_neg (by rw[H2.out];decide)])⟩
   ·have y2:(Sg.AL t n != 2)=false:=by simp[h2]
    have H2:=lh h2;have HVT:=lh HCT.out.ok;have hk0:nd.kind≠0:=fun e=>by have:=(((Sg.BT.1 HVT.out).2 n nd HND.out).cell e).1;unfold Sg.AL at h2;omega
    have hFOD:=Sg.PB HG.out HND.out hk0;obtain⟨nd',b,o,Ap,cp,hn',hAe,hkc,hsl,hf,hfl⟩:=HRG.out.at_ hng;rw[HND.out] at hn';injection hn' with hn';subst hn';subst hAe
    have hApb:∀ x,AE Ap=some x->x<w0.heap.size:=by
     intro x hx;obtain⟨b2,o2,hA2,hcell⟩:=hf.2.2 (by have:=hFOD.one;omega);have hlt:=AA (hcell 0 _ (gg (by rw[hf.1];have:=hFOD.one;omega)));rw[hA2] at hx;simp[AE] at hx
     omega
    have hsl1:=HS'.out.1.old.cellE hsl;have bsl1:=AA hsl1;have hsz:=HS'.out.2.1.size;have nF':∀ x,x<W1.heap.size->¬ F x->¬ F' x:=fun x hx hn hf=>(HS'.out.2.2 x hf).elim hn (fun e=>by omega);have hN3:N+1+1<W1.heap.size:=by have:=Z1.out;omega
    have nb:¬ F' N/\¬ F' (N+1)/\¬ F' (N+1+1):=⟨nF' _ (by omega) (fun e=>by have:=FW.out _ e;omega),nF' _ (by omega) (fun e=>by have:=FW.out _ e;omega),nF' _ (by omega) (fun e=>by have:=FW.out _ e;omega)⟩;have C:=Uq HI.out HC.out HLG.out hnL hL10 s HV.out (by omega) W1.heap.size (bS:=N) (bG:=N+1) (bN:=N+1+1) ⟨by omega,by omega,by omega,hN3⟩;have HR:=Td C (fun k hk=>⟨hk.1,by have:=hk.2;omega⟩) Ap cp nd.f hFOD t F' wc hsz ⟨HS'.out.1,HCT.out.mono (fun _ _=>trivial),HB'.out.1,HB'.out.2.1,HB'.out.2.2,nb⟩ (hf.ext HS'.out.1.old) (fun x hx hF=>by have:=hApb x hx;have:=(HS'.out.1.lt hF).1;omega);have hrc:Sg.GM g (Sg.AI g f) n t=Sg.Je nd.f (fun t k=>Sg.Ba (Sg.AI g f k t) k.toNat) (fun t k=>Sg.AI g f k t) t:=by unfold Sg.GM;rw[Sg.Bk HND.out]
    rw[<- hrc] at HR;have HRC:=Sg.IM HG.out HND.out hk0 HC.out t HVT.out;have HFI:=HFIN.out;rw[if_pos h2] at HFI;generalize Sg.GM g (Sg.AI g f) n t=R at *;obtain⟨X,l,u⟩:=R;dsimp only at HR HRC HFI;have HFI:=lh HFI
    have HR:=lh (show Calls Tryz.prog 87 #[.agg #[.slice Ap nd.f.length cp],.func (.func 139) #[] #[.pointer (some ⟨N,0,none⟩),.pointer (some ⟨N+1,0,none⟩),.pointer (some ⟨N+1+1,0,none⟩)]] wc (fun e w' =>
     ∃ A' F2,e= .returned (.tuple #[.int .i64 X,.slice A' l.length l.length])/\Au w' wc.heap.size 3 1 A' l.length l.length (Ah l)/\CI w0 L gv cv gr cr gq cq Br cg N (N+1) (N+1+1) (some ⟨b,o,none⟩) g s u F2 w'/\AF F' wc w'/\(∀ x,F2 x->F' x\/wc.heap.size<=x)/\Nk F2 A'/\0<=X/\X<=999) from HR)
    have hmay:=Sg.Jz HG.out HND.out hk0 u.st.vals;rw[<- HRC.2.2.1] at hmay;have HLR:=lh (show ∀ x ∈ l,0<=x/\x<(n:Int) from fun x hx=>Sg.J0 HG.out HND.out hk0 (hmay.1 x hx));have hll:l.length<=10:=GJ 10 l hmay.2 (fun x hx=>by have:=HLR.out x hx;omega);have HUO:=lh HRC.1.ok;clear C hFOD hrc HRC hmay nF' hsl hkc hf hApb h2 nb;go_wp2_with fail
    refine HR.out.mono ?_;rintro e w5 ⟨A',F2,rfl,ho5,hCI,hm5,hF5,hof,hX0,hX1⟩;have O5:=lh ho5;have M5:=lh (HS'.out.2.1.tr hm5 HS'.out.2.2);have F5:=lh (show ∀ x,F2 x->F x\/W1.heap.size<=x from fun x hx=>(hF5 x hx).elim (HS'.out.2.2 x) (fun e=>.inr (by omega)));have hsz5:=hm5.size;have OF5:=lh hof;have hB0:=HS'.out.1.old.size;have CI5:=lh hCI;have hran:=hCI.cl.ran_len;obtain⟨p1,p2,p3,p4,p5,p6⟩:=hCI.st.ne_vr;clear ho5 hm5 hF5 hof hCI HR hsl1 bsl1 g0 bg0 s2 bs2 cq1 fq1 bq1 HB';have W5:=lh (And.intro M5.out CI5.out.st);have t1:=CI5.out.bs.cell (j:=1) rfl;have t2:=CI5.out.bs.cell (j:=2) rfl;have bt:=AA t1;obtain⟨Al,cl,cr1,_,fr1,br1⟩:=W5.out.2.rds hnL;obtain⟨cq1,fq1,bq1⟩:=W5.out.2.col hnL;have dNr:gr≠N:=fun e=>CI5.out.no.1 (e ▸ W5.out.2.Fr);have dNq:gq≠N:=fun e=>CI5.out.no.1 (e ▸ W5.out.2.Fq);go_upto_region 12 with fail
    refine wp_region_held_drew (S:=(fun W=>W.cell? ⟨N,1,none⟩=some (.slice (some ⟨gr,0,none⟩) L cr)/\W.cell? ⟨N,2,none⟩=some (.slice (some ⟨gq,0,none⟩) L cq))) (by kernel_rfl) ?_ (fun hHeld=>?_)
    ·exact⟨xd.cellE t1,xd.cellE t2⟩
    refine ty 0 ?_;refine ty 1 ?_;refine ty 2 ?_;refine ty 3 ?_;refine ty 4 ?_;refine ty 5 ?_;refine ty 6 ?_;refine ty 7 ?_;refine DL 8 rfl fun K hK=>?_;go_simp;clear hHeld;refine hK.out _ _ (by exact⟨xd.cellE ((co).trans t1),xd.cellE ((co).trans t2)⟩) fun hHeld=>?_;clear hK K;try simp only[Act.put]
    refine ty 9 ?_;refine DL 10 rfl fun K hK=>?_;go_simp;clear hHeld;refine hK.out _ _ (by exact⟨xd.cellE ((co).trans ((co).trans t1)),xd.cellE ((co).trans ((co).trans t2))⟩) fun hHeld=>?_;clear hK K;try simp only[Act.put]
    refine dn ?_;obtain⟨F7,hS7,hm7,hF7⟩:=W5.out.2.put hnL l (O5.out.mono (by omega)) OF5.out;have hG8:=(hS7.setCol n 0).ext xd;have G8:=lh (LG.tr1 (F0:=F) (W0:=W1) (W5.out.1.tr (hm7.mono (F':=F2) (fun x _ e=>by rw[e];exact W5.out.2.Fr)) F5.out) (fun x hx=>(hF7 x hx).elim (F5.out x) (fun e=>.inr (by have:=(O5.out.lt e).1;omega))) hG8);clear hS7 hm7 hF7 hG8 cq1 fq1 bq1 cr1 fr1 br1 t1 t2 bt W5 M5 F5 OF5;generalize World.drew (World.setCell (World.setCell w5 ⟨gr,n,none⟩ (.slice A' l.length l.length)) ⟨gq,n,none⟩ (.int .i64 0))=w8 at *;obtain⟨F8,hS8,hm8,hF8⟩:=G8.out;dsimp only at hS8;obtain⟨lb1,lb2,lb3⟩:=LB.out w8 hm8;have s0:=lb1.cell (j:=0) rfl;have bs0:=AA s0;obtain⟨cv8,fv8,bv8⟩:=hS8.val hnL;have hvv:Sg.Ba ⟨⟨u.st.vals,u.st.reads.set n l,u.st.cols.set n 0⟩,u.ran⟩ n=Sg.Ba u n:=rfl;rw[hvv] at cv8;have HS8:=lh (And.intro hS8 (And.intro hm8 hF8));clear hS8 hm8 hF8 lb1 lb2 lb3 hvv;go_upto_if 83 with fail
    go_cut [] (fun wx=>Hid (LG w0 L gv cv gr cr gq cq Br [] (Sg.Ia u n X l) F W1 wx))
    case first =>
     by_cases hxv:X=Sg.Ba u n
     ·have y3:(X != Sg.Ba u n)=false:=by simp[hxv]
      have HXV:=lh hxv;clear hxv;go_wp2_with fail
      go_meet
      exact lh (by unfold Sg.Ia;rw[if_pos HXV.out];exact G8.out)
     ·have y3:(X != Sg.Ba u n)=true:=by simp[hxv]
      have HXV:=lh hxv;clear hxv;go_upto_region 15 with fail
      have G9:=lh (LG.tr1 HS8.out.2.1 HS8.out.2.2 (HS8.out.1.setVal n X));clear s0 bs0 cv8 fv8 bv8;generalize World.setCell w8 ⟨gv,n,none⟩ (.int .i64 X)=w9 at *;obtain⟨F9,hS9,hm9,hF9⟩:=G9.out;dsimp only at hS9;obtain⟨lb1,lb2,lb3⟩:=LB.out w9 hm9;have s0:=lb1.cell (j:=0) rfl;have s1:=lb1.cell (j:=1) rfl;have s2:=lb1.cell (j:=2) rfl;have bs0:=AA s0;have hrl:(u.st.reads.set n l).length=L:=hS9.rl;have hql:(u.st.cols.set n 0).length=L:=hS9.ql
      have HT:=VD w0.heap.size n gq (some ⟨gv,0,none⟩) (some ⟨gr,0,none⟩) L cv cr cq (u.st.cols.set n 0) (u.st.reads.set n l) w9 (Sg.NN (Sg.C7 HUO.out) HLR.out) (by rw[hrl,hql]) (by omega) (by omega)
       (hS9.rdL (by omega) (fun x hx=>by
        rcases List.mem_or_eq_of_mem_set hx with hx | rfl
        ·exact Nat.le_trans (ES HUO.out x hx) (by omega)
        ·omega)) (by rw[hql];exact hS9.q)
      rw[hrl,hql] at HT;have HT:=lh HT;have HS9:=lh (And.intro hS9 (And.intro hm9 hF9));clear hS9 hm9 hF9 lb1 lb2 lb3 hrl hql;go_wp2_with fail
      refine HT.out.mono ?_;rintro e wa ⟨rfl,hq2,hm2⟩;have Q2:=lh hq2;have M2:=lh hm2;clear hq2 hm2;go_wp2_with fail
      go_meet
      exact lh (by unfold Sg.Ia;rw[if_neg HXV.out];exact LG.tr1 HS9.out.2.1 HS9.out.2.2 (HS9.out.1.turnQ _ M2.out Q2.out))
    case rest =>
     obtain⟨wb,rfl⟩:∃ wb:World,wb=wc:=⟨_,rfl⟩;clear s0 bs0 cv8 fv8 bv8 HS8 G8;have GG:=lh hcut.out;obtain⟨Fb,hSb,hmb,hFb⟩:=hcut.out;have HFR:=lh (show Sg.AI g (f+1) (n:Int) s=⟨(Sg.Ia u n X l).st,(Sg.Ia u n X l).ran++[(n:Int)]⟩ by rw[HFI.out,Sg.PA];rfl);have hfr:(Sg.Ia u n X l).ran.length<=1000000:=by show u.ran.length<=1000000;omega
     generalize Sg.Ia u n X l=y at *;obtain⟨lb1,lb2,lb3⟩:=LB.out wb hmb;obtain⟨Ab,cb,hBx,hOb,hnb,hFbb⟩:=hSb.box;have hBx':=hBx;simp only[List.nil_append] at hBx';have n0:=lb3.cell (j:=0) rfl;have bn0:=AA n0;have x0:=hBx'.cell (j:=0) rfl;have bx0:=AA x0;have HSb:=lh (And.intro hSb (And.intro hmb hFb));have HBb:=lh (And.intro hBx hOb);have HB3:=lh lb3;have hoB:=HSb.out.1.old.size;clear hSb hmb hFb lb1 lb2 lb3 hBx hBx' hOb hcut;have LD:=lh (HSb.out.1.ext ((Aa.rfl' wb).dr));have MD:=lh (HSb.out.2.1.dr);have BD:=lh (HBb.out.1.ext ((Aa.rfl' wb).dr));have OD:=lh (HBb.out.2.ext ((Aa.rfl' wb).dr));have zd:w0.heap.size<=(World.drew wb).heap.size:=hoB;have bxl:=BD.out.lt
     have hnN:AE Ab≠some (N+1+1):=fun e=>by
      rcases HSb.out.2.2 _ (hFbb _ e) with e | e
      ·have:=FW.out _ e;omega
      ·have:=Z1.out;omega
     have dBN:Br≠N+1+1:=fun e=>by
      rcases HSb.out.2.2 _ HSb.out.1.Fb with e2 | e2
      ·have:=FW.out _ e2;omega
      ·have:=Z1.out;omega
     go_upto_region 16 with fail
     refine wp_region_held_drew (S:=(fun W=>W.cell? ⟨N+1+1,0,none⟩=some (.pointer (some ⟨Br,0,none⟩)))) (by kernel_rfl) ?_ (fun hHeld=>?_)
     ·exact xd.cellE n0
     refine ty 0 ?_;refine ty 1 ?_;refine ty 2 ?_;refine ty 4 ?_;refine wpAnyH_ready (rs:=[3,5]) (by kernel_rfl) (by simp) ?_;refine AllReadyH.cons rfl (fun K hK=>?_) ?_
     ·go_simp;clear hHeld;refine hK.out _ _ (by exact(by first | exact xd.cellE n0 | exact(xd.al _).cellE n0 | exact n0 | exact(xr.al _).cellE n0)) fun hHeld=>?_;clear hK K;try simp only[Act.put,pu]
      refine DL 5 rfl fun K hK=>?_;go_simp;clear hHeld;refine hK.out _ _ (by exact(by first | exact xd.cellE n0 | exact(xd.al _).cellE n0 | exact n0 | exact(xr.al _).cellE n0)) fun hHeld=>?_;clear hK K;try simp only[Act.put,pu]
      exact zo0
     refine AllReadyH.cons rfl (fun K hK=>?_) ?_
     ·go_simp;clear hHeld;refine hK.out _ _ (by exact(by first | exact xd.cellE n0 | exact(xd.al _).cellE n0 | exact n0 | exact(xr.al _).cellE n0)) fun hHeld=>?_;clear hK K;try simp only[Act.put,pu]
      refine DL 3 rfl fun K hK=>?_;go_simp;clear hHeld;refine hK.out _ _ (by exact(by first | exact xd.cellE n0 | exact(xd.al _).cellE n0 | exact n0 | exact(xr.al _).cellE n0)) fun hHeld=>?_;clear hK K;try simp only[Act.put,pu]
      exact zo0
     exact AllReadyH.nil
set_option maxRecDepth 100000 in
set_option maxHeartbeats 8000000 in
theorem Sb (A Av Ar Aq:Option Addr)(c cv cr cq:Nat)(g:Sg.Ae)(v q:List Int)(r:List (List Int))(n:Int)(w:World)(h:Eg w A g)(hv:Rd w 1 Av v.length (Ah v))(hr:Ex w Ar r)(hq:Rd w 1 Aq q.length (Ah q))(hvl:v.length<=1048576)(hql:q.length<=1048576) :
  Calls Tryz.prog 61 #[.agg #[.slice A g.length c],.agg #[.slice Av v.length cv,.slice Ar r.length cr,.slice Aq q.length cq],.int .i64 n] w (ZN w (Sg.AS g ⟨v,r,q⟩ n).1 (Sg.AS g ⟨v,r,q⟩ n).2.1 (Sg.AS g ⟨v,r,q⟩ n).2.2):=by
 have hgl:=h.1;have HV:=lh (fun w h hv hr hq=>Lw A Av Ar Aq c cv cr cq g v q r w h hv hr hq hvl hql);have HH:=lh (fun w=>Ob A g.length c n w hgl);have H:=lh h;have Hv:=lh hv;have Hr:=lh hr;have Hq:=lh hq;clear h hv hr hq;obtain⟨W1,hW1⟩:∃ W1,W1=World.alloc (World.alloc (World.alloc w (.cells #[.slice A g.length c] 35)) (.cells #[.slice Av v.length cv,.slice Ar r.length cr,.slice Aq q.length cq] 44)) (.cells #[.slice none 0 0,.slice none 0 0,.slice none 0 0] 44):=⟨_,rfl⟩;have e1:Aa w W1:=by rw[hW1];exact(((Aa.rfl' w).al _).al _).al _
 have z1:W1.heap.size=w.heap.size+1+1+1:=by rw[hW1];simp
 have BG:=lh (show Bx W1 w.heap.size [.slice A g.length c] by rw[hW1];exact((Bx.new w _ _).al _).al _)
 have BS:=lh (show Bx W1 (w.heap.size+1) [.slice Av v.length cv,.slice Ar r.length cr,.slice Aq q.length cq] by
  have h1:=(Bx.new (World.alloc w (.cells #[.slice A g.length c] 35)) #[.slice Av v.length cv,.slice Ar r.length cr,.slice Aq q.length cq] 44).al (.cells #[.slice none 0 0,.slice none 0 0,.slice none 0 0] 44);simp only[World.size_alloc] at h1;rw[hW1];exact h1)
 have BR:=lh (show Bx W1 (w.heap.size+1+1) [.slice none 0 0,.slice none 0 0,.slice none 0 0] by
  have h1:=Bx.new (World.alloc (World.alloc w (.cells #[.slice A g.length c] 35)) (.cells #[.slice Av v.length cv,.slice Ar r.length cr,.slice Aq q.length cq] 44)) #[.slice none 0 0,.slice none 0 0,.slice none 0 0] 44;simp only[World.size_alloc] at h1;rw[hW1];exact h1)
 have E1:=lh e1;have Z1:=lh z1;clear e1 z1;go_enter Tryz.func61,Tryz.ntmps61;go_upto_region 1 with fail
 rw[<- hW1];clear hW1;obtain⟨N,hN⟩:∃ N,w.heap.size=N:=⟨_,rfl⟩;have HN:=lh hN;rw[hN] at BG BS BR Z1;simp only[hN];clear hN;have g0:=(BG.out.ext (Aa.rfl' W1)).cell (j:=0) rfl;have s0:=(BS.out.ext (Aa.rfl' W1)).cell (j:=0) rfl;have s1:=(BS.out.ext (Aa.rfl' W1)).cell (j:=1) rfl;have s2:=(BS.out.ext (Aa.rfl' W1)).cell (j:=2) rfl;have bg0:=AA g0;have bs0:=AA s0;go_wp2_with fail
 refine(HV.out _ (H.out.ext E1.out) (Hv.out.ext E1.out) (Hr.out.ext E1.out) (Hq.out.ext E1.out)).mono ?_;rintro e w2 ⟨rfl,he2⟩;have U2:=lh he2;clear he2 g0 s0 s1 s2 bg0 bs0;have g0:=(BG.out.ext U2.out).cell (j:=0) rfl;have s0:=(BS.out.ext U2.out).cell (j:=0) rfl;have s1:=(BS.out.ext U2.out).cell (j:=1) rfl;have s2:=(BS.out.ext U2.out).cell (j:=2) rfl;have bg0:=AA g0;have bs0:=AA s0;cases hE:Sg.AM g ⟨v,r,q⟩
 ·have HS:=lh (show Sg.AS g ⟨v,r,q⟩ n=(⟨[],[],[]⟩,0,[]) by unfold Sg.AS;rw[hE];rfl);clear hE;have BRf:=lh (BR.out.ext U2.out);have f0:=BRf.out.free 0;have f1:=BRf.out.free 1;have f2:=BRf.out.free 2;have x0:=BRf.out.cell (j:=0) rfl;have x1:=BRf.out.cell (j:=1) rfl;have x2:=BRf.out.cell (j:=2) rfl;have bl:=BRf.out.lt;have r0:=(BRf.out.set3 (.slice none 0 0) (.slice none 0 0) (.slice none 0 0)).cell (j:=0) rfl;have r1:=(BRf.out.set3 (.slice none 0 0) (.slice none 0 0) (.slice none 0 0)).cell (j:=1) rfl;have r2:=(BRf.out.set3 (.slice none 0 0) (.slice none 0 0) (.slice none 0 0)).cell (j:=2) rfl;clear g0 s0 s1 s2 bg0 bs0;go_wp2;refine bodyPost_ret (v := .tuple #[.agg #[.slice none 0 0,.slice none 0 0,.slice none 0 0],.int .i64 0,.slice none 0 0]) (by simp[results,Tryz.results61,go_sem,r0,r1,r2];try rfl) rfl ?_;rw[HS.out];exact⟨none,0,none,0,none,0,[],none,0,rfl,Dr.nil _ _,by simpa[Ah] using Au.nil _ _ 3 1,by simp[AE],Aa.md (E1.out.tr U2.out) (AF.set3 w2 (N+1+1) _ _ _) (fun b e=>by have:=HN.out;omega)⟩
 have HE:=lh hE;go_wp2_with fail
 refine(HH.out _).mono ?_;rintro e w3 ⟨rfl,he3⟩;have U3:=lh (U2.out.tr he3);clear he3 g0 s0 s1 s2 bg0 bs0;have g0:=(BG.out.ext U3.out).cell (j:=0) rfl;have s0:=(BS.out.ext U3.out).cell (j:=0) rfl;have s1:=(BS.out.ext U3.out).cell (j:=1) rfl;have s2:=(BS.out.ext U3.out).cell (j:=2) rfl;have bg0:=AA g0;have bs0:=AA s0;cases hR:Sg.Cb n 0 ((g.length:Int) - 1)
 ·have HS:=lh (show Sg.AS g ⟨v,r,q⟩ n=(⟨[],[],[]⟩,0,[]) by unfold Sg.AS;rw[hE,hR];rfl);clear hE hR;have BRf:=lh (BR.out.ext U3.out);have f0:=BRf.out.free 0;have f1:=BRf.out.free 1;have f2:=BRf.out.free 2;have x0:=BRf.out.cell (j:=0) rfl;have x1:=BRf.out.cell (j:=1) rfl;have x2:=BRf.out.cell (j:=2) rfl;have bl:=BRf.out.lt;have r0:=(BRf.out.set3 (.slice none 0 0) (.slice none 0 0) (.slice none 0 0)).cell (j:=0) rfl;have r1:=(BRf.out.set3 (.slice none 0 0) (.slice none 0 0) (.slice none 0 0)).cell (j:=1) rfl;have r2:=(BRf.out.set3 (.slice none 0 0) (.slice none 0 0) (.slice none 0 0)).cell (j:=2) rfl;clear g0 s0 s1 s2 bg0 bs0;go_wp2;refine bodyPost_ret (v := .tuple #[.agg #[.slice none 0 0,.slice none 0 0,.slice none 0 0],.int .i64 0,.slice none 0 0]) (by simp[results,Tryz.results61,go_sem,r0,r1,r2];try rfl) rfl ?_;rw[HS.out];exact⟨none,0,none,0,none,0,[],none,0,rfl,Dr.nil _ _,by simpa[Ah] using Au.nil _ _ 3 1,by simp[AE],Aa.md (E1.out.tr U3.out) (AF.set3 w3 (N+1+1) _ _ _) (fun b e=>by have:=HN.out;omega)⟩
 have HS:=lh (show Sg.AS g ⟨v,r,q⟩ n=((Sg.Eb g ⟨v,r,q⟩ n).st,Sg.Ba (Sg.Eb g ⟨v,r,q⟩ n) n.toNat,(Sg.Eb g ⟨v,r,q⟩ n).ran) by unfold Sg.AS;rw[hE,hR];rfl)
 have hrn:0<=n/\n<(g.length:Int):=by
  unfold Sg.Cb at hR;simp only[Bool.and_eq_true,decide_eq_true_eq] at hR;omega
 obtain⟨k,rfl⟩:=Int.eq_ofNat_of_zero_le hrn.1;have hkg:k<g.length:=by omega
 clear hE hR hrn;obtain⟨hG,hvg,hrg,hqg,_⟩:=Sg.AN HE.out;have HG:=lh hG;have HLN:=lh (And.intro hvg (And.intro hrg hqg));have hg10:=Sg.CW hG;clear hG hvg hrg hqg;go_wp2_with fail
 refine(WM Av Ar Aq cv cr cq v q r _ (Hv.out.ext (E1.out.tr U3.out)) (Ex.l (Hr.out.ext (E1.out.tr U3.out))) (Hq.out.ext (E1.out.tr U3.out)) hvl hql).mono ?_;rintro e w4 ⟨A1,c1,A2,c2,A3,c3,hs,rfl,hoz,he4⟩;obtain⟨gv,gr,gq,rfl,rfl,rfl⟩:=hoz.some3 (by have:=HLN.out.1;(try dsimp only at this);omega) (by have:=HLN.out.2.1;(try dsimp only at this);omega) (by have:=HLN.out.2.2;(try dsimp only at this);omega);have OZ:=lh hoz;have U4:=lh he4;clear hoz he4 g0 s0 s1 s2 bg0 bs0;go_upto_region 5 with fail
 rw[show v.length=g.length from HLN.out.1,show r.length=g.length from HLN.out.2.1,show q.length=g.length from HLN.out.2.2];have BO:=lh ((Bx.new w4 #[.slice (some ⟨gv,0,none⟩) g.length c1,.slice (some ⟨gr,0,none⟩) g.length c2,.slice (some ⟨gq,0,none⟩) g.length c3] 44).al (.cells #[.slice none 0 0] 36))
 have BL:=lh (show Bx (World.alloc (World.alloc w4 (.cells #[.slice (some ⟨gv,0,none⟩) g.length c1,.slice (some ⟨gr,0,none⟩) g.length c2,.slice (some ⟨gq,0,none⟩) g.length c3] 44)) (.cells #[.slice none 0 0] 36)) (w4.heap.size+1) ([]++[.slice none 0 0]) by
  have h1:=Bx.new (World.alloc w4 (.cells #[.slice (some ⟨gv,0,none⟩) g.length c1,.slice (some ⟨gr,0,none⟩) g.length c2,.slice (some ⟨gq,0,none⟩) g.length c3] 44)) #[.slice none 0 0] 36;simp only[World.size_alloc] at h1;exact h1)
 have U5:=lh (((Aa.rfl' w4).al (.cells #[.slice (some ⟨gv,0,none⟩) g.length c1,.slice (some ⟨gr,0,none⟩) g.length c2,.slice (some ⟨gq,0,none⟩) g.length c3] 44)).al (.cells #[.slice none 0 0] 36));generalize World.alloc (World.alloc w4 (.cells #[.slice (some ⟨gv,0,none⟩) g.length c1,.slice (some ⟨gr,0,none⟩) g.length c2,.slice (some ⟨gq,0,none⟩) g.length c3] 44)) (.cells #[.slice none 0 0] 36)=w5 at *;have U35:=lh (U4.out.tr U5.out);have OL:=lh (fun b (hb:Oc (some ⟨gv,0,none⟩) (some ⟨gr,0,none⟩) (some ⟨gq,0,none⟩) hs b)=>OZ.out.lt hb);have hs4:=U4.out.size;have hs3:=U3.out.size;have hz1:=Z1.out;obtain⟨F5,hS5,hF5⟩:=LS.of (w0:=w3) (L:=g.length) (pre:=[]) (A:=none) (c:=0) U35.out (OZ.out.ext U5.out) HLN.out.1 HLN.out.2.1 HLN.out.2.2 BL.out (Au.nil _ _ _ _) (by omega) (fun b hb=>⟨fun e=>by have:=(OL.out b hb).2;omega,by simp[AE]⟩) (by simp[AE]);have nF:∀ b,b<w3.heap.size->¬ F5 b:=fun b hb hf=>by have:=(hS5.lt hf).1;omega
 have nO:¬ F5 w4.heap.size:=fun hf=>by
  rcases hF5 _ hf with e | e | e
  ·have:=(OL.out _ e).2;omega
  ·omega
  ·simp[AE] at e
 have HL5:=lh hS5;have NF:=lh nF;have NO:=lh nO;clear hS5 hF5 nF nO;have g0:=(BG.out.ext (U3.out.tr U35.out)).cell (j:=0) rfl;have s0:=(BS.out.ext (U3.out.tr U35.out)).cell (j:=0) rfl;have s1:=(BS.out.ext (U3.out.tr U35.out)).cell (j:=1) rfl;have s2:=(BS.out.ext (U3.out.tr U35.out)).cell (j:=2) rfl;have bg0:=AA g0;have bs0:=AA s0;have o0:=BO.out.cell (j:=0) rfl;have o1:=BO.out.cell (j:=1) rfl;have o2:=BO.out.cell (j:=2) rfl;have bo:=AA o0;go_wp2_with fail
 refine(WL w3 g.length gv c1 gr c2 gq c3 (w4.heap.size+1) c A g (H.out.ext (E1.out.tr U3.out)) HG.out rfl 10 k ⟨⟨v,r,q⟩,[]⟩ F5 w5 (by omega) hkg HE.out (by simp) HL5.out).mono ?_;rintro e w6 ⟨rfl,hG6⟩;have HRS:=lh (show Sg.AI g 10 (k:Int) ⟨⟨v,r,q⟩,[]⟩=Sg.Eb g ⟨v,r,q⟩ (k:Int) from rfl);rw[HRS.out] at hG6;generalize Sg.Eb g ⟨v,r,q⟩ (k:Int)=u at *;obtain⟨F6,hS6,hm6,hF6⟩:=hG6;obtain⟨hs6,A6,c6,hZ6,hB6,ho6,hd6,lv6,lr6,lq6⟩:=hS6.back;have hle6:=ho6.2.1;have hmx6:=ho6.2.2.1;obtain⟨cv6,fv6,bv6⟩:=hS6.val hkg;have BO6:=lh (BO.out.mod hm6 NO.out);have hB6':=hB6;simp only[List.nil_append] at hB6';have y0:=hB6'.cell (j:=0) rfl;have p0:=BO6.out.cell (j:=0) rfl;have p1:=BO6.out.cell (j:=1) rfl;have p2:=BO6.out.cell (j:=2) rfl;have by0:=AA y0;have bp0:=AA p0;have M6:=lh hm6;have Z6:=lh hZ6;have O6:=lh ho6;have D6:=lh hd6;have LV:=lh (And.intro lv6 (And.intro lr6 lq6));have hgvN:gv≠N+1+1:=fun e=>by have:=(OL.out gv (.inl rfl)).1;omega
 have hs5:=U5.out.size;clear hS6 hm6 hF6 hB6 hB6' hZ6 ho6 hd6 lv6 lr6 lq6 fv6 g0 s0 s1 s2 bg0 bs0 o0 o1 o2 bo;have BRf:=lh ((BR.out.ext (U3.out.tr U35.out)).mod M6.out (NF.out _ (by omega)));have f0:=BRf.out.free 0;have f1:=BRf.out.free 1;have f2:=BRf.out.free 2;have x0:=BRf.out.cell (j:=0) rfl;have x1:=BRf.out.cell (j:=1) rfl;have x2:=BRf.out.cell (j:=2) rfl;have bl:=BRf.out.lt;go_upto_region 6 with fail
 go_cut [7,8] (fun s7 s8 wx=>s7= .int .i64 (Sg.Ba u k)/\s8= .slice A6 u.ran.length u.ran.length/\Hid (Bx wx (N+1+1) [.slice (some ⟨gv,0,none⟩) g.length c1,.slice (some ⟨gr,0,none⟩) g.length c2,.slice (some ⟨gq,0,none⟩) g.length c3])/\Hid (AF (fun b=>b=N+1+1) w6 wx))
 case first =>
  refine wp_region_held_drew (S:=(fun W=>W.cell? ⟨w4.heap.size,0,none⟩=some (.slice (some ⟨gv,0,none⟩) g.length c1)/\W.cell? ⟨w4.heap.size,1,none⟩=some (.slice (some ⟨gr,0,none⟩) g.length c2)/\W.cell? ⟨w4.heap.size,2,none⟩=some (.slice (some ⟨gq,0,none⟩) g.length c3)/\W.cell? ⟨gv,k,none⟩=some (.int .i64 (Sg.Ba u k))/\W.cell? ⟨w4.heap.size+1,0,none⟩=some (.slice A6 u.ran.length c6))) (by kernel_rfl) ?_ (fun hHeld=>?_)
  ·exact⟨xd.cellE p0,xd.cellE p1,xd.cellE p2,xd.cellE cv6,xd.cellE y0⟩
  refine ty 0 ?_;refine ty 1 ?_;refine ty 2 ?_;refine ty 3 ?_;refine ty 4 ?_;refine ty 5 ?_;refine ty 6 ?_;refine DL 7 rfl fun K hK=>?_;go_simp;refine(J9 A6 u.ran.length c6 _ hle6 hmx6).mono ?_;rintro e w7 ⟨rfl,hw7⟩;subst hw7;try go_wp2_with fail
  clear hHeld;refine hK.out _ _ (by exact(by first | exact⟨p0,p1,p2,cv6,y0⟩ | exact⟨xd.cellE p0,xd.cellE p1,xd.cellE p2,xd.cellE cv6,xd.cellE y0⟩)) fun hHeld=>?_;clear hK K;try simp only[Act.put,pu]
  refine DL 8 rfl fun K hK=>?_;go_simp;clear hHeld;refine hK.out _ _ (by exact(by first | exact⟨(AF.set3 _ _ _ _ _).cellE p0 (by omega),(AF.set3 _ _ _ _ _).cellE p1 (by omega),(AF.set3 _ _ _ _ _).cellE p2 (by omega),(AF.set3 _ _ _ _ _).cellE cv6 (by omega),(AF.set3 _ _ _ _ _).cellE y0 (by omega)⟩ | exact⟨xd.cellE ((AF.set3 _ _ _ _ _).cellE p0 (by omega)),xd.cellE ((AF.set3 _ _ _ _ _).cellE p1 (by omega)),xd.cellE ((AF.set3 _ _ _ _ _).cellE p2 (by omega)),xd.cellE ((AF.set3 _ _ _ _ _).cellE cv6 (by omega)),xd.cellE ((AF.set3 _ _ _ _ _).cellE y0 (by omega))⟩ | exact⟨(AF.set3 _ _ _ _ _).cellE (xd.cellE p0) (by omega),(AF.set3 _ _ _ _ _).cellE (xd.cellE p1) (by omega),(AF.set3 _ _ _ _ _).cellE (xd.cellE p2) (by omega),(AF.set3 _ _ _ _ _).cellE (xd.cellE cv6) (by omega),(AF.set3 _ _ _ _ _).cellE (xd.cellE y0) (by omega)⟩)) fun hHeld=>?_;clear hK K;try simp only[Act.put]
  refine ty 9 ?_;refine ty 10 ?_;refine dn ?_;go_wp2_with fail
  go_meet
  exact⟨rfl,rfl,lh (by first | exact BRf.out.set3 _ _ _ | exact(BRf.out.set3 _ _ _).ext xd | exact(BRf.out.ext xd).set3 _ _ _),lh (by first | exact AF.set3 _ _ _ _ _ | exact(AF.set3 _ _ _ _ _).dr | exact(AF.of xd).tr' (AF.set3 _ _ _ _ _))⟩
 case rest =>
  obtain⟨rfl,rfl,hBf,hMf⟩:=hcut;have r0:=hBf.out.cell (j:=0) rfl;have r1:=hBf.out.cell (j:=1) rfl;have r2:=hBf.out.cell (j:=2) rfl;clear p0 p1 p2 y0 cv6 x0 x1 x2 f0 f1 f2;go_wp2;refine bodyPost_ret (v := .tuple #[.agg #[.slice (some ⟨gv,0,none⟩) g.length c1,.slice (some ⟨gr,0,none⟩) g.length c2,.slice (some ⟨gq,0,none⟩) g.length c3],.int .i64 (Sg.Ba u k),.slice A6 u.ran.length u.ran.length]) (by simp[results,Tryz.results61,go_sem,r0,r1,r2];try rfl) rfl ?_;rw[HS.out];have hwn:=HN.out;have e3:=E1.out.size;refine⟨some ⟨gv,0,none⟩,c1,some ⟨gr,0,none⟩,c2,some ⟨gq,0,none⟩,c3,hs6,A6,u.ran.length,?_,(Z6.out.mod hMf.out (fun b hb e=>by have:=(Z6.out.lt hb).1;omega)).mono (by omega),(O6.out.clip.mod hMf.out (fun b hb e=>by have:=(O6.out.lt hb).1;omega)).mono (by omega),D6.out,?_⟩
  ·dsimp only;rw[show u.st.vals.length=g.length from LV.out.1,show u.st.reads.length=g.length from LV.out.2.1,show u.st.cols.length=g.length from LV.out.2.2];rfl
  ·refine Aa.md (Aa.md (E1.out.tr (U3.out.tr U35.out)) M6.out (fun b hb=>?_)) hMf.out (fun b e=>by omega);have:=(HL5.out.lt hb).1;omega
 end Go.Proofs.YthibllkleakiiaaGreatDoor
