/- Parts of one proof, joined. The program's clean: its contract. Conditions: a valid state. ReadLazy of the program: its contract. Conditions: bounds on lengths. -/
import Derived.Test.YtgojnefiephafaaGreatLazFour
import Derived.Deep.CutBlock
import Derived.Deep.DeepCutAuto
namespace Go.Proofs.YtgojnefiephafaaGreat
open Go.RowKit
structure CI (w0:World) (L gv cv gr cr gq cq Br cg bS bG bN:Nat) (A:Option Addr) (g:Sg.Graph) (s t:Sg.LR) (F:Nat→Prop) (W:World):Prop where
 st:LS w0 L gv cv gr cr gq cq Br [] t F W
 cl:Sg.Cleaned g (fun _=>True) s t
 bs:Bx W bS [.slice (some ⟨gv,0,none⟩) L cv,.slice (some ⟨gr,0,none⟩) L cr,.slice (some ⟨gq,0,none⟩) L cq]
 bg:Bx W bG [.slice A g.length cg]
 bn:Bx W bN [.pointer (some ⟨Br,0,none⟩)]
 no:¬ F bS∧¬ F bG∧¬ F bN
def InnerC (w0:World) (L gv cv gr cr gq cq Br cg:Nat) (A:Option Addr) (g:Sg.Graph) (c:Int→Sg.LR→Sg.LR) (R n:Nat):Prop :=
 ∀ (k:Int) (t:Sg.LR) (F:Nat→Prop) (W:World),0≤k→k<(n:Int)→Sg.validL g t.st=true→t.ran.length≤R→LS w0 L gv cv gr cr gq cq Br [] t F W →
  Calls Tryz.prog 81 #[.agg #[.slice (some ⟨gv,0,none⟩) L cv,.slice (some ⟨gr,0,none⟩) L cr,.slice (some ⟨gq,0,none⟩) L cq],.agg #[.slice A g.length cg],.int .i64 k,.pointer (some ⟨Br,0,none⟩)] W fun e w' =>
   e = .returned (.tuple #[])∧LG w0 L gv cv gr cr gq cq Br [] (c k t) F W w'
set_option maxRecDepth 100000 in
set_option maxHeartbeats 4000000 in
theorem clean_clo {w0:World} {L gv cv gr cr gq cq Br cg bS bG bN:Nat} {A:Option Addr} {g:Sg.Graph} {c:Int→Sg.LR→Sg.LR} {R n:Nat} (hI:InnerC w0 L gv cv gr cr gq cq Br cg A g c R n) (hc:Sg.Cleans g c n) (hLg:L=g.length) (hnL:n<L) (_hL10:L≤10) (s:Sg.LR) (hs:Sg.validL g s.st=true) (hR:s.ran.length + g.length≤R)
  (M:Nat) (hM:w0.heap.size≤M∧bS<M∧bG<M∧bN<M) :
  Clo Tryz.prog 121 [.pointer (some ⟨bS,0,none⟩),.pointer (some ⟨bG,0,none⟩),.pointer (some ⟨bN,0,none⟩)] Sg.LR (CI w0 L gv cv gr cr gq cq Br cg bS bG bN A g s) (fun t k=>Sg.valOf (c k t) k.toNat) (fun t k=>c k t) (fun k=>0≤k∧k<(n:Int)) M where
 ent:=ent_of Tryz.func121 rfl (by kernel_rfl)
 call:=fun t F w k h hk=>by
  have HLG:=lh hLg;have hv:=h.cl.ok;have hcl:=hc k.toNat t (by omega) (by omega) hv;rw [Int.toNat_of_nonneg hk.1] at hcl;have HN:=lh (Sg.Cleaned.trans hs h.cl (hcl.1.mono fun _ _=>trivial));have HI:=lh (hI k t F w hk.1 hk.2 hv (by have:=h.cl.ran_len;omega) h.st);have HB:=lh (And.intro h.bs (And.intro h.bg (And.intro h.bn h.no)));have s0:=h.bs.cell (j:=0) rfl;have s1:=h.bs.cell (j:=1) rfl;have s2:=h.bs.cell (j:=2) rfl;have g0:=h.bg.cell (j:=0) rfl;have n0:=h.bn.cell (j:=0) rfl;have t1:=blt s0;have t2:=blt g0;have t3:=blt n0;obtain ⟨m,rfl⟩:=Int.eq_ofNat_of_zero_le hk.1;have hmL:m<L:=by omega
  clear h hcl hv hI hc hs hLg;go_enter Tryz.func121,Tryz.ntmps121;go_wp2_with fail
  refine HI.out.mono ?_;rintro e w1 ⟨rfl,hG⟩;obtain ⟨F1,hS1,hm1,hF1⟩:=hG;have v1:=hS1.val hmL;have b1:=HB.out.1.mod hm1 HB.out.2.2.2.1;have q0:=b1.cell (j:=0) rfl;have q0l:=blt q0;obtain ⟨v1a,v1b,v1c⟩:=v1;have Hfin:=lh (And.intro hS1 (And.intro hm1 hF1));clear hS1 hm1 hF1 s0 s1 s2 g0 n0 b1;go_wp2;go_ret;obtain ⟨hS1,hm1,hF1⟩:=Hfin.out;obtain ⟨b1,b2,b3,n1,n2,n3⟩:=HB.out;have nF:∀ b,b<w.heap.size→¬ F b→¬ F1 b:=fun b hb hn hf=>(hF1 b hf).elim hn (fun e=>by omega);exact ⟨by simp,F1,⟨hS1,HN.out,b1.mod hm1 n1,b2.mod hm1 n2,b3.mod hm1 n3,nF _ t1 n1,nF _ t2 n2,nF _ t3 n3⟩,hm1,hF1⟩
 old:=fun t F w b h hb=>(h.st.lt hb).2
 md:=fun t F G w w' h hm h1 h2=>⟨h.st.md hm h1 (fun b hb=>h2 b (by omega)),h.cl,h.bs.mod hm (h2 _ (by omega)),h.bg.mod hm (h2 _ (by omega)),h.bn.mod hm (h2 _ (by omega)),h.no⟩
 ran:=fun t F w k h hk=>by
  have hcl:=hc k.toNat t (by omega) (by omega) h.cl.ok;rw [Int.toNat_of_nonneg hk.1] at hcl;exact Sg.val999 hcl.1.ok k.toNat
set_option maxRecDepth 100000 in
set_option maxHeartbeats 16000000 in
theorem c_clean (w0:World) (L gv cv gr cr gq cq Br cg:Nat) (A:Option Addr) (g:Sg.Graph) (hg:RdN w0 A g) (hG:Sg.validG g=true) (hLg:L=g.length) :
  ∀ (f n:Nat) (s:Sg.LR) (F:Nat→Prop) (W:World),n<f→n<L→Sg.validL g s.st=true→s.ran.length + 10 * f≤1000000→LS w0 L gv cv gr cr gq cq Br [] s F W →
   Calls Tryz.prog 81 #[.agg #[.slice (some ⟨gv,0,none⟩) L cv,.slice (some ⟨gr,0,none⟩) L cr,.slice (some ⟨gq,0,none⟩) L cq],.agg #[.slice A g.length cg],.int .i64 n,.pointer (some ⟨Br,0,none⟩)] W fun e w' =>
    e = .returned (.tuple #[])∧LG w0 L gv cv gr cr gq cq Br [] (Sg.cleanS g f n s) F W w':=by
 have hL10:L≤10:=by rw [hLg];exact Sg.validG_len10 hG
 have HG:=lh hG;have HLG:=lh hLg;have HRG:=lh hg;have hgl10:g.length≤10:=Sg.validG_len10 hG;clear hG hLg hg;intro f;induction f with
 | zero=>intro n s F W hn;omega
 | succ f ih =>
  intro n s F W hn hnL hV hR hS;have HV:=lh hV;have hc:Sg.Cleans g (Sg.cleanS g f) n:=fun k t hk hkg ht=>Sg.cleanS_cleaned HG.out f k t (by omega) hkg ht;have HC:=lh hc
  have hI:InnerC w0 L gv cv gr cr gq cq Br cg A g (Sg.cleanS g f) (s.ran.length + 10) n:=by
   intro k t F' W' h0 h1 h2 h3 h4;have:=ih k.toNat t F' W' (by omega) (by omega) h2 (by omega) h4;rwa [Int.toNat_of_nonneg h0] at this
  have HI:=lh hI;have hng:n<g.length:=by have:=HLG.out;omega
  obtain ⟨nd,hnd⟩:∃ nd,g[n]? = some nd:=⟨_,List.getElem?_eq_getElem hng⟩;have HND:=lh hnd;have FW:=lh (fun b (hb:F b)=>(hS.lt hb).2);obtain ⟨W1,hW1⟩:∃ W1,W1=((W.alloc (.cells #[.slice (some ⟨gv,0,none⟩) L cv,.slice (some ⟨gr,0,none⟩) L cr,.slice (some ⟨gq,0,none⟩) L cq] 104)).alloc (.cells #[.slice A g.length cg] 33)).alloc (.cells #[.pointer (some ⟨Br,0,none⟩)] 118):=⟨_,rfl⟩;have e1:Ext W W1:=by rw [hW1];exact (((Ext.rfl' W).al _).al _).al _
  have E1:=lh e1;have z1:W1.heap.size=W.heap.size + 1 + 1 + 1:=by rw [hW1];simp
  have Z1:=lh z1;have BS:=lh (show Bx W1 W.heap.size [.slice (some ⟨gv,0,none⟩) L cv,.slice (some ⟨gr,0,none⟩) L cr,.slice (some ⟨gq,0,none⟩) L cq] by rw [hW1];exact ((Bx.new W _ _).al _).al _)
  have BG:=lh (show Bx W1 (W.heap.size + 1) [.slice A g.length cg] by
   have h1:=(Bx.new (W.alloc (.cells #[.slice (some ⟨gv,0,none⟩) L cv,.slice (some ⟨gr,0,none⟩) L cr,.slice (some ⟨gq,0,none⟩) L cq] 104)) #[.slice A g.length cg] 33).al (.cells #[.pointer (some ⟨Br,0,none⟩)] 118);simp only [World.size_alloc] at h1;rw [hW1];exact h1)
  have BN:=lh (show Bx W1 (W.heap.size + 1 + 1) [.pointer (some ⟨Br,0,none⟩)] by
   have h1:=Bx.new ((W.alloc (.cells #[.slice (some ⟨gv,0,none⟩) L cv,.slice (some ⟨gr,0,none⟩) L cr,.slice (some ⟨gq,0,none⟩) L cq] 104)).alloc (.cells #[.slice A g.length cg] 33)) #[.pointer (some ⟨Br,0,none⟩)] 118;simp only [World.size_alloc] at h1;rw [hW1];exact h1)
  have S1:=lh (hS.ext e1);have hold:=hS.old.size;clear ih hI hc hV hS hnd e1 z1;go_enter Tryz.func81,Tryz.ntmps81;go_upto_region 1 with fail
  rw [← hW1];clear hW1;generalize hN:W.heap.size=N at *;clear hN;have LB:=lh (fun (W':World) (m:Mod F W1 W')=>And.intro (BS.out.mod m (fun e=>by have:=FW.out _ e;omega)) (And.intro (BG.out.mod m (fun e=>by have:=FW.out _ e;omega)) (BN.out.mod m (fun e=>by have:=FW.out _ e;omega))));have s2:=BS.out.cell (j:=2) rfl;have bs2:=blt s2;obtain ⟨cq0,fq0,bq0⟩:=S1.out.col hnL;go_upto_if 17 with fail
  go_cut [] (fun wx=>Hid (LG w0 L gv cv gr cr gq cq Br [] (Sg.checkS (Sg.cleanS g f) n s) F W1 wx))
  case first =>
   by_cases h1:Sg.colOf s n=1
   ·have y1:(Sg.colOf s n == 1)=true:=by simp [h1]
    have H1:=lh h1;have s1:=BS.out.cell (j:=1) rfl;obtain ⟨Al,cl,cr0,rr0,fr0,br0⟩:=S1.out.rds hnL
    have hlen:(Sg.rdsOf s n).length≤10:=by
     have hx:Sg.rdsOf s n ∈ s.st.reads:=by
      have hl:=S1.out.rl;unfold Sg.rdsOf;rw [List.getD_eq_getElem?_getD,List.getElem?_eq_getElem (by omega),Option.getD_some];exact List.getElem_mem _
     exact reads_small HV.out _ hx
    have HAH:=lh (fun x (hx:x ∈ Sg.rdsOf s n)=>Sg.ahead_of HV.out n x hx);have HCK:=lh (show Sg.checkS (Sg.cleanS g f) n s=if Sg.colOf (Sg.loopS (Sg.cleanS g f) n (Sg.rdsOf s n) s) n=1 then Sg.setCol (Sg.loopS (Sg.cleanS g f) n (Sg.rdsOf s n) s) n 0 else Sg.loopS (Sg.cleanS g f) n (Sg.rdsOf s n) s by unfold Sg.checkS;rw [if_pos H1.out]);generalize hrd:Sg.rdsOf s n=l at *;have RR:=lh rr0;clear h1 hrd rr0;go_wp2_with fail
    refine (i_clone Al l.length cl l _ RR.out (by omega)).mono ?_;rintro e w2 ⟨A3,rfl,ho3,he3⟩;have O3:=lh ho3;have E3:=lh he3;have S2:=lh (S1.out.ext he3);have OF:=lh (show off F A3 from fun b hb hf=>by have:=(O3.out.lt hb).1;have:=FW.out b hf;have:=Z1.out;omega);clear ho3 he3 s1 s2 cr0 fr0 br0 cq0 fq0 bq0 bs2;go_upto_block 0 with fail
    go_cut [] (fun wx=>Hid (LG w0 L gv cv gr cr gq cq Br [] (Sg.loopS (Sg.cleanS g f) n l s) F w2 wx))
    case first =>
     have HLP:=lh (fun (k:Nat)=>(Sg.loopS_cleaned (g:=g) (c:=Sg.cleanS g f) (n:=n) (by have:=HLG.out;omega) HC.out (l.take k) (fun x hx=>HAH.out x (List.mem_of_mem_take hx)) s HV.out (fun _=>True) (fun _ _ _ _=>trivial)).1);have HTK:=lh (fun (k:Nat) (x:Int) (h:l[k]? = some x)=>show l.take (k + 1)=l.take k++[x] by obtain ⟨hk,he⟩:=List.getElem?_eq_some_iff.1 h;rw [List.take_succ_eq_append_getElem hk,he]);have HEN:=lh (List.take_length (l:=l));have HRR:=lh (fun (k:Nat)=>Sg.loopS_rest (Sg.cleanS g f) n l k s);go_wp2_with fail
     go_loopw [25] (fun i wr=>∃ k:Nat,k≤l.length∧i = .int .i64 k∧Hid (LG w0 L gv cv gr cr gq cq Br [] (Sg.loopS (Sg.cleanS g f) n (l.take k) s) F w2 wr)) (fun i _=>l.length - (intOf i).toNat)
     case atStart=>exact ⟨0,Nat.zero_le _,rfl,lh (by rw [List.take_zero];exact S2.out.start)⟩
     case round =>
      obtain ⟨k,hk,rfl,hT⟩:=hrel;by_cases hlt:k<l.length
      ·obtain ⟨b,o,x,rfl,hx,hcx⟩:=(O3.out.mod hT.out.m OF.out).rd.at1 hlt;have hxr:=HAH.out x (List.mem_of_getElem? hx);have HT:=lh (HTK.out k x hx);have hCL:=HLP.out k;have HVT:=lh hCL.ok;have hrn:=hCL.ran_len;obtain ⟨m,rfl⟩:=Int.eq_ofNat_of_zero_le hxr.1;have hmn:m<n:=by omega
       have HST:=lh (Sg.loopS_snoc (Sg.cleanS g f) n (l.take k) (m:Int) s);have HRK:=lh (HRR.out k);obtain ⟨lb1,lb2,lb3⟩:=LB.out wr ((Mod.of E3.out).tr' hT.out.m);have s0:=lb1.cell (j:=0) rfl;have s1:=lb1.cell (j:=1) rfl;have s2:=lb1.cell (j:=2) rfl;have g0:=lb2.cell (j:=0) rfl;have n0:=lb3.cell (j:=0) rfl;have bs2:=blt s2;have bg0:=blt g0;have bn0:=blt n0;have bcx:=blt hcx;generalize htt:Sg.loopS (Sg.cleanS g f) n (l.take k) s=t at *;obtain ⟨F',hS',hm',hF'⟩:=hT.out;obtain ⟨cq1,fq1,bq1⟩:=hS'.col hnL;have HS':=lh (And.intro hS' (And.intro hm' hF'));clear hx hxr hCL htt hS' hm' hF' lb1 lb2 lb3;by_cases h2:Sg.colOf t n=1
       ·have y2:(Sg.colOf t n != 1)=false:=by simp [h2]
        have H2:=lh h2;clear h2;go_wp2_with fail
        refine (HI.out (m:Int) t F' wr (by omega) (by omega) HVT.out (by omega) HS'.out.1).mono ?_;rintro e w4 ⟨rfl,hG4⟩;have G4:=lh hG4;clear hG4;go_wp2;go_roundw
        case rel=>exact ⟨k + 1,by omega,by go_num,lh (by
         rw [HT.out,HST.out,if_pos H2.out];exact LG.tr1 HS'.out.2.1 HS'.out.2.2 G4.out)⟩
        case measure=>simp [intOf];omega
       ·have y2:(Sg.colOf t n != 1)=true:=by simp [h2]
        have H2:=lh h2;clear h2;go_wp2_with fail
        go_meet
        exact lh (by rw [HRK.out H2.out];exact hT.out)
      ·obtain rfl:k=l.length:=by omega
       go_wp2_with fail
       go_meet
       exact lh (by have:=hT.out;rw [HEN.out] at this;exact this)
    case rest =>
     have T2:=lh (hcut.out.pr E3.out);clear S2 OF O3;generalize Sg.loopS (Sg.cleanS g f) n l s=t at *;obtain ⟨F',hS',hm',hF'⟩:=T2.out;obtain ⟨lb1,lb2,lb3⟩:=LB.out wc hm';have s2:=lb1.cell (j:=2) rfl;have bs2:=blt s2;obtain ⟨cq1,fq1,bq1⟩:=hS'.col hnL;have HS':=lh (And.intro hS' (And.intro hm' hF'));clear hS' hm' hF' lb1 lb2 lb3 hcut;by_cases h2:Sg.colOf t n=1
     ·have y2:(Sg.colOf t n == 1)=true:=by simp [h2]
      have H2:=lh h2;clear h2;go_wp2_with fail
      go_meet
      exact lh (by rw [HCK.out,if_pos H2.out];exact LG.tr1 HS'.out.2.1 HS'.out.2.2 (HS'.out.1.setCol n 0))
     ·have y2:(Sg.colOf t n == 1)=false:=by simp [h2]
      have H2:=lh h2;clear h2;go_wp2_with fail
      go_meet
      exact lh (by rw [HCK.out,if_neg H2.out];exact T2.out)
   ·have y1:(Sg.colOf s n == 1)=false:=by simp [h1]
    have H1:=lh h1;clear h1;go_wp2_with fail
    go_meet
    exact lh (by unfold Sg.checkS;rw [if_neg H1.out];exact S1.out.start)
  case rest =>
   obtain ⟨hCt,hCc⟩:=Sg.checkS_cleaned HND.out HC.out s HV.out;have HFIN:=lh (show Sg.cleanS g (f + 1) (n:Int) s=if Sg.colOf (Sg.checkS (Sg.cleanS g f) n s) n=2 then Sg.finishL (Sg.runC g (Sg.cleanS g f) n (Sg.checkS (Sg.cleanS g f) n s)).2.2 n (Sg.runC g (Sg.cleanS g f) n (Sg.checkS (Sg.cleanS g f) n s)).1 (Sg.runC g (Sg.cleanS g f) n (Sg.checkS (Sg.cleanS g f) n s)).2.1 else Sg.checkS (Sg.cleanS g f) n s by simp only [Sg.cleanS,Int.toNat_natCast]);have T1:=lh hcut.out;clear hcut s2 bs2 cq0 fq0 bq0;generalize Sg.checkS (Sg.cleanS g f) n s=t at *;have HCT:=lh hCt;obtain ⟨F',hS',hm',hF'⟩:=T1.out;obtain ⟨lb1,lb2,lb3⟩:=LB.out wc hm';have s2:=lb1.cell (j:=2) rfl;have bs2:=blt s2;obtain ⟨cq1,fq1,bq1⟩:=hS'.col hnL;have g0:=lb2.cell (j:=0) rfl;have bg0:=blt g0;have HS':=lh (And.intro hS' (And.intro hm' hF'));have HB':=lh (And.intro lb1 (And.intro lb2 lb3));clear hCt hS' hm' hF' lb1 lb2 lb3;rcases hCc with h2 | h2
   ·have y2:(Sg.colOf t n != 2)=true:=by simp [h2]
    have H2:=lh h2;clear h2;go_wp2;refine bodyPost_ret (results_none rfl _ _ _) rfl ?_;exact ⟨rfl,(T1.out.pr E1.out).cong (by rw [HFIN.out,if_neg (by rw [H2.out];decide)])⟩
   ·have y2:(Sg.colOf t n != 2)=false:=by simp [h2]
    have H2:=lh h2;have HVT:=lh HCT.out.ok;have hk0:nd.kind≠0:=fun e=>by have:=(((Sg.validL_iff.1 HVT.out).2 n nd HND.out).cell e).1;unfold Sg.colOf at h2;omega
    have hFOD:=Sg.node_fod HG.out HND.out hk0;obtain ⟨nd',b,o,Ap,cp,hn',hAe,hkc,hsl,hf,hfl⟩:=HRG.out.at_ hng;rw [HND.out] at hn';injection hn' with hn';subst hn';subst hAe
    have hApb:∀ x,blk Ap=some x→x<w0.heap.size:=by
     intro x hx;obtain ⟨b2,o2,hA2,hcell⟩:=hf.2.2 (by have:=hFOD.one;omega);have hlt:=blt (hcell 0 _ (List.getElem?_eq_getElem (by rw [hf.1];have:=hFOD.one;omega)));rw [hA2] at hx;simp [blk] at hx
     omega
    have hsl1:=HS'.out.1.old.cellE hsl;have bsl1:=blt hsl1;have hsz:=HS'.out.2.1.size;have nF':∀ x,x<W1.heap.size→¬ F x→¬ F' x:=fun x hx hn hf=>(HS'.out.2.2 x hf).elim hn (fun e=>by omega);have hN3:N + 1 + 1<W1.heap.size:=by have:=Z1.out;omega
    have nb:¬ F' N∧¬ F' (N + 1)∧¬ F' (N + 1 + 1):=⟨nF' _ (by omega) (fun e=>by have:=FW.out _ e;omega),nF' _ (by omega) (fun e=>by have:=FW.out _ e;omega),nF' _ (by omega) (fun e=>by have:=FW.out _ e;omega)⟩;have C:=clean_clo HI.out HC.out HLG.out hnL hL10 s HV.out (by omega) W1.heap.size (bS:=N) (bG:=N + 1) (bN:=N + 1 + 1) ⟨by omega,by omega,by omega,hN3⟩;have HR:=i_run C (fun k hk=>⟨hk.1,by have:=hk.2;omega⟩) Ap cp nd.f hFOD t F' wc hsz ⟨HS'.out.1,HCT.out.mono (fun _ _=>trivial),HB'.out.1,HB'.out.2.1,HB'.out.2.2,nb⟩ (hf.ext HS'.out.1.old) (fun x hx hF=>by have:=hApb x hx;have:=(HS'.out.1.lt hF).1;omega);have hrc:Sg.runC g (Sg.cleanS g f) n t=Sg.runM nd.f (fun t k=>Sg.valOf (Sg.cleanS g f k t) k.toNat) (fun t k=>Sg.cleanS g f k t) t:=by unfold Sg.runC;rw [Sg.getD_of HND.out]
    rw [← hrc] at HR;have HRC:=Sg.runC_cleaned HG.out HND.out hk0 HC.out t HVT.out;have HFI:=HFIN.out;rw [if_pos h2] at HFI;generalize Sg.runC g (Sg.cleanS g f) n t=R at *;obtain ⟨X,l,u⟩:=R;dsimp only at HR HRC HFI;have HFI:=lh HFI
    have HR:=lh (show Calls Tryz.prog 101 #[.agg #[.slice Ap nd.f.length cp],.func (.func 121) #[] #[.pointer (some ⟨N,0,none⟩),.pointer (some ⟨N + 1,0,none⟩),.pointer (some ⟨N + 1 + 1,0,none⟩)]] wc (fun e w' =>
     ∃ A' F2,e = .returned (.tuple #[.int .i64 X,.slice A' l.length l.length])∧Own w' wc.heap.size 3 1 A' l.length l.length (ints l)∧CI w0 L gv cv gr cr gq cq Br cg N (N + 1) (N + 1 + 1) (some ⟨b,o,none⟩) g s u F2 w'∧Mod F' wc w'∧(∀ x,F2 x→F' x∨wc.heap.size≤x)∧off F2 A'∧0≤X∧X≤999) from HR)
    have hmay:=Sg.run_may HG.out HND.out hk0 u.st.vals;rw [← HRC.2.2.1] at hmay;have HLR:=lh (show ∀ x ∈ l,0≤x∧x<(n:Int) from fun x hx=>Sg.may_lt HG.out HND.out hk0 (hmay.1 x hx));have hll:l.length≤10:=nodup_len 10 l hmay.2 (fun x hx=>by have:=HLR.out x hx;omega);have HUO:=lh HRC.1.ok;clear C hFOD hrc HRC hmay nF' hsl hkc hf hApb h2 nb;go_wp2_with fail
    refine HR.out.mono ?_;rintro e w5 ⟨A',F2,rfl,ho5,hCI,hm5,hF5,hof,hX0,hX1⟩;have O5:=lh ho5;have M5:=lh (HS'.out.2.1.tr hm5 HS'.out.2.2);have F5:=lh (show ∀ x,F2 x→F x∨W1.heap.size≤x from fun x hx=>(hF5 x hx).elim (HS'.out.2.2 x) (fun e=>.inr (by omega)));have hsz5:=hm5.size;have OF5:=lh hof;have hB0:=HS'.out.1.old.size;have CI5:=lh hCI;have hran:=hCI.cl.ran_len;obtain ⟨p1,p2,p3,p4,p5,p6⟩:=hCI.st.ne_vr;clear ho5 hm5 hF5 hof hCI HR hsl1 bsl1 g0 bg0 s2 bs2 cq1 fq1 bq1 HB';have W5:=lh (And.intro M5.out CI5.out.st);have t1:=CI5.out.bs.cell (j:=1) rfl;have t2:=CI5.out.bs.cell (j:=2) rfl;have bt:=blt t1;obtain ⟨Al,cl,cr1,_,fr1,br1⟩:=W5.out.2.rds hnL;obtain ⟨cq1,fq1,bq1⟩:=W5.out.2.col hnL;have dNr:gr≠N:=fun e=>CI5.out.no.1 (e ▸ W5.out.2.Fr);have dNq:gq≠N:=fun e=>CI5.out.no.1 (e ▸ W5.out.2.Fq);go_upto_region 12 with fail
    refine wp_region_held_drew (S:=(fun W=>W.cell? ⟨N,1,none⟩=some (.slice (some ⟨gr,0,none⟩) L cr)∧W.cell? ⟨N,2,none⟩=some (.slice (some ⟨gq,0,none⟩) L cq))) (by kernel_rfl) ?_ (fun hHeld=>?_)
    ·exact ⟨((Ext.rfl' _).dr).cellE t1,((Ext.rfl' _).dr).cellE t2⟩
    refine ty 0 ?_;refine ty 1 ?_;refine ty 2 ?_;refine ty 3 ?_;refine ty 4 ?_;refine ty 5 ?_;refine ty 6 ?_;refine ty 7 ?_;refine rd1 8 rfl fun K hK=>?_;go_simp;clear hHeld;refine hK.out _ _ (by exact ⟨((Ext.rfl' _).dr).cellE ((co).trans t1),((Ext.rfl' _).dr).cellE ((co).trans t2)⟩) fun hHeld=>?_;clear hK K;try simp only [Act.put]
    refine ty 9 ?_;refine rd1 10 rfl fun K hK=>?_;go_simp;clear hHeld;refine hK.out _ _ (by exact ⟨((Ext.rfl' _).dr).cellE ((co).trans ((co).trans t1)),((Ext.rfl' _).dr).cellE ((co).trans ((co).trans t2))⟩) fun hHeld=>?_;clear hK K;try simp only [Act.put]
    refine dn ?_;obtain ⟨F7,hS7,hm7,hF7⟩:=W5.out.2.put hnL l (O5.out.mono (by omega)) OF5.out;have hG8:=(hS7.setCol n 0).ext ((Ext.rfl' _).dr);have G8:=lh (LG.tr1 (F0:=F) (W0:=W1) (W5.out.1.tr (hm7.mono (F':=F2) (fun x _ e=>by rw [e];exact W5.out.2.Fr)) F5.out) (fun x hx=>(hF7 x hx).elim (F5.out x) (fun e=>.inr (by have:=(O5.out.lt e).1;omega))) hG8);clear hS7 hm7 hF7 hG8 cq1 fq1 bq1 cr1 fr1 br1 t1 t2 bt W5 M5 F5 OF5;generalize World.drew (World.setCell (World.setCell w5 ⟨gr,n,none⟩ (.slice A' l.length l.length)) ⟨gq,n,none⟩ (.int .i64 0))=w8 at *;obtain ⟨F8,hS8,hm8,hF8⟩:=G8.out;dsimp only at hS8;obtain ⟨lb1,lb2,lb3⟩:=LB.out w8 hm8;have s0:=lb1.cell (j:=0) rfl;have bs0:=blt s0;obtain ⟨cv8,fv8,bv8⟩:=hS8.val hnL;have hvv:Sg.valOf ⟨⟨u.st.vals,u.st.reads.set n l,u.st.cols.set n 0⟩,u.ran⟩ n=Sg.valOf u n:=rfl;rw [hvv] at cv8;have HS8:=lh (And.intro hS8 (And.intro hm8 hF8));clear hS8 hm8 hF8 lb1 lb2 lb3 hvv;go_upto_if 83 with fail
    go_cut [] (fun wx=>Hid (LG w0 L gv cv gr cr gq cq Br [] (Sg.finish0 u n X l) F W1 wx))
    case first =>
     by_cases hxv:X=Sg.valOf u n
     ·have y3:(X != Sg.valOf u n)=false:=by simp [hxv]
      have HXV:=lh hxv;clear hxv;go_wp2_with fail
      go_meet
      exact lh (by unfold Sg.finish0;rw [if_pos HXV.out];exact G8.out)
     ·have y3:(X != Sg.valOf u n)=true:=by simp [hxv]
      have HXV:=lh hxv;clear hxv;go_upto_region 15 with fail
      have G9:=lh (LG.tr1 HS8.out.2.1 HS8.out.2.2 (HS8.out.1.setVal n X));clear s0 bs0 cv8 fv8 bv8;generalize World.setCell w8 ⟨gv,n,none⟩ (.int .i64 X)=w9 at *;obtain ⟨F9,hS9,hm9,hF9⟩:=G9.out;dsimp only at hS9;obtain ⟨lb1,lb2,lb3⟩:=LB.out w9 hm9;have s0:=lb1.cell (j:=0) rfl;have s1:=lb1.cell (j:=1) rfl;have s2:=lb1.cell (j:=2) rfl;have bs0:=blt s0;have hrl:(u.st.reads.set n l).length=L:=hS9.rl;have hql:(u.st.cols.set n 0).length=L:=hS9.ql
      have HT:=i_tell w0.heap.size n gq (some ⟨gv,0,none⟩) (some ⟨gr,0,none⟩) L cv cr cq (u.st.cols.set n 0) (u.st.reads.set n l) w9 (Sg.ahead_set (Sg.ahead_of HUO.out) HLR.out) (by rw [hrl,hql]) (by omega) (by omega)
       (hS9.rdL (by omega) (fun x hx=>by
        rcases List.mem_or_eq_of_mem_set hx with hx | rfl
        ·exact Nat.le_trans (reads_small HUO.out x hx) (by omega)
        ·omega)) (by rw [hql];exact hS9.q)
      rw [hrl,hql] at HT;have HT:=lh HT;have HS9:=lh (And.intro hS9 (And.intro hm9 hF9));clear hS9 hm9 hF9 lb1 lb2 lb3 hrl hql;go_wp2_with fail
      refine HT.out.mono ?_;rintro e wa ⟨rfl,hq2,hm2⟩;have Q2:=lh hq2;have M2:=lh hm2;clear hq2 hm2;go_wp2_with fail
      go_meet
      exact lh (by unfold Sg.finish0;rw [if_neg HXV.out];exact LG.tr1 HS9.out.2.1 HS9.out.2.2 (HS9.out.1.turnQ _ M2.out Q2.out))
    case rest =>
     obtain ⟨wb,rfl⟩:∃ wb:World,wb=wc:=⟨_,rfl⟩;clear s0 bs0 cv8 fv8 bv8 HS8 G8;have GG:=lh hcut.out;obtain ⟨Fb,hSb,hmb,hFb⟩:=hcut.out;have HFR:=lh (show Sg.cleanS g (f + 1) (n:Int) s=⟨(Sg.finish0 u n X l).st,(Sg.finish0 u n X l).ran++[(n:Int)]⟩ by rw [HFI.out,Sg.finish0_ran];rfl);have hfr:(Sg.finish0 u n X l).ran.length≤1000000:=by show u.ran.length≤1000000;omega
     generalize Sg.finish0 u n X l=y at *;obtain ⟨lb1,lb2,lb3⟩:=LB.out wb hmb;obtain ⟨Ab,cb,hBx,hOb,hnb,hFbb⟩:=hSb.box;have hBx':=hBx;simp only [List.nil_append] at hBx';have n0:=lb3.cell (j:=0) rfl;have bn0:=blt n0;have x0:=hBx'.cell (j:=0) rfl;have bx0:=blt x0;have HSb:=lh (And.intro hSb (And.intro hmb hFb));have HBb:=lh (And.intro hBx hOb);have HB3:=lh lb3;have hoB:=HSb.out.1.old.size;clear hSb hmb hFb lb1 lb2 lb3 hBx hBx' hOb hcut;have LD:=lh (HSb.out.1.ext ((Ext.rfl' wb).dr));have MD:=lh (HSb.out.2.1.dr);have BD:=lh (HBb.out.1.ext ((Ext.rfl' wb).dr));have OD:=lh (HBb.out.2.ext ((Ext.rfl' wb).dr));have zd:w0.heap.size≤(World.drew wb).heap.size:=hoB;have bxl:=BD.out.lt
     have hnN:blk Ab≠some (N + 1 + 1):=fun e=>by
      rcases HSb.out.2.2 _ (hFbb _ e) with e | e
      ·have:=FW.out _ e;omega
      ·have:=Z1.out;omega
     have dBN:Br≠N + 1 + 1:=fun e=>by
      rcases HSb.out.2.2 _ HSb.out.1.Fb with e2 | e2
      ·have:=FW.out _ e2;omega
      ·have:=Z1.out;omega
     go_upto_region 16 with fail
     refine wp_region_held_drew (S:=(fun W=>W.cell? ⟨N + 1 + 1,0,none⟩=some (.pointer (some ⟨Br,0,none⟩)))) (by kernel_rfl) ?_ (fun hHeld=>?_)
     ·exact ((Ext.rfl' _).dr).cellE n0
     refine ty 0 ?_;refine ty 1 ?_;refine ty 2 ?_;refine ty 4 ?_;refine wpAnyH_ready (rs:=[3,5]) (by kernel_rfl) (by simp) ?_;refine AllReadyH.cons rfl (fun K hK=>?_) ?_
     ·go_simp;clear hHeld;refine hK.out _ _ (by exact (by first | exact ((Ext.rfl' _).dr).cellE n0 | exact (((Ext.rfl' _).dr).al _).cellE n0 | exact n0 | exact ((Ext.rfl' _).al _).cellE n0)) fun hHeld=>?_;clear hK K;try simp only [Act.put,pu]
      refine rd1 5 rfl fun K hK=>?_;go_simp;clear hHeld;refine hK.out _ _ (by exact (by first | exact ((Ext.rfl' _).dr).cellE n0 | exact (((Ext.rfl' _).dr).al _).cellE n0 | exact n0 | exact ((Ext.rfl' _).al _).cellE n0)) fun hHeld=>?_;clear hK K;try simp only [Act.put,pu]
      refine rd1 6 rfl fun K hK=>?_;refine held_app1 rfl rfl eiInt rfl OD.out rfl rfl (one_int _ _) (by omega) (by omega) (by first | exact zd | (simp;omega)) ?_;intro A2 c2 w9 hown2 hg2 hat2;have U9:=lh (And.intro hown2 (And.intro hg2 hat2));have hx9:=(hg2.block Br bxl (fun e=>hnb e.symm));have b9:=BD.out.keep hx9;simp only [List.nil_append] at b9;have x9:=b9.cell (j:=0) rfl;have f9:=b9.free 0;have bl9:=b9.lt;have hz9:=grown_cell hg2 (((Ext.rfl' _).dr).cellE n0) hnN;clear hown2 hg2 hat2 hx9 b9;try simp only [pg]
      clear hHeld;refine hK.out _ _ (by exact hz9) fun hHeld=>?_;clear hK K;try simp only [Act.put,pu]
      refine ty 7 ?_;refine rd1 8 rfl fun K hK=>?_;go_simp;clear hHeld;refine hK.out _ _ (by exact (co).trans hz9) fun hHeld=>?_;clear hK K;try simp only [Act.put]
      refine dn ?_;go_wp2;go_end0;exact ⟨rfl,(LG.pr (LG.tr1 MD.out HSb.out.2.2 (LD.out.addR n BD.out U9.out.1 U9.out.2.1 U9.out.2.2)) E1.out).cong HFR.out.symm⟩
     refine AllReadyH.cons rfl (fun K hK=>?_) ?_
     ·go_simp;clear hHeld;refine hK.out _ _ (by exact (by first | exact ((Ext.rfl' _).dr).cellE n0 | exact (((Ext.rfl' _).dr).al _).cellE n0 | exact n0 | exact ((Ext.rfl' _).al _).cellE n0)) fun hHeld=>?_;clear hK K;try simp only [Act.put,pu]
      refine rd1 3 rfl fun K hK=>?_;go_simp;clear hHeld;refine hK.out _ _ (by exact (by first | exact ((Ext.rfl' _).dr).cellE n0 | exact (((Ext.rfl' _).dr).al _).cellE n0 | exact n0 | exact ((Ext.rfl' _).al _).cellE n0)) fun hHeld=>?_;clear hK K;try simp only [Act.put,pu]
      refine rd1 6 rfl fun K hK=>?_;refine held_app1 rfl rfl eiInt rfl OD.out rfl rfl (one_int _ _) (by omega) (by omega) (by first | exact zd | (simp;omega)) ?_;intro A2 c2 w9 hown2 hg2 hat2;have U9:=lh (And.intro hown2 (And.intro hg2 hat2));have hx9:=(hg2.block Br bxl (fun e=>hnb e.symm));have b9:=BD.out.keep hx9;simp only [List.nil_append] at b9;have x9:=b9.cell (j:=0) rfl;have f9:=b9.free 0;have bl9:=b9.lt;have hz9:=grown_cell hg2 (((Ext.rfl' _).dr).cellE n0) hnN;clear hown2 hg2 hat2 hx9 b9;try simp only [pg]
      clear hHeld;refine hK.out _ _ (by exact hz9) fun hHeld=>?_;clear hK K;try simp only [Act.put,pu]
      refine ty 7 ?_;refine rd1 8 rfl fun K hK=>?_;go_simp;clear hHeld;refine hK.out _ _ (by exact (co).trans hz9) fun hHeld=>?_;clear hK K;try simp only [Act.put]
      refine dn ?_;go_wp2;go_end0;exact ⟨rfl,(LG.pr (LG.tr1 MD.out HSb.out.2.2 (LD.out.addR n BD.out U9.out.1 U9.out.2.1 U9.out.2.2)) E1.out).cong HFR.out.symm⟩
     exact AllReadyH.nil
end Go.Proofs.YtgojnefiephafaaGreat
namespace Go.Proofs.YtgojnefiephafaaGreat
open Go.RowKit
