/- The program's ParseGraph, in memory: its contract. Conditions: texts of at most 2^20 bytes; the program's variables as they were laid (Ge). -/
import Derived.Test.YthibllkleakiiaaGreatDoorTxO
namespace Sg
open Go
theorem Ir {s:AR}(h:Fd s=none):ES (C0 s)=([],[],false):=by rw[JW,h];rfl
def LY:List ByteArray:=[⟨#[99,101,108,108]⟩,⟨#[100,101,114,105,118,101,100]⟩,⟨#[101,102,102,101,99,116]⟩]
def KM (w:AR):Int:=if w=DC then 0 else if w=Gp then 1 else if w=Gq then 2 else -1
theorem KN (w:AR):(KM w = -1/\w≠DC/\w≠Gp/\w≠Gq)\/(KM w=0/\w=DC)\/(KM w=1/\w=Gp)\/(KM w=2/\w=Gq):=by
 unfold KM;by_cases h0:w=DC
 ·exact .inr (.inl ⟨by rw[if_pos h0],h0⟩)
 ·by_cases h1:w=Gp
  ·exact .inr (.inr (.inl ⟨by rw[if_neg h0,if_pos h1],h1⟩))
  ·by_cases h2:w=Gq
   ·exact .inr (.inr (.inr ⟨by rw[if_neg h0,if_neg h1,if_pos h2],h2⟩))
   ·exact .inl ⟨by rw[if_neg h0,if_neg h1,if_neg h2],h0,h1,h2⟩
theorem TK {l w t:AR}{b:Bool}(h:Lib.cut l [32]=(w,t,b)):DE l=if w=DC then (CR t).map fun (n:Nat)=>((⟨0,[]⟩:BQ),(n:Int)) else if w=Gp then (Cr t).map fun f=>(⟨1,f⟩,0) else if w=Gq then (Cr t).map fun f=>(⟨2,f⟩,0) else none:=by
 unfold DE;rw[h]
end Sg
namespace Go.Proofs.YthibllkleakiiaaGreatDoor
open Go.RowKit
def Wn (v:Value):Nat:=match v with | .string s=>s.size | _=>0
theorem Vz (r:Sg.AR)(c:UInt8)(w:World)(hr:r.length<=2000000)(hG:Ge w) :
  Calls Tryz.prog 41 #[.string (ts r),.string ⟨#[c]⟩] w fun e w'=>e= .returned (.tuple #[.string (ts (Lib.cut r [c]).1),.string (ts (Lib.cut r [c]).2.1),.bool (Lib.cut r [c]).2.2])/\Aa w w':=by
 obtain⟨m,hm⟩:=hG.max;refine(Tryz.strings_Cut (ts r) ⟨#[c]⟩ m w (by rw[B9];omega) hm).mono ?_;rintro e w' ⟨rfl,n,rfl⟩;exact⟨rfl,rfl,rfl,rfl,by simp[World.drewN],fun b hb=>rfl⟩
theorem Uj (s:Sg.AR)(w:World)(b c:Nat)(h0:w.cell? ⟨b,0,none⟩=some (.string ⟨#[99,101,108,108]⟩))(h1:w.cell? ⟨b,1,none⟩=some (.string ⟨#[100,101,114,105,118,101,100]⟩))(h2:w.cell? ⟨b,2,none⟩=some (.string ⟨#[101,102,102,101,99,116]⟩)) :
  Calls Tryz.prog 42 #[.slice (some ⟨b,0,none⟩) 3 c,.string (ts s)] w fun e w'=>e= .returned (.int .i64 (Sg.KM s))/\w=w':=by
 refine(Tryz.slices_Index_string b 0 3 c Sg.LY (ts s) w (by decide) (by decide) (fun j hj=>?_)).mono ?_
 ·have hj3:j<3:=hj;have:j=0\/j=1\/j=2:=by omega
  rcases this with rfl | rfl | rfl
  ·exact h0
  ·exact h1
  ·exact h2
 rintro e w' ⟨rfl,rfl⟩;refine⟨?_,rfl⟩;have e0:Sg.LY.getD 0 ByteArray.empty=ts Sg.DC:=rfl;have e1:Sg.LY.getD 1 ByteArray.empty=ts Sg.Gp:=rfl;have e2:Sg.LY.getD 2 ByteArray.empty=ts Sg.Gq:=rfl;rcases Sg.KN s with ⟨hk,n0,n1,n2⟩ | ⟨hk,rfl⟩ | ⟨hk,rfl⟩ | ⟨hk,rfl⟩
 ·rw[hk,Lib.idxOfS_miss];intro j hj e;have hj3:j<3:=hj;have:j=0\/j=1\/j=2:=by omega
  rcases this with rfl | rfl | rfl
  ·rw[e0] at e;exact n0 (Kt.1 e).symm
  ·rw[e1] at e;exact n1 (Kt.1 e).symm
  ·rw[e2] at e;exact n2 (Kt.1 e).symm
 ·rw[hk,Lib.idxOfS_hit Sg.LY 3 0 (ts Sg.DC) (by decide) (by decide) rfl (fun j hj=>by omega)];rfl
 ·rw[hk,Lib.idxOfS_hit Sg.LY 3 1 (ts Sg.Gp) (by decide) (by decide) rfl (fun j hj e=>by
   obtain rfl:j=0:=by omega
   rw[e0] at e;exact absurd (Kt.1 e) (by decide))]
  rfl
 ·rw[hk,Lib.idxOfS_hit Sg.LY 3 2 (ts Sg.Gq) (by decide) (by decide) rfl (fun j hj e=>by
   have:j=0\/j=1:=by omega
   rcases this with rfl | rfl
   ·rw[e0] at e;exact absurd (Kt.1 e) (by decide)
   ·rw[e1] at e;exact absurd (Kt.1 e) (by decide))]
  rfl
theorem Vm (A:Option Addr)(n c:Nat)(w:World)(h:n<=c)(_hm:c<=maxLen):Calls Tryz.prog 47 #[.slice A n c] w fun e w'=>e= .returned (.slice A n n)/\w=w':=by
 unfold maxLen at _hm;go_enter Tryz.func47,Tryz.ntmps47;go_wp2;go_ret;exact⟨rfl,rfl⟩
theorem GE.clipD {w:World}{B c:Nat}{A:Option Addr}{g:Sg.Ae}{hs:List (Option Addr × Nat)}(h:GE w B A c g hs):GE w B A g.length g hs:=by
 have:=h.out.clip;simp only[length_nodeIts] at this;exact⟨h.len,by simpa using this,h.inn,h.dis,h.dio⟩
theorem I5 (B:Nat)(W:World):Ai [Th.ownN B none 0 [] [],Th.own B 3 1 none 0 0 (Ah [])] W :=
 ⟨GE.nil _ _,fun s hs b hb=>by simp[Th.ownN,FR,AD] at hb,AA.nil _ _ _ _,fun s hs=>(by cases hs),trivial⟩
theorem S_ {B c c6:Nat}{A A6:Option Addr}{g:Sg.Ae}{ks:List (Option Addr × Nat)}{l:List Int}{W:World}{r:List (Th B)}(h:Ai (Th.ownN B A c g ks :: Th.own B 3 1 A6 l.length c6 (Ah l) :: r) W) :
  Ai [Th.ownN B A g.length g ks,Th.own B 3 1 A6 l.length l.length (Ah l)] W :=
 ⟨GE.clipD h.1,fun s hs b hb=>by
  rw[List.mem_singleton] at hs;subst hs;exact h.2.1 (Th.own B 3 1 A6 l.length c6 (Ah l)) (by simp) b hb,AA.clip h.2.2.1,fun s hs=>(by cases hs),trivial⟩
set_option maxRecDepth 100000 in
set_option maxHeartbeats 8000000 in
theorem NU (s:ByteArray)(w:World)(hs:s.size<=1048576)(hG:Ge w) :
  Calls Tryz.prog 16 #[.string s] w fun e w'=>∃ (A1:Option Addr) (c1:Nat) (ks:List (Option Addr × Nat)) (A2:Option Addr) (c2:Nat),e= .returned (.tuple #[.agg #[.slice A1 (Sg.ES (Sg.C0 (tx s))).1.length c1],.slice A2 (Sg.ES (Sg.C0 (tx s))).2.1.length c2,.bool (Sg.ES (Sg.C0 (tx s))).2.2])/\Aa w w' /\
   Ai [Th.ownN w.heap.size A1 c1 (Sg.ES (Sg.C0 (tx s))).1 ks,Th.own w.heap.size 3 1 A2 (Sg.ES (Sg.C0 (tx s))).2.1.length c2 (Ah (Sg.ES (Sg.C0 (tx s))).2.1)] w':=by
 have HG:=lh hG;have S1:=Ai.add (B:=w.heap.size) (ts:=[]) (W:=w) trivial ((Aa.rfl' _).al (.cells #[.slice none 0 0] 35)) (Th.box w.heap.size w.heap.size [.slice none 0 0]) ⟨Bx.new w #[.slice none 0 0] 35,Nat.le_refl _⟩ (fun b e=>by have e2:b=w.heap.size:=e;omega);have S2:=Ai.add S1 ((Aa.rfl' _).al (.cells #[.slice none 0 0] 35)) (Th.box w.heap.size (w.heap.size+1) [.slice none 0 0]) ⟨by have:=Bx.new (World.alloc w (.cells #[.slice none 0 0] 35)) #[.slice none 0 0] 35;simpa[go_sem] using this,by omega⟩ (fun b e=>by have e2:b=w.heap.size+1:=e;simp[go_sem];omega);have S3:=Ai.add S2 (Aa.rfl' _) (Th.own w.heap.size 3 1 none 0 0 (Ah [])) (AA.nil _ _ _ _) (fun b e=>by simp[Th.own,AD] at e);have S4:=lh (Ai.add S3 (Aa.rfl' _) (Th.ownN w.heap.size none 0 [] []) (GE.nil _ _) (fun b e=>by simp[Th.ownN,FR,AD] at e));have E0:=lh (((Aa.rfl' w).al (.cells #[.slice none 0 0] 35)).al (.cells #[.slice none 0 0] 35));have HRI:Hid (Sg.Fd (tx s)=(Sg.Fd (tx s)).map fun y=>(([]:Sg.Ae)++y.1,([]:List Int)++y.2)):=lh (by simp);have hlen:=DR s;clear S1 S2 S3 hG;go_enter Tryz.func16,Tryz.ntmps16;go_wp2_with fail
 go_loopw [6,7] (fun s6 s7 wr=>∃ (r:Sg.AR) (g:Sg.Ae) (c:List Int) (A6:Option Addr) (c6:Nat) (Ag:Option Addr) (cg:Nat) (ks:List (Option Addr × Nat)),s6= .slice A6 c.length c6/\s7= .string (ts r)/\g.length+r.length<=1048576/\Hid (c.length=g.length)/\Hid (∀ n ∈ g,n.f.length<=1048576)/\Hid (Sg.Fd (tx s)=(Sg.Fd r).map fun y=>(g++y.1,c++y.2))/\Hid (Aa w wr) /\
  Hid (Ai [Th.ownN w.heap.size Ag cg g ks,Th.own w.heap.size 3 1 A6 c.length c6 (Ah c),Th.box w.heap.size (w.heap.size+1) [.slice Ag g.length cg],Th.box w.heap.size w.heap.size [.slice none 0 0]] wr)) (fun _ s7 _=>Wn s7)
 case atStart=>exact⟨tx s,[],[],none,0,none,0,[],rfl,by rw[RG],by simp;omega,lh rfl,lh (by simp),HRI,E0,S4⟩
 case round =>
  clear S4 E0 HRI;obtain⟨r,g,c,A6,c6,Ag,cg,ks,rfl,rfl,hgr,HCL,HNF,HR,E,SS⟩:=hrel;by_cases hr0:r=[]
  ·subst hr0;have HPJ:Hid (Sg.C0 (tx s)=if Sg.AG g=true/\Sg.AT g c=true/\Sg.Jg g c=tx s then some (g,c) else none):=lh (by rw[Sg.JW,HR.out,Sg.So];simp);have yg:Bx wr (w.heap.size+1) [.slice Ag g.length cg]:=(Ai.get SS.out 2 rfl:Bx _ _ _/\_).1;have YG:=lh yg;have q0:=yg.cell (j:=0) rfl;have ql:=yg.lt;have ON:=lh (show GE wr w.heap.size Ag cg g ks from Ai.get SS.out 0 rfl);have OC:=lh (show AA wr w.heap.size 3 1 A6 c.length c6 (Ah c) from Ai.get SS.out 1 rfl);have RN:=lh (ON.out.rdN (by simp at hgr;omega) HNF.out);have HVC:=lh (F4 Ag A6 cg c6 g c wr RN.out OC.out.rd);have b0:(([]:Sg.AR) == [])=true:=rfl;clear yg HR HNF;go_wp2_with fail
   refine HVC.out.mono ?_;rintro e w3 ⟨rfl,he3⟩;have E3:=lh (E.out.tr he3);have X3:=lh he3;have S3:=lh (Ai.ext SS.out he3);have q3:=he3.cellE q0;have l3:=Au q3;clear he3 q0 ql E SS;cases hv:(Sg.AG g && Sg.AT g c)
   ·have HN:=lh (show Sg.ES (Sg.C0 (tx s))=([],[],false) by
     rw[HPJ.out,if_neg (by rintro ⟨a,b,-⟩;rw[a,b] at hv;simp at hv)];rfl)
    clear hv;have y2:Bx w3 w.heap.size [.slice none 0 0]:=(Ai.get S3.out 3 rfl:Bx _ _ _/\_).1;have x2:=y2.cell (j:=0) rfl;have g2:=y2.free 0;have l2:=y2.lt;have Y2:=lh y2;clear y2;go_wp2;have s0:=(Y2.out.set 0 (.slice none 0 0)).cell (j:=0) rfl;refine bodyPost_ret (v := .tuple #[.agg #[.slice none 0 0],.slice none 0 0,.bool false]) (by simp[results,Tryz.results16,go_sem,s0];try rfl) rfl ?_;rw[HN.out];exact⟨none,0,[],none,0,rfl,E3.out.set (p:=⟨w.heap.size,0,none⟩) (Nat.le_refl _) _,I5 _ _⟩
   ·have hvv:=hv;rw[Bool.and_eq_true] at hvv;have HVV:=lh hvv;have HFG:=lh (Mu Ag A6 cg c6 g c w3 (HG.out.ext E3.out).gl (RN.out.ext X3.out) (OC.out.rd.ext X3.out));clear hvv hv;by_cases ht:tx s=Sg.Jg g c
    ·have b1:(Sg.Jg g c == s.toList)=true:=by rw[Bool.beq_comm,CZ];simp[ht]
     have HP:Hid (Sg.ES (Sg.C0 (tx s))=(g,c,true)):=lh (by rw[HPJ.out,if_pos ⟨HVV.out.1,HVV.out.2,ht.symm⟩];rfl);clear ht;go_wp2_with fail
     refine HFG.out.mono ?_;rintro e w4 ⟨rfl,he4⟩;have E4:=lh (E3.out.tr he4);have S4:=lh (Ai.ext S3.out he4);have q4:=he4.cellE q3;have l4:=Au q4;clear he4 q3 l3 E3 S3;have hcg:=ON.out.out.2.1;have hcm:=ON.out.out.2.2.1;simp only[length_nodeIts] at hcg;have hc6:=OC.out.2.1;have hm6:=OC.out.2.2.1;go_wp2_with fail
     refine(Vm Ag g.length cg _ hcg hcm).mono ?_;rintro e w5 ⟨rfl,rfl⟩;go_wp2_with fail
     refine(JG A6 c.length c6 _ hc6 hm6).mono ?_;rintro e w5 ⟨rfl,rfl⟩;have y2:Bx w4 w.heap.size [.slice none 0 0]:=(Ai.get S4.out 3 rfl:Bx _ _ _/\_).1;have x2:=y2.cell (j:=0) rfl;have g2:=y2.free 0;have l2:=y2.lt;have Y2:=lh y2;clear y2;have S5:=lh (Ai.st S4.out 3 rfl ⟨w.heap.size,0,none⟩ (.slice Ag g.length g.length) rfl (Th.box w.heap.size w.heap.size [.slice Ag g.length g.length]) ⟨Y2.out.set 0 _,Nat.le_refl _⟩ (fun _ e=>e));go_wp2;have s0:=(Y2.out.set 0 (.slice Ag g.length g.length)).cell (j:=0) rfl;refine bodyPost_ret (v := .tuple #[.agg #[.slice Ag g.length g.length],.slice A6 c.length c.length,.bool true]) (by simp[results,Tryz.results16,go_sem,s0];try rfl) rfl ?_;rw[HP.out];exact⟨Ag,_,ks,A6,_,rfl,E4.out.set (p:=⟨w.heap.size,0,none⟩) (Nat.le_refl _) _,S_ S5.out⟩
    ·have b1:(Sg.Jg g c == s.toList)=false:=by rw[Bool.beq_comm,CZ];simp[ht]
     have HN:Hid (Sg.ES (Sg.C0 (tx s))=([],[],false)):=lh (by rw[HPJ.out,if_neg (fun e=>ht e.2.2.symm)];rfl);clear ht;go_wp2_with fail
     refine HFG.out.mono ?_;rintro e w4 ⟨rfl,he4⟩;have E4:=lh (E3.out.tr he4);have S4:=lh (Ai.ext S3.out he4);clear he4 q3 l3 E3 S3;have y2:Bx w4 w.heap.size [.slice none 0 0]:=(Ai.get S4.out 3 rfl:Bx _ _ _/\_).1;have x2:=y2.cell (j:=0) rfl;have g2:=y2.free 0;have l2:=y2.lt;have Y2:=lh y2;clear y2;go_wp2;have s0:=(Y2.out.set 0 (.slice none 0 0)).cell (j:=0) rfl;refine bodyPost_ret (v := .tuple #[.agg #[.slice none 0 0],.slice none 0 0,.bool false]) (by simp[results,Tryz.results16,go_sem,s0];try rfl) rfl ?_;rw[HN.out];exact⟨none,0,[],none,0,rfl,E4.out.set (p:=⟨w.heap.size,0,none⟩) (Nat.le_refl _) _,I5 _ _⟩
  ·have b0:(r == [])=false:=by simp[hr0]
   have hrl:r.length<=2000000:=by omega
   obtain⟨l,m,en,hcut⟩:∃ l m en,Lib.cut r [10]=(l,m,en):=⟨_,_,_,rfl⟩
   have hll:l.length<=r.length:=by
    rcases Sg.Rq r with ⟨_,h⟩ | ⟨p,q,_,e,h⟩
    ·rw[hcut] at h;injection h with h1;rw[h1];exact Nat.le_refl _
    ·rw[hcut] at h;injection h with h1;rw[h1,e];simp
   obtain⟨wd,tl,fd,hcut2⟩:∃ wd tl fd,Lib.cut l [32]=(wd,tl,fd):=⟨_,_,_,rfl⟩
   have htl:tl.length<=l.length:=by
    by_cases h:(32:UInt8) ∈ l
    ·obtain⟨p,q,e,hp⟩:=Sg.Gr l h;rw[e,Sg.K_ p q hp] at hcut2;injection hcut2 with _ h2;injection h2 with h2;rw[e,<- h2];simp
     omega
    ·rw[Sg.JM l h] at hcut2;injection hcut2 with _ h2;injection h2 with h2;rw[<- h2];simp
   have HC1:=lh fun w' (e:Aa w w')=>Vz r 10 w' hrl (HG.out.ext e);have HC2:=lh fun w' (e:Aa w w')=>Vz l 32 w' (by omega) (HG.out.ext e);rw[hcut] at HC1;rw[hcut2] at HC2;have HCUT:=lh hcut;have HLI:=lh (Sg.TK hcut2);have hkc:=Sg.KN wd;have HLL:=lh hll;clear hcut hcut2 hr0 hll;have b00:(r == #[].toList)=false:=b0;go_wp2_with fail
   refine(HC1.out _ E.out).mono ?_;rintro e v1 ⟨rfl,he1⟩;have E1:=lh (E.out.tr he1);have S1:=lh (Ai.ext SS.out he1);clear he1 E SS;go_wp2_with fail
   refine(HC2.out _ E1.out).mono ?_;rintro e v2 ⟨rfl,he2⟩;have E2:=lh ((E1.out.tr he2).al (.cells #[.string ⟨#[99,101,108,108]⟩,.string ⟨#[100,101,114,105,118,101,100]⟩,.string ⟨#[101,102,102,101,99,116]⟩] 9));have S2:=lh ((Ai.ext S1.out he2).ext ((Aa.rfl' v2).al (.cells #[.string ⟨#[99,101,108,108]⟩,.string ⟨#[100,101,114,105,118,101,100]⟩,.string ⟨#[101,102,102,101,99,116]⟩] 9)));have HIX:=lh (Uj wd (World.alloc v2 (.cells #[.string ⟨#[99,101,108,108]⟩,.string ⟨#[100,101,114,105,118,101,100]⟩,.string ⟨#[101,102,102,101,99,116]⟩] 9)) v2.heap.size 3 (by simp[go_sem]) (by simp[go_sem]) (by simp[go_sem]));clear he2 E1 S1;go_wp2_with fail
   refine HIX.out.mono ?_;rintro e v3 ⟨rfl,rfl⟩;clear HIX;generalize World.alloc v2 (.cells #[.string ⟨#[99,101,108,108]⟩,.string ⟨#[100,101,114,105,118,101,100]⟩,.string ⟨#[101,102,102,101,99,116]⟩] 9)=v3 at *;rcases Sg.Rq r with ⟨hm,h⟩ | ⟨p,q,hp,hre,h⟩
   ·rw[HCUT.out] at h;injection h with h1 h2;injection h2 with h2 h3;subst h3;have HN:=lh (Sg.Ir (s:=tx s) (by rw[HR.out,Sg.Qs hm (by intro e;rw[e] at b0;simp at b0)];rfl));clear hm h1 h2 hkc;have y2:Bx v3 w.heap.size [.slice none 0 0]:=(Ai.get S2.out 3 rfl:Bx _ _ _/\_).1;have x2:=y2.cell (j:=0) rfl;have g2:=y2.free 0;have l2:=y2.lt;have Y2:=lh y2;clear y2;go_wp2;have s0:=(Y2.out.set 0 (.slice none 0 0)).cell (j:=0) rfl;refine bodyPost_ret (v := .tuple #[.agg #[.slice none 0 0],.slice none 0 0,.bool false]) (by simp[results,Tryz.results16,go_sem,s0];try rfl) rfl ?_;rw[HN.out];exact⟨none,0,[],none,0,rfl,E2.out.set (p:=⟨w.heap.size,0,none⟩) (Nat.le_refl _) _,I5 _ _⟩
   ·rw[HCUT.out] at h;injection h with h1 h2;injection h2 with h2 h3;subst h1 h2 h3;have HRE:=lh hre;have HP:=lh hp;have hgq:g.length+1+m.length<=1048576:=by rw[hre] at hgr;simp at hgr;omega
    have hlr:m.length+1<=r.length:=by rw[hre];simp
    have hlx:l.length<=1048576:=by have:=HLL.out;omega
    clear hre hp;by_cases hkn:Sg.KM wd = -1
    ·have HN:=lh (Sg.Ir (s:=tx s) (by
      rcases hkc with ⟨_,n0,n1,n2⟩ | ⟨k,_⟩ | ⟨k,_⟩ | ⟨k,_⟩
      ·rw[HR.out,HRE.out,Sg.LP HP.out (by rw[HLI.out,if_neg n0,if_neg n1,if_neg n2])];rfl
      all_goals (rw[k] at hkn;omega)))
     rw[hkn];clear hkc hkn;have y2:Bx v3 w.heap.size [.slice none 0 0]:=(Ai.get S2.out 3 rfl:Bx _ _ _/\_).1;have x2:=y2.cell (j:=0) rfl;have g2:=y2.free 0;have l2:=y2.lt;have Y2:=lh y2;clear y2;go_wp2;have s0:=(Y2.out.set 0 (.slice none 0 0)).cell (j:=0) rfl;refine bodyPost_ret (v := .tuple #[.agg #[.slice none 0 0],.slice none 0 0,.bool false]) (by simp[results,Tryz.results16,go_sem,s0];try rfl) rfl ?_;rw[HN.out];exact⟨none,0,[],none,0,rfl,E2.out.set (p:=⟨w.heap.size,0,none⟩) (Nat.le_refl _) _,I5 _ _⟩
    ·obtain⟨k,hk⟩:∃ k,k=Sg.KM wd:=⟨_,rfl⟩;rw[<- hk]
     have hkk:(k=0/\wd=Sg.DC)\/((k=1\/k=2)/\Sg.DE l=(Sg.Cr tl).map fun f=>(⟨k,f⟩,0)):=by
      rcases hkc with ⟨k1,_⟩ | ⟨k1,k2⟩ | ⟨k1,k2⟩ | ⟨k1,k2⟩
      ·exact absurd k1 hkn
      ·exact .inl ⟨hk.trans k1,k2⟩
      ·refine .inr ⟨.inl (hk.trans k1),?_⟩;rw[HLI.out,if_neg (by rw[k2];decide),if_pos k2,hk,k1]
      ·refine .inr ⟨.inr (hk.trans k1),?_⟩;rw[HLI.out,if_neg (by rw[k2];decide),if_neg (by rw[k2];decide),if_pos k2,hk,k1]
     have hk0:¬ k<0:=by rcases hkk with ⟨h,_⟩ | ⟨h | h,_⟩ <;> omega
     have HKK:=lh hkk;clear hkc hkn hkk hk;have S3:=lh (Ai.add S2.out ((Aa.rfl' v3).al (.cells #[.int .i64 k,.slice none 0 0] 70)) (Th.box w.heap.size v3.heap.size [.int .i64 k,.slice none 0 0]) ⟨Bx.new v3 _ _,E2.out.size⟩ (fun b e=>by have e2:b=v3.heap.size:=e;omega));have E3:=lh (E2.out.al (.cells #[.int .i64 k,.slice none 0 0] 70));go_upto_region 12 with fail
     have hnb:=E2.out.size;generalize World.alloc v3 (.cells #[.int .i64 k,.slice none 0 0] 70)=v4 at *;generalize v3.heap.size=nb at *;clear E2 S2;go_upto_if 47 with fail
     go_cut [15,17] (fun s15 s17 wx=>∃ (x:Int) (ok:Bool) (f:List Sg.At) (Af:Option Addr) (cf:Nat),s15= .int .i64 x/\s17= .bool ok/\Hid (f.length<=1048576)/\Hid (Sg.DE l=if ok=true then some (⟨k,f⟩,x) else none)/\Hid (Aa w wx) /\
      Hid (Ai [Th.own w.heap.size 111 5 Af f.length cf (AL f),Th.box w.heap.size nb [.int .i64 k,.slice Af f.length cf],Th.ownN w.heap.size Ag cg g ks,Th.own w.heap.size 3 1 A6 c.length c6 (Ah c),Th.box w.heap.size (w.heap.size+1) [.slice Ag g.length cg],Th.box w.heap.size w.heap.size [.slice none 0 0]] wx))
     case first =>
      rcases HKK.out with ⟨rfl,hwd⟩ | ⟨hk12,hli⟩
      ·have HDC:=lh fun w' (e:Aa w w')=>Jc (ts tl) (by rw[B9];omega) w' (HG.out.ext e);have HLD:=lh (show Sg.DE l=(Sg.CR tl).map fun (n:Nat)=>((⟨0,[]⟩:Sg.BQ),(n:Int)) by rw[HLI.out,if_pos hwd]);clear hwd HLI HKK;go_wp2_with fail
       refine(HDC.out _ E3.out).mono ?_;rintro e v5 ⟨n,ok,rfl,he5,ht,hf⟩;rw[FU] at ht hf;have E5:=lh (E3.out.tr he5);have S5:=lh (Ai.add (Ai.ext S3.out he5) (Aa.rfl' _) (Th.own w.heap.size 111 5 none 0 0 (AL [])) (AA.nil _ _ _ _) (fun b e=>by simp[Th.own,AD] at e))
       have HL5:Hid (Sg.DE l=if ok=true then some (⟨0,[]⟩,n) else none):=lh (by
        rw[HLD.out];cases ok
        ·rw[hf rfl];rfl
        ·obtain⟨k,rfl,hk⟩:=ht rfl;rw[hk];rfl)
       clear ht hf he5 S3 E3;go_wp2_with fail
       go_meet
       exact⟨n,ok,[],none,0,rfl,rfl,lh (by simp),HL5,E5,S5⟩
      ·have hkb:(k == 0)=false:=by simp;omega
       have HPF:=lh fun w' (e:Aa w w')=>L9 (ts tl) w' (by rw[B9];omega) (HG.out.ext e);rw[FU] at HPF
       have HL5:Hid (Sg.DE l=if (Sg.Eh (Sg.Cr tl)).2=true then some (⟨k,(Sg.Eh (Sg.Cr tl)).1⟩,0) else none):=lh (by
        rw[hli];cases Sg.Cr tl <;> rfl)
       have HFL:Hid ((Sg.Eh (Sg.Cr tl)).1.length<=1048576):=lh (by
        rw[Sg.Gb];cases hq:Sg.Ej tl with
        | none=>simp[Sg.Eh]
        | some f=>have:=(Sg.Cn (Sg.Ig hq).1).2;simp only[Sg.Eh];omega)
       clear hli HLI HKK hk12;go_wp2_with fail
       refine(HPF.out _ E3.out).mono ?_;rintro e v5 ⟨Af,cf,rfl,he5,ho5⟩;generalize (Sg.Eh (Sg.Cr tl)).1=f at *;generalize (Sg.Eh (Sg.Cr tl)).2=ok at *;have E5:=lh (E3.out.tr he5);have S5:=lh (Ai.add S3.out he5 (Th.own w.heap.size 111 5 Af f.length cf (AL f)) (ho5.mono E3.out.size) (fun b hb=>(ho5.lt hb).1));clear ho5 he5 S3 E3;have y7:Bx v5 nb [.int .i64 k,.slice none 0 0]:=(Ai.get S5.out 1 rfl:Bx _ _ _/\_).1;have z1:=y7.cell (j:=1) rfl;have f1:=y7.free 1;have zl:=y7.lt;have Y7:=lh y7;clear y7;have S6:=lh (Ai.st S5.out 1 rfl ⟨nb,1,none⟩ (.slice Af f.length cf) rfl (Th.box w.heap.size nb [.int .i64 k,.slice Af f.length cf]) ⟨Y7.out.set 1 _,hnb⟩ (fun _ e=>e));have E6:=lh (E5.out.set (p:=⟨nb,1,none⟩) hnb (.slice Af f.length cf));go_wp2_with fail
       go_meet
       exact⟨0,ok,f,Af,cf,rfl,rfl,HFL,HL5,E6,S6⟩
     case rest =>
      clear S3 E3 HLI HKK;obtain⟨x,ok,f,Af,cf,rfl,rfl,HFL,HL5,E5,S5⟩:=hcut;obtain⟨v5,rfl⟩:∃ W:World,W=wc:=⟨_,rfl⟩;cases ok
      ·have HN:=lh (Sg.Ir (s:=tx s) (by rw[HR.out,HRE.out,Sg.LP HP.out (by rw[HL5.out];rfl)];rfl));clear HL5;have y2:Bx v5 w.heap.size [.slice none 0 0]:=(Ai.get S5.out 5 rfl:Bx _ _ _/\_).1;have x2:=y2.cell (j:=0) rfl;have g2:=y2.free 0;have l2:=y2.lt;have Y2:=lh y2;clear y2;go_wp2;have s0:=(Y2.out.set 0 (.slice none 0 0)).cell (j:=0) rfl;refine bodyPost_ret (v := .tuple #[.agg #[.slice none 0 0],.slice none 0 0,.bool false]) (by simp[results,Tryz.results16,go_sem,s0];try rfl) rfl ?_;rw[HN.out];exact⟨none,0,[],none,0,rfl,E5.out.set (p:=⟨w.heap.size,0,none⟩) (Nat.le_refl _) _,I5 _ _⟩
      ·have HST:=lh (Sg.Sp (r:=m) HP.out HL5.out (by rw[<- HRE.out];exact HR.out));have yn:Bx v5 nb [.int .i64 k,.slice Af f.length cf]:=(Ai.get S5.out 1 rfl:Bx _ _ _/\_).1;have n0:=yn.cell (j:=0) rfl;have n1:=yn.cell (j:=1) rfl;have nl:=yn.lt;have yg:Bx v5 (w.heap.size+1) [.slice Ag g.length cg]:=(Ai.get S5.out 4 rfl:Bx _ _ _/\_).1;have q0:=yg.cell (j:=0) rfl;have ql:=yg.lt;have ON:GE v5 w.heap.size Ag cg g ks:=Ai.get S5.out 2 rfl;have hON:=ON.out;simp only[length_nodeIts] at hON;have HON:=lh hON;have eW:=lh E5.out.size;clear yn yg ON hON HL5;go_upto_region 19 with (at_builtin;refine AF (cs:=[.int .i64 k,.slice Af f.length cf]) rfl rfl TO rfl HON.out rfl rfl (by intro u hu;simp at hu;rcases hu with rfl | rfl <;> rfl) (by omega) (by omega) eW.out ?_;intro A8 c8 v6 hown8 hg8 hat8;have S6:=lh (Ai.node k S5.out 1 rfl hown8 hg8 hat8);have E6:=lh (E5.out.gr hg8 fun x hx=>(HON.out.lt hx).1);clear hown8 hg8 hat8 S5 E5 HON n0 n1 nl q0 ql;have y6:Bx v6 (w.heap.size+1) [.slice Ag g.length cg]:=(Ai.get S6.out 3 rfl:Bx _ _ _/\_).1;have r6:=y6.cell (j:=0) rfl;have f6:=y6.free 0;have l6:=y6.lt;have Y6:=lh y6;clear y6)
       have S8:=lh (Ai.tail (Ai.st S6.out 3 rfl ⟨w.heap.size+1,0,none⟩ (.slice A8 (g.length+1) c8) rfl (Th.box w.heap.size (w.heap.size+1) [.slice A8 (g.length+1) c8]) ⟨Y6.out.set 0 _,by omega⟩ (fun _ e=>e)));have E8:=lh (E6.out.set (p:=⟨w.heap.size+1,0,none⟩) (by simp) (.slice A8 (g.length+1) c8));clear S6 E6 Y6 r6 f6 l6;generalize World.setCell v6 ⟨w.heap.size+1,0,none⟩ (.slice A8 (g.length+1) c8)=v8 at *;have OC:=lh (show AA v8 w.heap.size 3 1 A6 c.length c6 (Ah c) from Ai.get S8.out 1 rfl);have eV:=lh E8.out.size;have eC:=lh (show c.length+1<=1099511627776 by have:=HCL.out;omega);go_wp2_with (at_builtin;refine AF (cs:=[.int .i64 x]) rfl rfl Bc rfl OC.out rfl rfl (B_ .i64 _) eC.out (by omega) eV.out ?_;intro A9 c9 v9 hown9 hg9 hat9;have S9:=lh (Ai.app S8.out 1 rfl hown9 hg9 hat9);have E9:=lh (E8.out.gr hg9 fun x hx=>(OC.out.lt hx).1);clear hown9 hg9 hat9 S8 E8 OC)
       have el:c.length+1=(c++[x]).length:=by simp
       have eg:g.length+1=(g++[(⟨k,f⟩:Sg.BQ)]).length:=by simp
       have eo:Ah c++[Value.int .i64 x]=Ah (c++[x]):=by simp[Ah]
       rw[eo,el,eg] at S9;go_roundw
       case rel=>exact⟨m,g++[(⟨k,f⟩:Sg.BQ)],c++[x],A9,c9,A8,c8,ks++[(Af,cf)],by rw[<- el],rfl,by rw[<- eg];exact hgq,lh (by rw[<- el,<- eg,HCL.out]),lh (fun n hn=>by
        rcases List.mem_append.1 hn with hn | hn
        ·exact HNF.out n hn
        ·simp at hn;subst hn;exact HFL.out),HST,E9,S9⟩
       case measure=>show m.length<r.length;omega
end Go.Proofs.YthibllkleakiiaaGreatDoor
