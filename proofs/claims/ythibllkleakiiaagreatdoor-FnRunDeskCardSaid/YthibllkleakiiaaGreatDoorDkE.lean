/- The reference's RunDesk, in memory: contract. Conditions: bounds on sizes. -/
import Derived.Test.YthibllkleakiiaaGreatDoorDkD
import Derived.Test.YthibllkleakiiaaGreatDoorTxR
namespace Sg
theorem Mp:∀ a b:List AO,CR (a++b)=CR a++CR b
 | [],b=>rfl
 | x :: a,b=>by
  rw[List.cons_append,CR,CR,Mp a b];simp
theorem Ld {ls:List AO}{j:Nat}{l:AO}(h:ls[j]? = some l):CR (ls.take (j+1))=CR (ls.take j)++[119,114,111,110,103,10]:=by
 rw[List.take_add_one,h,Mp];rfl
theorem NX {g:Ae}(h:AG g=true):∀ n ∈ g,n.f.length<=1048576:=by
 intro n hn;obtain⟨i,hi⟩:=List.getElem?_of_mem hn;by_cases hk:n.kind=0
 ·have hgn:=Dh h i (List.getElem?_eq_some_iff.1 hi).1;unfold Ck at hgn;have hd:g.getD i default=n:=by simp[hi]
  rw[hd] at hgn;dsimp only at hgn;rw[if_pos hk] at hgn;simp at hgn
  simp[hgn]
 ·have:=(Bo h i hi hk).len;omega
theorem Mo {g:Ae}{ls:List AO}{j:Nat}{l:AO}(h:ls[j]? = some l)(y:(BZ × BC) × AO):Dx g (ls.take (j+1)) y=((CZ (BJ g) g (Dx g (ls.take j) y).1 l).1,(Dx g (ls.take j) y).2++((CZ (BJ g) g (Dx g (ls.take j) y).1 l).2++[10])):=by
 rw[List.take_add_one,h];exact Mq g _ l y
end Sg
namespace Go.Proofs.YthibllkleakiiaaGreatDoor
open Go.RowKit
theorem Oo (a:World)(A Av Ar Zv Az Zq:Option Addr)(c cv cr kv kr kq:Nat)(g:Sg.Ae)(st:Sg.BZ × Sg.BC)(l:Sg.AO)(hs hz:List (Option Addr × Nat))(rs:List (Th a.heap.size))(w:World)(ha:Eg a A g)(hE:Aa a w)(hD:Sg.DV g st)(hsz:l.length<=1048576)(hS:Ai (Pu a.heap.size Av cv Ar cr Zv kv Az kr Zq kq g.length hs hz st++rs) w) :
  Calls Tryz.prog 15 #[.agg #[.slice A g.length c],.agg #[.slice Av g.length cv,.slice Ar g.length cr],.agg #[.slice Zv g.length kv,.slice Az g.length kr,.slice Zq g.length kq],.string (ts l)] w fun e w'=>∃ Zv' kv' Az' kr' Zq' kq' hs' hz',e= .returned (.tuple #[.agg #[.slice Av g.length cv,.slice Ar g.length cr],.agg #[.slice Zv' g.length kv',.slice Az' g.length kr',.slice Zq' g.length kq'],.string (ts (Sg.CZ (Sg.BJ g) g st l).2)])/\Aa a w' /\
   Ai (Pu a.heap.size Av cv Ar cr Zv' kv' Az' kr' Zq' kq' g.length hs' hz' (Sg.CZ (Sg.BJ g) g st l).1++rs) w':=by
 have z:=Vl a A Av Ar Zv Az Zq c cv cr kv kr kq g st (ts l) hs hz rs w ha hE hD (by rw[BB];exact hsz) hS;rw[Fm] at z;exact z
theorem Ai.perm5 {B:Nat}{W:World}{b11 b10 v r b5:Th B}{N:List (Th B)}(h:Ai (b11 :: (N++[b10,v,r,b5])) W):Ai ([b10,b11,b5]++((v :: r :: N)++[])) W:=by
 have p1:(b11 :: (N++[b10,v,r,b5])).Perm ([b11,b10,v,r,b5]++N):=List.perm_append_comm.cons _;have p2:[b11,b10,v,r,b5].Perm [b10,b11,b5,v,r]:=(List.Perm.swap _ _ _).trans (((List.perm_append_comm (l₁:=[v,r]) (l₂:=[b5])).cons _).cons _);have h2:=Ai.perm (Ai.perm h p1) (p2.append_right N);simpa using h2
theorem zf0{p:Prop}(h:p:=by
 refine DL 7 rfl fun K hK=>?_;go_simp;refine(Oo w2 A1 Av Ar Zv Az Zq c1 cv cr kv kr kq g stt l hs' hz ([Th.box w2.heap.size b10 [.slice Av g.length cv,.slice Ar g.length cr],Th.box w2.heap.size b11 [.slice Zv g.length kv,.slice Az g.length kr,.slice Zq g.length kq],Th.box w2.heap.size w2.heap.size [.slice A1 g.length c1]]++[]) _ HGN.out EE.out HDV.out hle (Ai.mid [Th.box w2.heap.size b10 [.slice Av g.length cv,.slice Ar g.length cr],Th.box w2.heap.size b11 [.slice Zv g.length kv,.slice Az g.length kr,.slice Zq g.length kq],Th.box w2.heap.size w2.heap.size [.slice A1 g.length c1]] (Pu w2.heap.size Av cv Ar cr Zv kv Az kr Zq kq g.length hs' hz stt) [] SS.out)).mono ?_;rintro e v9 ⟨Zv',kv',Az',kr',Zq',kq',hs9,hz9,rfl,hE9,hS9⟩;have SS:=lh (Ai.mid (Pu w2.heap.size Av cv Ar cr Zv' kv' Az' kr' Zq' kq' g.length hs9 hz9 (Sg.CZ (Sg.BJ g) g stt l).1) [Th.box w2.heap.size b10 [.slice Av g.length cv,.slice Ar g.length cr],Th.box w2.heap.size b11 [.slice Zv g.length kv,.slice Az g.length kr,.slice Zq g.length kq],Th.box w2.heap.size w2.heap.size [.slice A1 g.length c1]] [] hS9);have EE:=lh hE9;clear hE9 hS9 q0 q1 r0 r1 r2 qb rb hcw hcb;try go_wp2_with fail
 clear hHeld;refine hK.out _ _ (by exact⟨(Gd SS.out 2 rfl).1,(HW.out.tr EE.out).cellE HC9.out⟩) fun hHeld=>?_;clear hK K;try simp only[Act.put,pu]
 refine ty 8 ?_;refine ty 9 ?_;refine ty 10 ?_;refine ty 11 ?_;refine DL 12 rfl fun K hK=>?_;obtain⟨q0,q1,f0,f1,l9⟩:=Bd SS.out 0 rfl;go_simp;have SS:=lh (LM SS.out 0 rfl (.slice Av g.length cv) (.slice Ar g.length cr));have EE:=lh (LN EE.out LB10 (.slice Av g.length cv) (.slice Ar g.length cr));clear q0 q1 f0 f1 l9;try simp only[pg]
 clear hHeld;refine hK.out _ _ (by exact⟨(Gd SS.out 2 rfl).1,(HW.out.tr EE.out).cellE HC9.out⟩) fun hHeld=>?_;clear hK K;try simp only[Act.put]
 refine DL 13 rfl fun K hK=>?_;obtain⟨q0,q1,q2,f0,f1,f2,l9⟩:=BI SS.out 1 rfl;go_simp;have SS:=lh (JQ SS.out 1 rfl (.slice Zv' g.length kv') (.slice Az' g.length kr') (.slice Zq' g.length kq'));have EE:=lh (JR EE.out LB11 (.slice Zv' g.length kv') (.slice Az' g.length kr') (.slice Zq' g.length kq'));clear q0 q1 q2 f0 f1 f2 l9;try simp only[pg]
 clear hHeld;refine hK.out _ _ (by exact⟨(Gd SS.out 2 rfl).1,(HW.out.tr EE.out).cellE HC9.out⟩) fun hHeld=>?_;clear hK K;try simp only[Act.put]
 refine ty 14 ?_;refine dn ?_;have w1:=HOL.out;have w2a:=HAL.out;have s1:=CT (a:=out) (b:=(Sg.CZ (Sg.BJ g) g stt l).2) (by omega);have z1:(ts out).size=out.length:=BB _;have z2:(ts (Sg.CZ (Sg.BJ g) g stt l).2).size=(Sg.CZ (Sg.BJ g) g stt l).2.length:=BB _;have s2:¬ 9223372036854775807<(ts out).size+(ts (Sg.CZ (Sg.BJ g) g stt l).2).size+1:=by omega
 have s3:¬ 9223372036854775807<(ts out++ts (Sg.CZ (Sg.BJ g) g stt l).2).size+1:=by rw[ByteArray.size_append];exact s2
 have s4:¬ 9223372036854775807<out.length+(Sg.CZ (Sg.BJ g) g stt l).2.length+1:=by omega
 clear z1 z2 w1 w2a;go_wp2_with fail
 go_roundw
 case rel=>exact⟨j+1,Zv',kv',Az',kr',Zq',kq',hs9,hz9,by omega,by rw[H1.out,<- BY,<- BY,ByteArray.append_assoc];try rfl,by go_num,EE,by rw[H1.out];exact SS⟩
 case measure=>simp[intOf];omega):p:=h
set_option maxRecDepth 100000 in
set_option maxHeartbeats 8000000 in
theorem Ol (s:ByteArray)(A:Option Addr)(c:Nat)(ls:List Sg.AO)(w:World)(hs:s.size<=1048576)(hll:∀ l ∈ ls,l.length<=1048576)(h:Rd w 1 A ls.length (Bh (ls.map ts))) :
  Calls Tryz.prog 6 #[.string s,.slice A ls.length c] w fun e w'=>e= .returned (.string (ts (Sg.FD (tx s) ls)))/\Aa w w':=by
 have HP:=lh fun w'=>Wu s w' hs;have HR:=lh h;have HLL:=lh hll;have HF0:=lh (show 20<ls.length->Sg.FD (tx s) ls=[] from fun hb=>by unfold Sg.FD;rw[if_pos hb]);have HF1:=lh (show ¬ 20<ls.length->Sg.Do (tx s)=none->Sg.FD (tx s) ls=Sg.CR ls from fun hb hp=>by unfold Sg.FD;rw[if_neg hb,hp]);have HF2:=lh (show ∀ g cc,¬ 20<ls.length->Sg.Do (tx s)=some (g,cc)->Sg.FD (tx s) ls=(Sg.Dx g ls ((Sg.BQ g cc,Sg.Cs g cc),[])).2 from fun g cc hb hp=>by unfold Sg.FD;rw[if_neg hb,hp,Sg.JG];rfl);clear h hll;generalize Sg.FD (tx s) ls=R at *;by_cases hb:20<ls.length
 ·have hbi:(20:Int)<(ls.length:Int):=by omega
  have HF:=lh (HF0.out hb);clear HF0 HF1 HF2;go_enter Tryz.func6,Tryz.ntmps6;go_wp2;go_ret;exact⟨by rw[HF.out];try rfl,Aa.rfl' _⟩
 have hbi:¬ (20:Int)<(ls.length:Int):=by omega
 go_enter Tryz.func6,Tryz.ntmps6;go_wp2_with fail
 refine(HP.out _).mono ?_;rintro e w2 ⟨g,cc,ok,A1,c1,ks,A2,c2,rfl,hp,he2,hS2⟩;have HW:=lh he2;cases ok with
 | false =>
  have HF:=lh (HF1.out hb (by simpa using hp));clear HF0 HF1 HF2 hp hS2 he2;go_wp2_with fail
  go_loopw [8,9] (fun s8 s9 wr=>∃ j:Nat,j<=ls.length/\s8= .string (ts (Sg.CR (ls.take j)))/\s9= .int .i64 j/\Hid (Aa w2 wr)) (fun _ s9 _=>ls.length - (intOf s9).toNat)
  case atStart=>exact⟨0,Nat.zero_le _,rfl,rfl,lh ((Aa.rfl' w2).al _)⟩
  case round =>
   obtain⟨j,hj,rfl,rfl,E⟩:=hrel;by_cases hlt:j<ls.length
   ·have hji:(j:Int)<(ls.length:Int):=by omega
    have HT:=lh (Sg.Ld (gg hlt));have s1:=CT (a:=Sg.CR (ls.take j)) (b:=[119,114,111,110,103,10]) (by rw[Sg.IS,List.length_take];simp;omega);generalize Sg.CR (ls.take j)=y at *;go_wp2_with fail
    go_roundw
    case rel=>exact⟨j+1,by omega,by rw[HT.out,<- BY];try rfl,by go_num,E⟩
    case measure=>simp[intOf];omega
   ·obtain rfl:j=ls.length:=by omega
    go_wp2;go_ret;exact⟨by rw[HF.out,List.take_length];try rfl,HW.out.tr E.out⟩
 | true =>
  have hp2:Sg.Do (tx s)=some (g,cc):=by simpa using hp
  obtain⟨hG,hC,-⟩:=Sg.Jb hp2;have HF:=lh (HF2.out g cc hb hp2);clear HF0 HF1 HF2 hp hp2 he2;have h10:=Sg.FE hG;have hcl:=Sg.FP hC;have HGN:=lh (show Eg w2 A1 g from (show Gj w2 _ A1 c1 g ks from Ai.get hS2 0 rfl).rdN (by omega) (Sg.NX hG));have HCC:=lh (show Rd w2 1 A2 cc.length (Ah cc) from (show Au w2 _ 3 1 A2 cc.length c2 (Ah cc) from Ai.get hS2 1 rfl).rd);have HD0:=lh (Sg.DV.start hG hC);clear hS2;have S1:=Ai.add (B:=w2.heap.size) (ts:=[]) (W:=w2) trivial (xr.al (.cells #[.slice A1 g.length c1] 35)) (Th.box w2.heap.size w2.heap.size [.slice A1 g.length c1]) ⟨Bx.new w2 #[.slice A1 g.length c1] 35,Nat.le_refl _⟩ (fun b e=>by have e2:b=w2.heap.size:=e;omega);have SS:=lh S1;have EE:=lh ((Aa.rfl' w2).al (.cells #[.slice A1 g.length c1] 35));have LB5:w2.heap.size<=w2.heap.size:=Nat.le_refl _;clear S1;rw[hcl];have kg:=(Gd SS.out 0 rfl).1;have kgb:=AA kg;go_wp2_with fail
  have z1:=OT A1 A2 c1 c2 g cc _ (HGN.out.ext EE.out) (HCC.out.ext EE.out) hG hC;rw[hcl] at z1;refine z1.mono ?_;rintro e w3 ⟨Av,cv,Ar,cr,hs',rfl,hv3,hr3,hd3,he3⟩;have LB10:w2.heap.size<=w3.heap.size:=Nat.le_trans EE.out.size he3.size;have SS:=lh (Ai.addT SS.out he3 (Th.own w2.heap.size 3 1 Av g.length cv (Ah (Sg.BQ g cc).vals)) (Th.ownL w2.heap.size Ar cr (Sg.BQ g cc).reads hs') (hv3.mono EE.out.size) (Bj.mono hr3 EE.out.size) (fun b hb=>(hv3.lt hb).1) (fun b hb=>(Bj.lt hr3 hb).1) hd3);have EE:=lh (EE.out.tr he3);clear hv3 hr3 hd3 he3 kg kgb z1;have SS:=lh (Ai.add SS.out (xr.al (.cells #[.slice Av g.length cv,.slice Ar g.length cr] 41)) (Th.box w2.heap.size w3.heap.size [.slice Av g.length cv,.slice Ar g.length cr]) ⟨Bx.new w3 #[.slice Av g.length cv,.slice Ar g.length cr] 41,LB10⟩ (fun b e=>by have e2:b=w3.heap.size:=e;omega));have EE:=lh (EE.out.al (.cells #[.slice Av g.length cv,.slice Ar g.length cr] 41));have kg:=(Gd SS.out 3 rfl).1;have kgb:=AA kg;go_wp2_with fail
  have z2:=QA A1 A2 c1 c2 g cc _ (HGN.out.ext EE.out) (HCC.out.ext EE.out) (by omega);rw[hcl] at z2;refine z2.mono ?_;rintro e w4 ⟨Zv,kv,Az,kr,Zq,kq,hz,rfl,hz4,he4⟩;have LB11:w2.heap.size<=w4.heap.size:=Nat.le_trans EE.out.size he4.size;obtain⟨-,l1,-,l3,-⟩:=Sg.AN (Sg.Kh hG hC);have SS:=lh (Ai.addL SS.out he4 EE.out.size (Ai.ofZ hz4 l1 l3));have EE:=lh (EE.out.tr he4);clear hz4 he4 kg kgb z2;have SS:=lh (Ai.add SS.out (xr.al (.cells #[.slice Zv g.length kv,.slice Az g.length kr,.slice Zq g.length kq] 44)) (Th.box w2.heap.size w4.heap.size [.slice Zv g.length kv,.slice Az g.length kr,.slice Zq g.length kq]) ⟨Bx.new w4 #[.slice Zv g.length kv,.slice Az g.length kr,.slice Zq g.length kq] 44,LB11⟩ (fun b e=>by have e2:b=w4.heap.size:=e;omega));have EE:=lh (EE.out.al (.cells #[.slice Zv g.length kv,.slice Az g.length kr,.slice Zq g.length kq] 44));have SS:=lh (Ai.perm5 SS.out);have HDJ:=lh fun j=>Sg.Kl (ls.take j) ((Sg.BQ g cc,Sg.Cs g cc),[]) HD0.out;have HSU:=lh fun (j:Nat) (l:Sg.AO) (hl:ls[j]? = some l)=>Sg.Mo (g:=g) hl ((Sg.BQ g cc,Sg.Cs g cc),[]);go_wp2_with fail
  generalize World.alloc w4 _=w5 at *;generalize w3.heap.size=b10 at *;generalize w4.heap.size=b11 at *;have SS:=lh (show Ai ([Th.box w2.heap.size b10 [.slice Av g.length cv,.slice Ar g.length cr],Th.box w2.heap.size b11 [.slice Zv g.length kv,.slice Az g.length kr,.slice Zq g.length kq],Th.box w2.heap.size w2.heap.size [.slice A1 g.length c1]]++(Pu w2.heap.size Av cv Ar cr Zv kv Az kr Zq kq g.length hs' hz (Sg.BQ g cc,Sg.Cs g cc)++[])) _ from SS.out);clear HP HCC HD0
  go_loopw [8,12] (fun s8 s12 wr=>∃ (j:Nat) (Zv:Option Addr) (kv:Nat) (Az:Option Addr) (kr:Nat) (Zq:Option Addr) (kq:Nat) (hs' hz:List (Option Addr × Nat)),j<=ls.length/\s8= .string (ts (Sg.Dx g (ls.take j) ((Sg.BQ g cc,Sg.Cs g cc),[])).2)/\s12= .int .i64 j/\Hid (Aa w2 wr) /\
   Hid (Ai ([Th.box w2.heap.size b10 [.slice Av g.length cv,.slice Ar g.length cr],Th.box w2.heap.size b11 [.slice Zv g.length kv,.slice Az g.length kr,.slice Zq g.length kq],Th.box w2.heap.size w2.heap.size [.slice A1 g.length c1]]++(Pu w2.heap.size Av cv Ar cr Zv kv Az kr Zq kq g.length hs' hz (Sg.Dx g (ls.take j) ((Sg.BQ g cc,Sg.Cs g cc),[])).1++[])) wr)) (fun _ s12 _=>ls.length - (intOf s12).toNat)
  case atStart=>exact⟨0,Zv,kv,Az,kr,Zq,kq,hs',hz,Nat.zero_le _,rfl,rfl,EE,SS⟩
  case round =>
   clear SS EE;obtain⟨j,Zv,kv,Az,kr,Zq,kq,hs',hz,hj,rfl,rfl,EE,SS⟩:=hrel;by_cases hlt:j<ls.length
   ·have hji:(j:Int)<(ls.length:Int):=by omega
    have hl:=gg hlt;obtain⟨l,hl0⟩:∃ l,l=ls[j]:=⟨_,rfl⟩;rw[<- hl0] at hl;have hle:=HLL.out l (List.mem_of_getElem? hl);obtain⟨bl,ol,x,rfl,hx,hcell⟩:=HR.out.atT hlt;rw[List.getElem?_map,hl] at hx;injection hx with hx;subst hx;have H1:=lh (HSU.out j l hl);have hdj:=HDJ.out j;rw[List.length_take] at hdj;clear hl hl0;have HJ:=hdj;generalize Sg.Dx g (ls.take j) ((Sg.BQ g cc,Sg.Cs g cc),[])=y at *;obtain⟨stt,out⟩:=y;dsimp only at *;have HDV:=lh hdj.1;have hol:out.length<=900:=by have:=hdj.2;simp only[List.length_nil] at this;omega
    have hal:=(Sg.RA hdj.1 l).2;have s1:=CT (a:=out) (b:=(Sg.CZ (Sg.BJ g) g stt l).2) (by omega);have s2:=CT (a:=out++(Sg.CZ (Sg.BJ g) g stt l).2) (b:=[10]) (by rw[List.length_append];simp;omega);rw[<- BY] at s2;have HOL:=lh hol;have HAL:=lh hal;clear hdj HJ hal s2;have HC9:=lh hcell;have hcw:=(HW.out.tr EE.out).cellE hcell;have hcb:=AA hcw;have q0:=(Bd SS.out 0 rfl).1;have q1:=(Bd SS.out 0 rfl).2.1;have r0:=(BI SS.out 1 rfl).1;have r1:=(BI SS.out 1 rfl).2.1;have r2:=(BI SS.out 1 rfl).2.2.1;have qb:=AA q0;have rb:=AA r0;go_wp2_with fail
    have SS:=lh (Ai.ext SS.out xd);have EE:=lh (EE.out.tr xd);refine wp_region_held_drew (S:=(fun W=>W.cell? ⟨w2.heap.size,0,none⟩=some (.slice A1 g.length c1)/\W.cell? ⟨bl,ol+j,none⟩=some (.string (ts l)))) (by kernel_rfl) ?_ (fun hHeld=>?_)
    ·exact⟨(Gd SS.out 2 rfl).1,(HW.out.tr EE.out).cellE HC9.out⟩
    refine ty 0 ?_;refine ty 3 ?_;refine ty 4 ?_;refine ty 5 ?_;refine ty 6 ?_;refine wpAnyH_ready (rs:=[1,2]) (by kernel_rfl) (by simp) ?_;refine AllReadyH.cons rfl (fun K hK=>?_) ?_
    ·go_simp;clear hHeld;refine hK.out _ _ (by exact⟨(Gd SS.out 2 rfl).1,(HW.out.tr EE.out).cellE HC9.out⟩) fun hHeld=>?_;clear hK K;try simp only[Act.put,pu]
     refine DL 2 rfl fun K hK=>?_;go_simp;clear hHeld;refine hK.out _ _ (by exact⟨(Gd SS.out 2 rfl).1,(HW.out.tr EE.out).cellE HC9.out⟩) fun hHeld=>?_;clear hK K;try simp only[Act.put,pu]
     exact zf0
    refine AllReadyH.cons rfl (fun K hK=>?_) ?_
    ·go_simp;clear hHeld;refine hK.out _ _ (by exact⟨(Gd SS.out 2 rfl).1,(HW.out.tr EE.out).cellE HC9.out⟩) fun hHeld=>?_;clear hK K;try simp only[Act.put,pu]
     refine DL 1 rfl fun K hK=>?_;go_simp;clear hHeld;refine hK.out _ _ (by exact⟨(Gd SS.out 2 rfl).1,(HW.out.tr EE.out).cellE HC9.out⟩) fun hHeld=>?_;clear hK K;try simp only[Act.put,pu]
     exact zf0
    exact AllReadyH.nil
   ·obtain rfl:j=ls.length:=by omega
    go_wp2;go_ret;exact⟨by rw[HF.out,List.take_length];try rfl,HW.out.tr EE.out⟩
end Go.Proofs.YthibllkleakiiaaGreatDoor
