/- The reference's RunDesk, in memory: contract. Conditions: bounds on sizes. -/
import Derived.Test.YthibllkleakiiaaGreatDoorDkD
import Derived.Test.YthibllkleakiiaaGreatDoorTxR
namespace Sg
theorem LK:∀ a b:List AR,Dl (a++b)=Dl a++Dl b
 | [],b=>rfl
 | x :: a,b=>by
  rw[List.cons_append,Dl,Dl,LK a b];simp
theorem KC {ls:List AR}{j:Nat}{l:AR}(h:ls[j]? = some l):Dl (ls.take (j+1))=Dl (ls.take j)++[119,114,111,110,103,10]:=by
 rw[List.take_add_one,h,LK];rfl
theorem MN {g:Ae}(h:AG g=true):∀ n ∈ g,n.f.length<=1048576:=by
 intro n hn;obtain⟨i,hi⟩:=List.getElem?_of_mem hn;by_cases hk:n.kind=0
 ·have hgn:=C7 h i (List.getElem?_eq_some_iff.1 hi).1;unfold Ce at hgn;have hd:g.getD i default=n:=by simp[hi]
  rw[hd] at hgn;dsimp only at hgn;rw[if_pos hk] at hgn;simp at hgn
  simp[hgn]
 ·have:=(Bj h i hi hk).len;omega
theorem LJ {g:Ae}{ls:List AR}{j:Nat}{l:AR}(h:ls[j]? = some l)(y:(BT × Bv) × AR):Dm g (ls.take (j+1)) y=((C4 (BC g) g (Dm g (ls.take j) y).1 l).1,(Dm g (ls.take j) y).2++((C4 (BC g) g (Dm g (ls.take j) y).1 l).2++[10])):=by
 rw[List.take_add_one,h];exact LL g _ l y
end Sg
namespace Go.Proofs.YthibllkleakiiaaGreatDoor
open Go.RowKit
theorem Ni (a:World)(A Av Ar Zv Az Zq:Option Addr)(c cv cr kv kr kq:Nat)(g:Sg.Ae)(st:Sg.BT × Sg.Bv)(l:Sg.AR)(hs hz:List (Option Addr × Nat))(rs:List (Th a.heap.size))(w:World)(ha:Eg a A g)(hE:Aa a w)(hD:Sg.DV g st)(hsz:l.length<=1048576)(hS:Ai (N5 a.heap.size Av cv Ar cr Zv kv Az kr Zq kq g.length hs hz st++rs) w) :
  Calls Tryz.prog 15 #[.agg #[.slice A g.length c],.agg #[.slice Av g.length cv,.slice Ar g.length cr],.agg #[.slice Zv g.length kv,.slice Az g.length kr,.slice Zq g.length kq],.string (ts l)] w fun e w'=>∃ Zv' kv' Az' kr' Zq' kq' hs' hz',e= .returned (.tuple #[.agg #[.slice Av g.length cv,.slice Ar g.length cr],.agg #[.slice Zv' g.length kv',.slice Az' g.length kr',.slice Zq' g.length kq'],.string (ts (Sg.C4 (Sg.BC g) g st l).2)])/\Aa a w' /\
   Ai (N5 a.heap.size Av cv Ar cr Zv' kv' Az' kr' Zq' kq' g.length hs' hz' (Sg.C4 (Sg.BC g) g st l).1++rs) w':=by
 have z:=TZ a A Av Ar Zv Az Zq c cv cr kv kr kq g st (ts l) hs hz rs w ha hE hD (by rw[B9];exact hsz) hS;rw[FU] at z;exact z
theorem Ai.perm5 {B:Nat}{W:World}{b11 b10 v r b5:Th B}{N:List (Th B)}(h:Ai (b11 :: (N++[b10,v,r,b5])) W):Ai ([b10,b11,b5]++((v :: r :: N)++[])) W:=by
 have p1:(b11 :: (N++[b10,v,r,b5])).Perm ([b11,b10,v,r,b5]++N):=List.perm_append_comm.cons _;have p2:[b11,b10,v,r,b5].Perm [b10,b11,b5,v,r]:=(List.Perm.swap _ _ _).trans (((List.perm_append_comm (l₁:=[v,r]) (l₂:=[b5])).cons _).cons _);have h2:=Ai.perm (Ai.perm h p1) (p2.append_right N);simpa using h2
set_option maxRecDepth 100000 in
set_option maxHeartbeats 8000000 in
theorem SR (s:ByteArray)(A:Option Addr)(c:Nat)(ls:List Sg.AR)(w:World)(hs:s.size<=1048576)(hll:∀ l ∈ ls,l.length<=1048576)(h:Rd w 1 A ls.length (BE (ls.map ts))) :
  Calls Tryz.prog 6 #[.string s,.slice A ls.length c] w fun e w'=>e= .returned (.string (ts (Sg.IN (tx s) ls)))/\Aa w w':=by
 have HP:=lh fun w'=>U7 s w' hs;have HR:=lh h;have HLL:=lh hll;have HF0:=lh (show 20<ls.length->Sg.IN (tx s) ls=[] from fun hb=>by unfold Sg.IN;rw[if_pos hb]);have HF1:=lh (show ¬ 20<ls.length->Sg.DA (tx s)=none->Sg.IN (tx s) ls=Sg.Dl ls from fun hb hp=>by unfold Sg.IN;rw[if_neg hb,hp]);have HF2:=lh (show ∀ g cc,¬ 20<ls.length->Sg.DA (tx s)=some (g,cc)->Sg.IN (tx s) ls=(Sg.Dm g ls ((Sg.BJ g cc,Sg.Co g cc),[])).2 from fun g cc hb hp=>by unfold Sg.IN;rw[if_neg hb,hp,Sg.Kn];rfl);clear h hll;generalize Sg.IN (tx s) ls=R at *;by_cases hb:20<ls.length
 ·have hbi:(20:Int)<(ls.length:Int):=by omega
  have HF:=lh (HF0.out hb);clear HF0 HF1 HF2;go_enter Tryz.func6,Tryz.ntmps6;go_wp2;go_ret;exact⟨by rw[HF.out];try rfl,Aa.rfl' _⟩
 have hbi:¬ (20:Int)<(ls.length:Int):=by omega
 go_enter Tryz.func6,Tryz.ntmps6;go_wp2_with fail
 refine(HP.out _).mono ?_;rintro e w2 ⟨g,cc,ok,A1,c1,ks,A2,c2,rfl,hp,he2,hS2⟩;have HW:=lh he2;cases ok with
 | false =>
  have HF:=lh (HF1.out hb (by simpa using hp));clear HF0 HF1 HF2 hp hS2 he2;go_wp2_with fail
  go_loopw [8,9] (fun s8 s9 wr=>∃ j:Nat,j<=ls.length/\s8= .string (ts (Sg.Dl (ls.take j)))/\s9= .int .i64 j/\Hid (Aa w2 wr)) (fun _ s9 _=>ls.length - (intOf s9).toNat)
  case atStart=>exact⟨0,Nat.zero_le _,rfl,rfl,lh ((Aa.rfl' w2).al _)⟩
  case round =>
   obtain⟨j,hj,rfl,rfl,E⟩:=hrel;by_cases hlt:j<ls.length
   ·have hji:(j:Int)<(ls.length:Int):=by omega
    have HT:=lh (Sg.KC (List.getElem?_eq_getElem hlt));have s1:=Fp (a:=Sg.Dl (ls.take j)) (b:=[119,114,111,110,103,10]) (by rw[Sg.Jy,List.length_take];simp;omega);generalize Sg.Dl (ls.take j)=y at *;go_wp2_with fail
    go_roundw
    case rel=>exact⟨j+1,by omega,by rw[HT.out,<- D7];try rfl,by go_num,E⟩
    case measure=>simp[intOf];omega
   ·obtain rfl:j=ls.length:=by omega
    go_wp2;go_ret;exact⟨by rw[HF.out,List.take_length];try rfl,HW.out.tr E.out⟩
 | true =>
  have hp2:Sg.DA (tx s)=some (g,cc):=by simpa using hp
  obtain⟨hG,hC,-⟩:=Sg.Kv hp2;have HF:=lh (HF2.out g cc hb hp2);clear HF0 HF1 HF2 hp hp2 he2;have h10:=Sg.Io hG;have hcl:=Sg.Fu hC;have HGN:=lh (show Eg w2 A1 g from (show GE w2 _ A1 c1 g ks from Ai.get hS2 0 rfl).rdN (by omega) (Sg.MN hG));have HCC:=lh (show Rd w2 1 A2 cc.length (Ah cc) from (show AA w2 _ 3 1 A2 cc.length c2 (Ah cc) from Ai.get hS2 1 rfl).rd);have HD0:=lh (Sg.DV.start hG hC);clear hS2;have S1:=Ai.add (B:=w2.heap.size) (ts:=[]) (W:=w2) trivial ((Aa.rfl' _).al (.cells #[.slice A1 g.length c1] 35)) (Th.box w2.heap.size w2.heap.size [.slice A1 g.length c1]) ⟨Bx.new w2 #[.slice A1 g.length c1] 35,Nat.le_refl _⟩ (fun b e=>by have e2:b=w2.heap.size:=e;omega);have SS:=lh S1;have EE:=lh ((Aa.rfl' w2).al (.cells #[.slice A1 g.length c1] 35));have LB5:w2.heap.size<=w2.heap.size:=Nat.le_refl _;clear S1;rw[hcl];have kg:=(FK SS.out 0 rfl).1;have kgb:=Au kg;go_wp2_with fail
  have z1:=NG A1 A2 c1 c2 g cc _ (HGN.out.ext EE.out) (HCC.out.ext EE.out) hG hC;rw[hcl] at z1;refine z1.mono ?_;rintro e w3 ⟨Av,cv,Ar,cr,hs',rfl,hv3,hr3,hd3,he3⟩;have LB10:w2.heap.size<=w3.heap.size:=Nat.le_trans EE.out.size he3.size;have SS:=lh (Ai.addT SS.out he3 (Th.own w2.heap.size 3 1 Av g.length cv (Ah (Sg.BJ g cc).vals)) (Th.ownL w2.heap.size Ar cr (Sg.BJ g cc).reads hs') (hv3.mono EE.out.size) (Bn.mono hr3 EE.out.size) (fun b hb=>(hv3.lt hb).1) (fun b hb=>(Bn.lt hr3 hb).1) hd3);have EE:=lh (EE.out.tr he3);clear hv3 hr3 hd3 he3 kg kgb z1;have SS:=lh (Ai.add SS.out ((Aa.rfl' _).al (.cells #[.slice Av g.length cv,.slice Ar g.length cr] 41)) (Th.box w2.heap.size w3.heap.size [.slice Av g.length cv,.slice Ar g.length cr]) ⟨Bx.new w3 #[.slice Av g.length cv,.slice Ar g.length cr] 41,LB10⟩ (fun b e=>by have e2:b=w3.heap.size:=e;omega));have EE:=lh (EE.out.al (.cells #[.slice Av g.length cv,.slice Ar g.length cr] 41));have kg:=(FK SS.out 3 rfl).1;have kgb:=Au kg;go_wp2_with fail
  have z2:=Ps A1 A2 c1 c2 g cc _ (HGN.out.ext EE.out) (HCC.out.ext EE.out) (by omega);rw[hcl] at z2;refine z2.mono ?_;rintro e w4 ⟨Zv,kv,Az,kr,Zq,kq,hz,rfl,hz4,he4⟩;have LB11:w2.heap.size<=w4.heap.size:=Nat.le_trans EE.out.size he4.size;obtain⟨-,l1,-,l3,-⟩:=Sg.AP (Sg.JP hG hC);have SS:=lh (Ai.addL SS.out he4 EE.out.size (Ai.ofZ hz4 l1 l3));have EE:=lh (EE.out.tr he4);clear hz4 he4 kg kgb z2;have SS:=lh (Ai.add SS.out ((Aa.rfl' _).al (.cells #[.slice Zv g.length kv,.slice Az g.length kr,.slice Zq g.length kq] 44)) (Th.box w2.heap.size w4.heap.size [.slice Zv g.length kv,.slice Az g.length kr,.slice Zq g.length kq]) ⟨Bx.new w4 #[.slice Zv g.length kv,.slice Az g.length kr,.slice Zq g.length kq] 44,LB11⟩ (fun b e=>by have e2:b=w4.heap.size:=e;omega));have EE:=lh (EE.out.al (.cells #[.slice Zv g.length kv,.slice Az g.length kr,.slice Zq g.length kq] 44));have SS:=lh (Ai.perm5 SS.out);have HDJ:=lh fun j=>Sg.LI (ls.take j) ((Sg.BJ g cc,Sg.Co g cc),[]) HD0.out;have HSU:=lh fun (j:Nat) (l:Sg.AR) (hl:ls[j]? = some l)=>Sg.LJ (g:=g) hl ((Sg.BJ g cc,Sg.Co g cc),[]);go_wp2_with fail
  generalize World.alloc w4 _=w5 at *;generalize w3.heap.size=b10 at *;generalize w4.heap.size=b11 at *;have SS:=lh (show Ai ([Th.box w2.heap.size b10 [.slice Av g.length cv,.slice Ar g.length cr],Th.box w2.heap.size b11 [.slice Zv g.length kv,.slice Az g.length kr,.slice Zq g.length kq],Th.box w2.heap.size w2.heap.size [.slice A1 g.length c1]]++(N5 w2.heap.size Av cv Ar cr Zv kv Az kr Zq kq g.length hs' hz (Sg.BJ g cc,Sg.Co g cc)++[])) _ from SS.out);clear HP HCC HD0
  go_loopw [8,12] (fun s8 s12 wr=>∃ (j:Nat) (Zv:Option Addr) (kv:Nat) (Az:Option Addr) (kr:Nat) (Zq:Option Addr) (kq:Nat) (hs' hz:List (Option Addr × Nat)),j<=ls.length/\s8= .string (ts (Sg.Dm g (ls.take j) ((Sg.BJ g cc,Sg.Co g cc),[])).2)/\s12= .int .i64 j/\Hid (Aa w2 wr) /\
   Hid (Ai ([Th.box w2.heap.size b10 [.slice Av g.length cv,.slice Ar g.length cr],Th.box w2.heap.size b11 [.slice Zv g.length kv,.slice Az g.length kr,.slice Zq g.length kq],Th.box w2.heap.size w2.heap.size [.slice A1 g.length c1]]++(N5 w2.heap.size Av cv Ar cr Zv kv Az kr Zq kq g.length hs' hz (Sg.Dm g (ls.take j) ((Sg.BJ g cc,Sg.Co g cc),[])).1++[])) wr)) (fun _ s12 _=>ls.length - (intOf s12).toNat)
  case atStart=>exact⟨0,Zv,kv,Az,kr,Zq,kq,hs',hz,Nat.zero_le _,rfl,rfl,EE,SS⟩
  case round =>
   clear SS EE;obtain⟨j,Zv,kv,Az,kr,Zq,kq,hs',hz,hj,rfl,rfl,EE,SS⟩:=hrel;by_cases hlt:j<ls.length
   ·have hji:(j:Int)<(ls.length:Int):=by omega
    have hl:=List.getElem?_eq_getElem hlt;obtain⟨l,hl0⟩:∃ l,l=ls[j]:=⟨_,rfl⟩;rw[<- hl0] at hl;have hle:=HLL.out l (List.mem_of_getElem? hl);obtain⟨bl,ol,x,rfl,hx,hcell⟩:=HR.out.atT hlt;rw[List.getElem?_map,hl] at hx;injection hx with hx;subst hx;have H1:=lh (HSU.out j l hl);have hdj:=HDJ.out j;rw[List.length_take] at hdj;clear hl hl0;have HJ:=hdj;generalize Sg.Dm g (ls.take j) ((Sg.BJ g cc,Sg.Co g cc),[])=y at *;obtain⟨stt,out⟩:=y;dsimp only at *;have HDV:=lh hdj.1;have hol:out.length<=900:=by have:=hdj.2;simp only[List.length_nil] at this;omega
    have hal:=(Sg.Qj hdj.1 l).2;have s1:=Fp (a:=out) (b:=(Sg.C4 (Sg.BC g) g stt l).2) (by omega);have s2:=Fp (a:=out++(Sg.C4 (Sg.BC g) g stt l).2) (b:=[10]) (by rw[List.length_append];simp;omega);rw[<- D7] at s2;have HOL:=lh hol;have HAL:=lh hal;clear hdj HJ hal s2;have HC9:=lh hcell;have hcw:=(HW.out.tr EE.out).cellE hcell;have hcb:=Au hcw;have q0:=(Be SS.out 0 rfl).1;have q1:=(Be SS.out 0 rfl).2.1;have r0:=(BA SS.out 1 rfl).1;have r1:=(BA SS.out 1 rfl).2.1;have r2:=(BA SS.out 1 rfl).2.2.1;have qb:=Au q0;have rb:=Au r0;go_wp2_with fail
    have SS:=lh (Ai.ext SS.out ((Aa.rfl' _).dr));have EE:=lh (EE.out.tr ((Aa.rfl' _).dr));refine wp_region_held_drew (S:=(fun W=>W.cell? ⟨w2.heap.size,0,none⟩=some (.slice A1 g.length c1)/\W.cell? ⟨bl,ol+j,none⟩=some (.string (ts l)))) (by kernel_rfl) ?_ (fun hHeld=>?_)
    ·exact⟨(FK SS.out 2 rfl).1,(HW.out.tr EE.out).cellE HC9.out⟩
    refine ty 0 ?_;refine ty 3 ?_;refine ty 4 ?_;refine ty 5 ?_;refine ty 6 ?_;refine wpAnyH_ready (rs:=[1,2]) (by kernel_rfl) (by simp) ?_;refine AllReadyH.cons rfl (fun K hK=>?_) ?_
    ·go_simp;clear hHeld;refine hK.out _ _ (by exact⟨(FK SS.out 2 rfl).1,(HW.out.tr EE.out).cellE HC9.out⟩) fun hHeld=>?_;clear hK K;try simp only[Act.put,pu]
     refine Cu 2 rfl fun K hK=>?_;go_simp;clear hHeld;refine hK.out _ _ (by exact⟨(FK SS.out 2 rfl).1,(HW.out.tr EE.out).cellE HC9.out⟩) fun hHeld=>?_;clear hK K;try simp only[Act.put,pu]
     refine Cu 7 rfl fun K hK=>?_;go_simp;refine(Ni w2 A1 Av Ar Zv Az Zq c1 cv cr kv kr kq g stt l hs' hz ([Th.box w2.heap.size b10 [.slice Av g.length cv,.slice Ar g.length cr],Th.box w2.heap.size b11 [.slice Zv g.length kv,.slice Az g.length kr,.slice Zq g.length kq],Th.box w2.heap.size w2.heap.size [.slice A1 g.length c1]]++[]) _ HGN.out EE.out HDV.out hle (Ai.mid [Th.box w2.heap.size b10 [.slice Av g.length cv,.slice Ar g.length cr],Th.box w2.heap.size b11 [.slice Zv g.length kv,.slice Az g.length kr,.slice Zq g.length kq],Th.box w2.heap.size w2.heap.size [.slice A1 g.length c1]] (N5 w2.heap.size Av cv Ar cr Zv kv Az kr Zq kq g.length hs' hz stt) [] SS.out)).mono ?_;rintro e v9 ⟨Zv',kv',Az',kr',Zq',kq',hs9,hz9,rfl,hE9,hS9⟩;have SS:=lh (Ai.mid (N5 w2.heap.size Av cv Ar cr Zv' kv' Az' kr' Zq' kq' g.length hs9 hz9 (Sg.C4 (Sg.BC g) g stt l).1) [Th.box w2.heap.size b10 [.slice Av g.length cv,.slice Ar g.length cr],Th.box w2.heap.size b11 [.slice Zv g.length kv,.slice Az g.length kr,.slice Zq g.length kq],Th.box w2.heap.size w2.heap.size [.slice A1 g.length c1]] [] hS9);have EE:=lh hE9;clear hE9 hS9 q0 q1 r0 r1 r2 qb rb hcw hcb;try go_wp2_with fail
     clear hHeld;refine hK.out _ _ (by exact⟨(FK SS.out 2 rfl).1,(HW.out.tr EE.out).cellE HC9.out⟩) fun hHeld=>?_;clear hK K;try simp only[Act.put,pu]
     refine ty 8 ?_;refine ty 9 ?_;refine ty 10 ?_;refine ty 11 ?_;refine Cu 12 rfl fun K hK=>?_;obtain⟨q0,q1,f0,f1,l9⟩:=Be SS.out 0 rfl;go_simp;have SS:=lh (K8 SS.out 0 rfl (.slice Av g.length cv) (.slice Ar g.length cr));have EE:=lh (K9 EE.out LB10 (.slice Av g.length cv) (.slice Ar g.length cr));clear q0 q1 f0 f1 l9;try simp only[pg]
     clear hHeld;refine hK.out _ _ (by exact⟨(FK SS.out 2 rfl).1,(HW.out.tr EE.out).cellE HC9.out⟩) fun hHeld=>?_;clear hK K;try simp only[Act.put]
     refine Cu 13 rfl fun K hK=>?_;obtain⟨q0,q1,q2,f0,f1,f2,l9⟩:=BA SS.out 1 rfl;go_simp;have SS:=lh (Jl SS.out 1 rfl (.slice Zv' g.length kv') (.slice Az' g.length kr') (.slice Zq' g.length kq'));have EE:=lh (Jm EE.out LB11 (.slice Zv' g.length kv') (.slice Az' g.length kr') (.slice Zq' g.length kq'));clear q0 q1 q2 f0 f1 f2 l9;try simp only[pg]
     clear hHeld;refine hK.out _ _ (by exact⟨(FK SS.out 2 rfl).1,(HW.out.tr EE.out).cellE HC9.out⟩) fun hHeld=>?_;clear hK K;try simp only[Act.put]
     refine ty 14 ?_;refine dn ?_;have w1:=HOL.out;have w2a:=HAL.out;have s1:=Fp (a:=out) (b:=(Sg.C4 (Sg.BC g) g stt l).2) (by omega);have z1:(ts out).size=out.length:=B9 _;have z2:(ts (Sg.C4 (Sg.BC g) g stt l).2).size=(Sg.C4 (Sg.BC g) g stt l).2.length:=B9 _;have s2:¬ 9223372036854775807<(ts out).size+(ts (Sg.C4 (Sg.BC g) g stt l).2).size+1:=by omega
     have s3:¬ 9223372036854775807<(ts out++ts (Sg.C4 (Sg.BC g) g stt l).2).size+1:=by rw[ByteArray.size_append];exact s2
     have s4:¬ 9223372036854775807<out.length+(Sg.C4 (Sg.BC g) g stt l).2.length+1:=by omega
     clear z1 z2 w1 w2a;go_wp2_with fail
     go_roundw
     case rel=>exact⟨j+1,Zv',kv',Az',kr',Zq',kq',hs9,hz9,by omega,by rw[H1.out,<- D7,<- D7,ByteArray.append_assoc];try rfl,by go_num,EE,by rw[H1.out];exact SS⟩
     case measure=>simp[intOf];omega
    refine AllReadyH.cons rfl (fun K hK=>?_) ?_
    ·go_simp;clear hHeld;refine hK.out _ _ (by exact⟨(FK SS.out 2 rfl).1,(HW.out.tr EE.out).cellE HC9.out⟩) fun hHeld=>?_;clear hK K;try simp only[Act.put,pu]
     refine Cu 1 rfl fun K hK=>?_;go_simp;clear hHeld;refine hK.out _ _ (by exact⟨(FK SS.out 2 rfl).1,(HW.out.tr EE.out).cellE HC9.out⟩) fun hHeld=>?_;clear hK K;try simp only[Act.put,pu]
     refine Cu 7 rfl fun K hK=>?_;go_simp;refine(Ni w2 A1 Av Ar Zv Az Zq c1 cv cr kv kr kq g stt l hs' hz ([Th.box w2.heap.size b10 [.slice Av g.length cv,.slice Ar g.length cr],Th.box w2.heap.size b11 [.slice Zv g.length kv,.slice Az g.length kr,.slice Zq g.length kq],Th.box w2.heap.size w2.heap.size [.slice A1 g.length c1]]++[]) _ HGN.out EE.out HDV.out hle (Ai.mid [Th.box w2.heap.size b10 [.slice Av g.length cv,.slice Ar g.length cr],Th.box w2.heap.size b11 [.slice Zv g.length kv,.slice Az g.length kr,.slice Zq g.length kq],Th.box w2.heap.size w2.heap.size [.slice A1 g.length c1]] (N5 w2.heap.size Av cv Ar cr Zv kv Az kr Zq kq g.length hs' hz stt) [] SS.out)).mono ?_;rintro e v9 ⟨Zv',kv',Az',kr',Zq',kq',hs9,hz9,rfl,hE9,hS9⟩;have SS:=lh (Ai.mid (N5 w2.heap.size Av cv Ar cr Zv' kv' Az' kr' Zq' kq' g.length hs9 hz9 (Sg.C4 (Sg.BC g) g stt l).1) [Th.box w2.heap.size b10 [.slice Av g.length cv,.slice Ar g.length cr],Th.box w2.heap.size b11 [.slice Zv g.length kv,.slice Az g.length kr,.slice Zq g.length kq],Th.box w2.heap.size w2.heap.size [.slice A1 g.length c1]] [] hS9);have EE:=lh hE9;clear hE9 hS9 q0 q1 r0 r1 r2 qb rb hcw hcb;try go_wp2_with fail
     clear hHeld;refine hK.out _ _ (by exact⟨(FK SS.out 2 rfl).1,(HW.out.tr EE.out).cellE HC9.out⟩) fun hHeld=>?_;clear hK K;try simp only[Act.put,pu]
     refine ty 8 ?_;refine ty 9 ?_;refine ty 10 ?_;refine ty 11 ?_;refine Cu 12 rfl fun K hK=>?_;obtain⟨q0,q1,f0,f1,l9⟩:=Be SS.out 0 rfl;go_simp;have SS:=lh (K8 SS.out 0 rfl (.slice Av g.length cv) (.slice Ar g.length cr));have EE:=lh (K9 EE.out LB10 (.slice Av g.length cv) (.slice Ar g.length cr));clear q0 q1 f0 f1 l9;try simp only[pg]
     clear hHeld;refine hK.out _ _ (by exact⟨(FK SS.out 2 rfl).1,(HW.out.tr EE.out).cellE HC9.out⟩) fun hHeld=>?_;clear hK K;try simp only[Act.put]
     refine Cu 13 rfl fun K hK=>?_;obtain⟨q0,q1,q2,f0,f1,f2,l9⟩:=BA SS.out 1 rfl;go_simp;have SS:=lh (Jl SS.out 1 rfl (.slice Zv' g.length kv') (.slice Az' g.length kr') (.slice Zq' g.length kq'));have EE:=lh (Jm EE.out LB11 (.slice Zv' g.length kv') (.slice Az' g.length kr') (.slice Zq' g.length kq'));clear q0 q1 q2 f0 f1 f2 l9;try simp only[pg]
     clear hHeld;refine hK.out _ _ (by exact⟨(FK SS.out 2 rfl).1,(HW.out.tr EE.out).cellE HC9.out⟩) fun hHeld=>?_;clear hK K;try simp only[Act.put]
     refine ty 14 ?_;refine dn ?_;have w1:=HOL.out;have w2a:=HAL.out;have s1:=Fp (a:=out) (b:=(Sg.C4 (Sg.BC g) g stt l).2) (by omega);have z1:(ts out).size=out.length:=B9 _;have z2:(ts (Sg.C4 (Sg.BC g) g stt l).2).size=(Sg.C4 (Sg.BC g) g stt l).2.length:=B9 _;have s2:¬ 9223372036854775807<(ts out).size+(ts (Sg.C4 (Sg.BC g) g stt l).2).size+1:=by omega
     have s3:¬ 9223372036854775807<(ts out++ts (Sg.C4 (Sg.BC g) g stt l).2).size+1:=by rw[ByteArray.size_append];exact s2
     have s4:¬ 9223372036854775807<out.length+(Sg.C4 (Sg.BC g) g stt l).2.length+1:=by omega
     clear z1 z2 w1 w2a;go_wp2_with fail
     go_roundw
     case rel=>exact⟨j+1,Zv',kv',Az',kr',Zq',kq',hs9,hz9,by omega,by rw[H1.out,<- D7,<- D7,ByteArray.append_assoc];try rfl,by go_num,EE,by rw[H1.out];exact SS⟩
     case measure=>simp[intOf];omega
    exact AllReadyH.nil
   ·obtain rfl:j=ls.length:=by omega
    go_wp2;go_ret;exact⟨by rw[HF.out,List.take_length];try rfl,HW.out.tr EE.out⟩
end Go.Proofs.YthibllkleakiiaaGreatDoor
