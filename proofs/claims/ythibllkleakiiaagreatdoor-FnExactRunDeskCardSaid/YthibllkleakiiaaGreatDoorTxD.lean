/- Parts of one proof, joined. The reference's reading of a word, in memory: its contract. Conditions: texts of at most 2^20 bytes. -/
import Derived.Test.YthibllkleakiiaaGreatDoorSpecTO
import Derived.Test.YthibllkleakiiaaGreatDoorTxB
namespace Go.Proofs.YthibllkleakiiaaGreatDoor
open Go.RowKit
theorem Xp (A:Option Addr)(n c:Nat)(w:World):(Instr.field 68 (.agg #[.slice A n c]) 0).run Tryz.prog w= .ok (.slice A n c) w:=by kernel_rfl
theorem Fp {a b:Sg.AR}(h:a.length+b.length<=2000):¬ ((ts a).size+(ts b).size > 9223372036854775807):=by rw[B9,B9];omega
end Go.Proofs.YthibllkleakiiaaGreatDoor
namespace Sg
theorem RT {l:AR}{c:UInt8}{f j:Nat}(hf:f<=j)(hn:c ∉ (l.drop f).take (j - f))(hj:l[j]? = some c):AB c (l.drop f)=(l.drop f).take (j - f) :: AB c (l.drop (j+1)):=by
 have e:l.drop f=(l.drop f).take (j - f)++c :: l.drop (j+1):=by
  have h1:l.drop j=c :: l.drop (j+1):=by
   obtain⟨hl,he⟩:=List.getElem?_eq_some_iff.1 hj;rw[List.drop_eq_getElem_cons hl,he]
  have h2:(l.drop f).drop (j - f)=l.drop j:=by rw[List.drop_drop];congr 1;omega
  rw[<- h1,<- h2,List.take_append_drop]
 conv=>lhs;rw[e]
 exact Ei _ _ hn
theorem PM {l:AR}{c b:UInt8}{f j:Nat}(hf:f<=j)(hn:c ∉ (l.drop f).take (j - f))(hj:l[j]? = some b)(hb:b≠c):c ∉ (l.drop f).take (j+1 - f):=by
 have e:(l.drop f).take (j+1 - f)=(l.drop f).take (j - f)++[b]:=by
  rw[show j+1 - f=(j - f)+1 by omega,List.take_add_one,List.getElem?_drop,show f+(j - f)=j by omega,hj];rfl
 rw[e,List.mem_append,List.mem_singleton];exact fun h=>h.elim hn (fun e=>hb e.symm)
theorem RU {l:AR}{c:UInt8}{f:Nat}(hn:c ∉ (l.drop f).take (l.length - f)):AB c (l.drop f)=[l.drop f]:=by
 rw[List.take_of_length_le (by simp)] at hn;exact DJ _ hn
end Sg
namespace Go.Proofs.YthibllkleakiiaaGreatDoor
open Go.RowKit
set_option maxRecDepth 100000 in
set_option maxHeartbeats 2000000 in
theorem Kr (s:ByteArray)(c:UInt8)(w:World)(hs:s.size<=2000000) :
  Calls Tryz.prog 26 #[.string s,.int .u8 (c.toNat:Int)] w fun e w'=>∃ A n,e= .returned (.slice A (Sg.AB c (tx s)).length n)/\Aa w w' /\
   AA w' w.heap.size 9 1 A (Sg.AB c (tx s)).length n (BE ((Sg.AB c (tx s)).map ts)):=by
 go_enter Tryz.func26,Tryz.ntmps26
 have hon:AA (w.alloc (.cells #[] 9)) w.heap.size 9 1 (some ⟨w.heap.size,0,none⟩) 0 0 (BE (([]:List Sg.AR).map ts)):=by
  have:=AA.new w (B:=w.heap.size) 9 1 #[] 0 (Nat.le_refl _) (by decide) rfl;show AA _ _ _ _ _ 0 0 [];simpa using this
 have HON:=lh hon;have E0:=lh ((Aa.rfl' w).al (.cells #[] 9));clear hon;go_wp2_with fail
 go_loopw [5,6,7] (fun s5 s6 s7 wr=>∃ (j f:Nat) (O:List Sg.AR) (A:Option Addr) (n:Nat),j<=s.size/\f<=j/\s5= .slice A O.length n/\s6= .int .i64 f/\s7= .int .i64 j/\O.length<=f/\Hid (Sg.AB c (tx s)=O++Sg.AB c ((tx s).drop f))/\Hid (c ∉ ((tx s).drop f).take (j - f))/\Hid (Aa w wr)/\Hid (AA wr w.heap.size 9 1 A O.length n (BE (O.map ts)))) (fun _ _ s7 _=>s.size - (intOf s7).toNat)
 case atStart=>exact⟨0,0,[],_,_,Nat.zero_le _,Nat.le_refl _,rfl,rfl,rfl,Nat.le_refl _,lh (by simp),lh (by simp),E0,HON⟩
 case round =>
  clear HON E0;obtain⟨j,f,O,A,n,hj,hf,rfl,rfl,rfl,hOf,HS,HN,E,HO⟩:=hrel;by_cases hlt:j<s.size
  ·have hb:(tx s)[j]? = some (s[j]'hlt):=by rw[<- Rv];exact getElem?_pos s j hlt
   have hjx:(j:Int)<(s.size:Int):=by omega
   have hfx:(f:Int)<=(j:Int):=by omega
   have hsz:=E.out.size;by_cases hbc:s[j]'hlt=c
   ·have bq:(((s[j]'hlt).toNat:Int) == (c.toNat:Int))=true:=by rw[hbc];simp
    have HH:=lh (Sg.RT hf HN.out (hb.trans (congrArg some hbc)));have HX:=lh (show s.extract f j=ts (((tx s).drop f).take (j - f)) from L1 (QN s f j));clear hb hbc;go_wp2_with (at_builtin;refine AF (cs:=[.string (s.extract f j)]) rfl rfl L2 rfl HO.out rfl rfl (Jd _) (by omega) (by omega) (by omega) ?_;intro A2 c2 w9 hown2 hg2 hat2)
    go_roundw
    case rel=>exact⟨j+1,j+1,O++[((tx s).drop f).take (j - f)],A2,c2,by omega,Nat.le_refl _,by simp,by go_num,by go_num,by simp;omega,lh (by rw[HS.out,HH.out];simp),lh (by simp),lh (E.out.gr hg2 fun x hx=>(HO.out.lt hx).1),lh (by rw[List.length_append,List.map_append,List.map_cons,List.map_nil,<- Gj,<- HX.out];exact hown2)⟩
    case measure=>simp[intOf];omega
   ·have bq:(((s[j]'hlt).toNat:Int) == (c.toNat:Int))=false:=by
     rw[beq_eq_false_iff_ne];intro e;exact hbc (UInt8.toNat_inj.1 (by omega))
    have HH:=lh (Sg.PM hf HN.out hb hbc);clear hb hbc;go_wp2;go_roundw
    case rel=>exact⟨j+1,f,O,A,n,by omega,by omega,rfl,rfl,by go_num,hOf,HS,HH,E,HO⟩
    case measure=>simp[intOf];omega
  ·obtain rfl:j=s.size:=by omega
   have hfx:(f:Int)<=(s.size:Int):=by omega
   have hsz:=E.out.size;have HE:Hid (Sg.AB c (tx s)=O++[(tx s).drop f]):=lh (by rw[HS.out,Sg.RU (by rw[<- DR];exact HN.out)]);have HX:=lh (show s.extract f s.size=ts ((tx s).drop f) from L1 (by rw[QN];exact List.take_of_length_le (by rw[List.length_drop,<- DR];omega)));go_wp2_with (at_builtin;refine AF (cs:=[.string (s.extract f s.size)]) rfl rfl L2 rfl HO.out rfl rfl (Jd _) (by omega) (by omega) (by omega) ?_;intro A2 c2 w9 hown2 hg2 hat2)
   go_ret;refine⟨A2,c2,by rw[HE.out,List.length_append];rfl,E.out.gr hg2 fun x hx=>(HO.out.lt hx).1,?_⟩;rw[HE.out,List.length_append,List.map_append,List.map_cons,List.map_nil,<- Gj,<- HX.out];exact hown2
theorem CZ (a:ByteArray)(l:Sg.AR):(a.toList == l)=decide (tx a=l):=by
 rw[WX,Bool.eq_iff_iff,beq_iff_eq,decide_eq_true_eq]
set_option maxRecDepth 100000 in
set_option maxHeartbeats 2000000 in
theorem DS (s:ByteArray)(w:World)(hs:s.size<=2000000) :
  Calls Tryz.prog 27 #[.string s] w fun e w'=>e= .returned (.int .i64 (Sg.AW (tx s)))/\w=w':=by
 go_enter Tryz.func27,Tryz.ntmps27;go_wp2_with fail
 go_loopw [3,4] (fun s3 s4 wr=>∃ (j n:Nat),j<=s.size/\n<=999/\s3= .int .i64 n/\s4= .int .i64 j/\Hid (Sg.Jt 0 (tx s)=Sg.Jt n ((tx s).drop j))/\wr=w) (fun _ s4 _=>s.size - (intOf s4).toNat)
 case atStart=>exact⟨0,0,Nat.zero_le _,by omega,rfl,rfl,lh rfl,rfl⟩
 case round =>
  obtain⟨j,n,hj,hn,rfl,rfl,HR,rfl⟩:=hrel;by_cases hlt:j<s.size
  ·have hb:(tx s)[j]? = some (s[j]'hlt):=by rw[<- Rv];exact getElem?_pos s j hlt
   have hjx:(j:Int)<(s.size:Int):=by omega
   have HD:=lh (show (tx s).drop j=(s[j]'hlt) :: (tx s).drop (j+1) by
    obtain⟨hl,he⟩:=List.getElem?_eq_some_iff.1 hb;rw[List.drop_eq_getElem_cons hl,he])
   clear hb;by_cases hc:(s[j]'hlt).toNat<48\/(s[j]'hlt).toNat > 57\/n > 99
   ·have HF:Hid (Sg.AW (tx s) = -1):=lh (by unfold Sg.AW;rw[HR.out,HD.out,Sg.Jt,if_pos hc]);by_cases h1:(s[j]'hlt).toNat<48
    ·have h1x:((s[j]'hlt).toNat:Int)<48:=by omega
     clear hc;go_wp2;go_ret;exact⟨by rw[HF.out];rfl,rfl⟩
    ·have h1x:¬ ((s[j]'hlt).toNat:Int)<48:=by omega
     by_cases h2:(s[j]'hlt).toNat > 57
     ·have h2x:((s[j]'hlt).toNat:Int) > 57:=by omega
      clear hc;go_wp2;go_ret;exact⟨by rw[HF.out];rfl,rfl⟩
     ·have h2x:¬ ((s[j]'hlt).toNat:Int) > 57:=by omega
      have h3x:(n:Int) > 99:=by omega
      clear hc;go_wp2;go_ret;exact⟨by rw[HF.out];rfl,rfl⟩
   ·have h1x:¬ ((s[j]'hlt).toNat:Int)<48:=by omega
    have h2x:¬ ((s[j]'hlt).toNat:Int) > 57:=by omega
    have h3x:¬ (n:Int) > 99:=by omega
    have HN:Hid (Sg.Jt 0 (tx s)=Sg.Jt (10 * n+((s[j]'hlt).toNat - 48)) ((tx s).drop (j+1))):=lh (by rw[HR.out,HD.out,Sg.Jt,if_neg hc]);have i1:IntKind.u8.wrap (((s[j]'hlt).toNat:Int) - 48)=((s[j]'hlt).toNat:Int) - 48:=IntWalk.u8_in _ (by omega);have i2:IntKind.i64.wrap (((s[j]'hlt).toNat:Int) - 48)=((s[j]'hlt).toNat:Int) - 48:=IntWalk.i64_in _ (by omega);have i3:IntKind.i64.wrap (10 * (n:Int))=10 * (n:Int):=IntWalk.i64_in _ (by omega);have i4:IntKind.i64.wrap (10 * (n:Int)+(((s[j]'hlt).toNat:Int) - 48))=10 * (n:Int)+(((s[j]'hlt).toNat:Int) - 48):=IntWalk.i64_in _ (by omega);clear hc;go_wp2;go_roundw
    case rel=>exact⟨j+1,10 * n+((s[j]'hlt).toNat - 48),by omega,by omega,by simp only[Value.int.injEq,true_and];omega,by go_num,HN,trivial⟩
    case measure=>simp[intOf];omega
  ·obtain rfl:j=s.size:=by omega
   have HN:Hid (Sg.Jt 0 (tx s)=some n):=lh (by rw[HR.out,List.drop_eq_nil_of_le (by rw[<- DR];exact Nat.le_refl _)];rfl);by_cases h0:tx s=[]
   ·have b0:(s.toList == [])=true:=by rw[CZ];simp[h0]
    have HF:Hid (Sg.AW (tx s) = -1):=lh (by unfold Sg.AW;rw[HN.out];simp[h0]);clear h0;go_wp2;go_ret;exact⟨by rw[HF.out];rfl,rfl⟩
   ·have b0:(s.toList == [])=false:=by rw[CZ];simp[h0]
    by_cases h1:tx s=Sg.BB n
    ·have b1:(s.toList == Sg.BB n)=true:=by rw[CZ];simp[h1]
     have HF:Hid (Sg.AW (tx s)=n):=lh (by unfold Sg.AW;rw[HN.out];simp only;rw[if_neg (by rintro (h | h);exact h0 h;exact h h1)]);clear h0 h1;go_wp2_with fail
     refine(JZ n (by omega) _).mono ?_;rintro e w4 ⟨rfl,rfl⟩;go_wp2;go_ret;exact⟨by rw[HF.out];rfl,rfl⟩
    ·have b1:(s.toList == Sg.BB n)=false:=by rw[CZ];simp[h1]
     have HF:Hid (Sg.AW (tx s) = -1):=lh (by unfold Sg.AW;rw[HN.out];simp only;rw[if_pos (.inr h1)]);clear h0 h1;go_wp2_with fail
     refine(JZ n (by omega) _).mono ?_;rintro e w4 ⟨rfl,rfl⟩;go_wp2;go_ret;exact⟨by rw[HF.out];rfl,rfl⟩
end Go.Proofs.YthibllkleakiiaaGreatDoor
namespace Sg
def EP (s:AR):At:=if CY s≠-1 then ⟨CY s,-1,-1,-1,0⟩ else if s.head? = some 114 then ⟨1,-1,-1,-1,AW s.tail⟩ else ⟨0,-1,-1,-1,AW s⟩
theorem Ux (s:AR):Et Ku s=if (EP s).n<0 then none else some (EP s):=by
 have key:∀ (k:Int) (t:AR),(Ku t).map (fun (n:Nat)=>(⟨k,-1,-1,-1,(n:Int)⟩:At))=if AW t<0 then none else some ⟨k,-1,-1,-1,AW t⟩:=by
  intro k t;unfold Ku;rcases FA t with h | ⟨n,h,-⟩
  ·rw[h];rfl
  ·rw[h,if_neg (by omega),if_neg (by omega)];rfl
 unfold Et EP;split
 ·rw[if_neg (by simp)]
 ·split
  ·exact key 1 s.tail
  ·exact key 0 s
theorem P5 {s:AR}(h:∀ k:Nat,2<=k->k<=8->s≠CE k):CY s = -1:=by
 rcases Ex s with e | ⟨h2,h8,e⟩
 ·exact e
 ·exfalso
  generalize CY s=k at *;obtain⟨m,rfl⟩:=Int.eq_ofNat_of_zero_le (show 0<=k by omega);exact h m (by omega) (by omega) e
theorem P6 {s:AR}{k:Nat}(h2:2<=k)(h8:k<=8)(h:s=CE k):EP s=⟨k,-1,-1,-1,0⟩:=by
 have e:CY s=k:=by rw[h];exact Fj (by omega) (by omega)
 unfold EP;rw[e,if_pos (by omega)]
theorem P8 {s:AR}(h:CY s = -1)(hh:s.head? = some 114):EP s=⟨1,-1,-1,-1,AW s.tail⟩:=by
 unfold EP;rw[h,if_neg (by simp),if_pos hh]
theorem R_ {s:AR}(h:CY s = -1)(hh:s.head? ≠ some 114):EP s=⟨0,-1,-1,-1,AW s⟩:=by
 unfold EP;rw[h,if_neg (by simp),if_neg hh]
end Sg
namespace Go.Proofs.YthibllkleakiiaaGreatDoor
open Go.RowKit
set_option maxRecDepth 100000 in
set_option maxHeartbeats 4000000 in
theorem QT (s:ByteArray)(w:World)(hs:s.size<=2000000) :
  Calls Tryz.prog 68 #[.string s] w fun e w'=>e= .returned (pv (Sg.EP (tx s)))/\Aa w w':=by
 have B2:=lh (show Bx (World.alloc (World.alloc w (.cells #[.int .i64 0,.int .i64 0,.int .i64 0,.int .i64 0,.int .i64 0] 111)) (.cells #[.int .i64 (-1),.int .i64 (-1),.int .i64 (-1),.int .i64 (-1),.int .i64 0] 111)) w.heap.size [.int .i64 0,.int .i64 0,.int .i64 0,.int .i64 0,.int .i64 0] by
  have:=(Bx.new w #[.int .i64 0,.int .i64 0,.int .i64 0,.int .i64 0,.int .i64 0] 111).al (.cells #[.int .i64 (-1),.int .i64 (-1),.int .i64 (-1),.int .i64 (-1),.int .i64 0] 111);simpa using this)
 have B3:=lh (show Bx (World.alloc (World.alloc w (.cells #[.int .i64 0,.int .i64 0,.int .i64 0,.int .i64 0,.int .i64 0] 111)) (.cells #[.int .i64 (-1),.int .i64 (-1),.int .i64 (-1),.int .i64 (-1),.int .i64 0] 111)) (w.heap.size+1) [.int .i64 (-1),.int .i64 (-1),.int .i64 (-1),.int .i64 (-1),.int .i64 0] by
  have:=Bx.new (World.alloc w (.cells #[.int .i64 0,.int .i64 0,.int .i64 0,.int .i64 0,.int .i64 0] 111)) #[.int .i64 (-1),.int .i64 (-1),.int .i64 (-1),.int .i64 (-1),.int .i64 0] 111;simpa[go_sem] using this)
 have E0:=lh (((Aa.rfl' w).al (.cells #[.int .i64 0,.int .i64 0,.int .i64 0,.int .i64 0,.int .i64 0] 111)).al (.cells #[.int .i64 (-1),.int .i64 (-1),.int .i64 (-1),.int .i64 (-1),.int .i64 0] 111));go_enter Tryz.func68,Tryz.ntmps68;go_wp2_with fail
 refine(Pe _).mono ?_;rintro e wp ⟨bw,rfl,hw,he⟩;have HW:=lh hw;have E1:=lh (E0.out.tr he);have C2:=lh (B2.out.ext he);have C3:=lh (B3.out.ext he);clear hw he E0 B2 B3;go_wp2_with fail
 go_loopw [5] (fun s5 wr=>∃ k:Nat,2<=k/\k<=9/\s5= .int .i64 k/\Hid (∀ m:Nat,2<=m->m<k->tx s≠Sg.CE m)/\wr=wp) (fun s5 _=>9 - (intOf s5).toNat)
 case atStart=>exact⟨2,Nat.le_refl _,by omega,rfl,lh (fun m h h'=>by omega),rfl⟩
 case round =>
  obtain⟨k,hk2,hk9,rfl,HN,rfl⟩:=hrel;by_cases hlt:k<9
  ·have hw:=HW.out k hk2 (by omega);have bhw:=Au hw;have hkx:(k:Int)<9:=by omega
   by_cases hm:tx s=Sg.CE k
   ·have bm:(Sg.CE k == s.toList)=true:=by rw[Bool.beq_comm,CZ];simp[hm]
    have HQ:=lh (Sg.P6 hk2 (by omega) hm);clear hm;have ca:=C3.out.cell (j:=0) rfl;have fa:=C3.out.free 0;have la:=C3.out.lt;have D3a:=lh (C3.out.set 0 (.int .i64 (k:Int)));have D2a:=lh (C2.out.oth (p:=⟨w.heap.size+1,0,none⟩) (by simp) (.int .i64 (k:Int)));have EQa:=lh (E1.out.set (p:=⟨w.heap.size+1,0,none⟩) (by simp) (.int .i64 (k:Int)));go_upto_region 8 with fail
    generalize World.setCell wr ⟨w.heap.size+1,0,none⟩ (.int .i64 (k:Int))=wq at *;have D3:=D3a;have D2:=D2a;have EQ:=EQa;clear ca fa la D3a D2a EQa C2 C3 E1 hw bhw;have x0:=D3.out.cell (j:=0) rfl;have x1:=D3.out.cell (j:=1) rfl;have x2:=D3.out.cell (j:=2) rfl;have x3:=D3.out.cell (j:=3) rfl;have x4:=D3.out.cell (j:=4) rfl;have y0:=D2.out.cell (j:=0) rfl;have y1:=D2.out.cell (j:=1) rfl;have y2:=D2.out.cell (j:=2) rfl;have y3:=D2.out.cell (j:=3) rfl;have y4:=D2.out.cell (j:=4) rfl;have g0:=D2.out.free 0;have g1:=D2.out.free 1;have g2:=D2.out.free 2;have g3:=D2.out.free 3;have g4:=D2.out.free 4;have l2:=D2.out.lt;have l3:=D3.out.lt;go_wp2;have s0:∀ u0:Value,World.cell? (World.setCell wq ⟨w.heap.size,0,none⟩ u0) ⟨w.heap.size,0,none⟩=some u0:=fun u0=>(D2.out.set 0 u0).cell (j:=0) rfl;have s1:∀ u0 u1:Value,World.cell? (World.setCell (World.setCell wq ⟨w.heap.size,0,none⟩ u0) ⟨w.heap.size,1,none⟩ u1) ⟨w.heap.size,1,none⟩=some u1:=fun u0 u1=>((D2.out.set 0 u0).set 1 u1).cell (j:=1) rfl;have s2:∀ u0 u1 u2:Value,World.cell? (World.setCell (World.setCell (World.setCell wq ⟨w.heap.size,0,none⟩ u0) ⟨w.heap.size,1,none⟩ u1) ⟨w.heap.size,2,none⟩ u2) ⟨w.heap.size,2,none⟩=some u2:=fun u0 u1 u2=>(((D2.out.set 0 u0).set 1 u1).set 2 u2).cell (j:=2) rfl;have s3:∀ u0 u1 u2 u3:Value,World.cell? (World.setCell (World.setCell (World.setCell (World.setCell wq ⟨w.heap.size,0,none⟩ u0) ⟨w.heap.size,1,none⟩ u1) ⟨w.heap.size,2,none⟩ u2) ⟨w.heap.size,3,none⟩ u3) ⟨w.heap.size,3,none⟩=some u3:=fun u0 u1 u2 u3=>((((D2.out.set 0 u0).set 1 u1).set 2 u2).set 3 u3).cell (j:=3) rfl;have s4:∀ u0 u1 u2 u3 u4:Value,World.cell? (World.setCell (World.setCell (World.setCell (World.setCell (World.setCell wq ⟨w.heap.size,0,none⟩ u0) ⟨w.heap.size,1,none⟩ u1) ⟨w.heap.size,2,none⟩ u2) ⟨w.heap.size,3,none⟩ u3) ⟨w.heap.size,4,none⟩ u4) ⟨w.heap.size,4,none⟩=some u4:=fun u0 u1 u2 u3 u4=>(((((D2.out.set 0 u0).set 1 u1).set 2 u2).set 3 u3).set 4 u4).cell (j:=4) rfl;refine bodyPost_ret (v:=pv ⟨(k:Int),-1,-1,-1,0⟩) (by simp[results,Tryz.results68,go_sem,s0,s1,s2,s3,s4];try rfl) rfl ?_;exact⟨by rw[HQ.out],(Aa.set (Aa.set (Aa.set (Aa.set (Aa.set EQ.out (p:=⟨w.heap.size,0,none⟩) (Nat.le_refl _) (.int .i64 (k:Int))) (p:=⟨w.heap.size,1,none⟩) (Nat.le_refl _) (.int .i64 (-1))) (p:=⟨w.heap.size,2,none⟩) (Nat.le_refl _) (.int .i64 (-1))) (p:=⟨w.heap.size,3,none⟩) (Nat.le_refl _) (.int .i64 (-1))) (p:=⟨w.heap.size,4,none⟩) (Nat.le_refl _) (.int .i64 0))⟩
   ·have bm:(Sg.CE k == s.toList)=false:=by rw[Bool.beq_comm,CZ];simp[hm]
    have HM:=lh (show ∀ m:Nat,2<=m->m<k+1->tx s≠Sg.CE m from fun m h h'=>by by_cases e:m=k;rw[e];exact hm;exact HN.out m h (by omega));clear hm;go_wp2;go_roundw
    case rel=>exact⟨k+1,by omega,by omega,by go_num,HM,trivial⟩
    case measure=>simp[intOf];omega
  ·obtain rfl:k=9:=by omega
   have HK:=lh (Sg.P5 fun m h h'=>HN.out m h (by omega));clear HN HW;by_cases hh:(tx s).head? = some 114
   ·have hne:tx s≠[]:=fun e=>by rw[e] at hh;cases hh
    have h0:0<s.size:=by rw[DR];exact List.length_pos_iff.2 hne
    have b0:(s.toList == [])=false:=by rw[CZ];simp[hne]
    have hb:s[0]'h0=114:=by
     have:=Rv s 0;rw[getElem?_pos s 0 h0,<- List.head?_eq_getElem?,hh] at this;exact Option.some.inj this
    have b1:(((s[0]'h0).toNat:Int) == 114)=true:=by rw[hb];rfl
    have h1x:(1:Int)<=(s.size:Int):=by omega
    have HT:Hid (tx (s.extract 1 s.size)=(tx s).tail):=lh (by rw[QN,List.take_of_length_le (by rw[List.length_drop,<- DR];omega),List.drop_one]);have hse:(s.extract 1 s.size).size<=2000000:=by rw[ByteArray.size_extract];omega
    have HQ:=lh (Sg.P8 HK.out hh);have HRN:=lh fun w'=>DS (s.extract 1 s.size) w' hse;rw[HT.out] at HRN;clear hh hb hne;have ca:=C3.out.cell (j:=0) rfl;have fa:=C3.out.free 0;have la:=C3.out.lt;have D3a:=lh (C3.out.set 0 (.int .i64 1));have D2a:=lh (C2.out.oth (p:=⟨w.heap.size+1,0,none⟩) (by simp) (.int .i64 1));have EQa:=lh (E1.out.set (p:=⟨w.heap.size+1,0,none⟩) (by simp) (.int .i64 1));generalize Sg.AW (tx s).tail=n at *;go_upto_region 11 with fail
    generalize World.setCell wr ⟨w.heap.size+1,0,none⟩ (.int .i64 1)=wa at *;clear ca fa la C2 C3 E1;have cb:=D3a.out.cell (j:=4) rfl;have fb:=D3a.out.free 4;have lb:=D3a.out.lt;have D3b:=lh (D3a.out.set 4 (.int .i64 n));have D2b:=lh (D2a.out.oth (p:=⟨w.heap.size+1,4,none⟩) (by simp) (.int .i64 n));have EQb:=lh (EQa.out.set (p:=⟨w.heap.size+1,4,none⟩) (by simp) (.int .i64 n));go_wp2_with fail
    refine(HRN.out _).mono ?_;rintro e w4 ⟨rfl,rfl⟩;go_upto_region 12 with fail
    generalize World.setCell wa ⟨w.heap.size+1,4,none⟩ (.int .i64 n)=wq at *;have D3:=D3b;have D2:=D2b;have EQ:=EQb;clear cb fb lb D3b D2b EQb D2a D3a EQa;have x0:=D3.out.cell (j:=0) rfl;have x1:=D3.out.cell (j:=1) rfl;have x2:=D3.out.cell (j:=2) rfl;have x3:=D3.out.cell (j:=3) rfl;have x4:=D3.out.cell (j:=4) rfl;have y0:=D2.out.cell (j:=0) rfl;have y1:=D2.out.cell (j:=1) rfl;have y2:=D2.out.cell (j:=2) rfl;have y3:=D2.out.cell (j:=3) rfl;have y4:=D2.out.cell (j:=4) rfl;have g0:=D2.out.free 0;have g1:=D2.out.free 1;have g2:=D2.out.free 2;have g3:=D2.out.free 3;have g4:=D2.out.free 4;have l2:=D2.out.lt;have l3:=D3.out.lt;go_wp2;have s0:∀ u0:Value,World.cell? (World.setCell wq ⟨w.heap.size,0,none⟩ u0) ⟨w.heap.size,0,none⟩=some u0:=fun u0=>(D2.out.set 0 u0).cell (j:=0) rfl;have s1:∀ u0 u1:Value,World.cell? (World.setCell (World.setCell wq ⟨w.heap.size,0,none⟩ u0) ⟨w.heap.size,1,none⟩ u1) ⟨w.heap.size,1,none⟩=some u1:=fun u0 u1=>((D2.out.set 0 u0).set 1 u1).cell (j:=1) rfl;have s2:∀ u0 u1 u2:Value,World.cell? (World.setCell (World.setCell (World.setCell wq ⟨w.heap.size,0,none⟩ u0) ⟨w.heap.size,1,none⟩ u1) ⟨w.heap.size,2,none⟩ u2) ⟨w.heap.size,2,none⟩=some u2:=fun u0 u1 u2=>(((D2.out.set 0 u0).set 1 u1).set 2 u2).cell (j:=2) rfl;have s3:∀ u0 u1 u2 u3:Value,World.cell? (World.setCell (World.setCell (World.setCell (World.setCell wq ⟨w.heap.size,0,none⟩ u0) ⟨w.heap.size,1,none⟩ u1) ⟨w.heap.size,2,none⟩ u2) ⟨w.heap.size,3,none⟩ u3) ⟨w.heap.size,3,none⟩=some u3:=fun u0 u1 u2 u3=>((((D2.out.set 0 u0).set 1 u1).set 2 u2).set 3 u3).cell (j:=3) rfl;have s4:∀ u0 u1 u2 u3 u4:Value,World.cell? (World.setCell (World.setCell (World.setCell (World.setCell (World.setCell wq ⟨w.heap.size,0,none⟩ u0) ⟨w.heap.size,1,none⟩ u1) ⟨w.heap.size,2,none⟩ u2) ⟨w.heap.size,3,none⟩ u3) ⟨w.heap.size,4,none⟩ u4) ⟨w.heap.size,4,none⟩=some u4:=fun u0 u1 u2 u3 u4=>(((((D2.out.set 0 u0).set 1 u1).set 2 u2).set 3 u3).set 4 u4).cell (j:=4) rfl;refine bodyPost_ret (v:=pv ⟨1,-1,-1,-1,n⟩) (by simp[results,Tryz.results68,go_sem,s0,s1,s2,s3,s4];try rfl) rfl ?_;exact⟨by rw[HQ.out],(Aa.set (Aa.set (Aa.set (Aa.set (Aa.set EQ.out (p:=⟨w.heap.size,0,none⟩) (Nat.le_refl _) (.int .i64 1)) (p:=⟨w.heap.size,1,none⟩) (Nat.le_refl _) (.int .i64 (-1))) (p:=⟨w.heap.size,2,none⟩) (Nat.le_refl _) (.int .i64 (-1))) (p:=⟨w.heap.size,3,none⟩) (Nat.le_refl _) (.int .i64 (-1))) (p:=⟨w.heap.size,4,none⟩) (Nat.le_refl _) (.int .i64 n))⟩
   ·have HQ:=lh (Sg.R_ HK.out hh);have HRN:=lh fun w'=>DS s w' hs;have ca:=C3.out.cell (j:=0) rfl;have fa:=C3.out.free 0;have la:=C3.out.lt;have D3a:=lh (C3.out.set 0 (.int .i64 0));have D2a:=lh (C2.out.oth (p:=⟨w.heap.size+1,0,none⟩) (by simp) (.int .i64 0));have EQa:=lh (E1.out.set (p:=⟨w.heap.size+1,0,none⟩) (by simp) (.int .i64 0));generalize Sg.AW (tx s)=n at *;by_cases hne:tx s=[]
    ·have b0:(s.toList == [])=true:=by rw[CZ];simp[hne]
     clear hh hne;go_upto_region 14 with fail
     generalize World.setCell wr ⟨w.heap.size+1,0,none⟩ (.int .i64 0)=wa at *;clear ca fa la C2 C3 E1;have cb:=D3a.out.cell (j:=4) rfl;have fb:=D3a.out.free 4;have lb:=D3a.out.lt;have D3b:=lh (D3a.out.set 4 (.int .i64 n));have D2b:=lh (D2a.out.oth (p:=⟨w.heap.size+1,4,none⟩) (by simp) (.int .i64 n));have EQb:=lh (EQa.out.set (p:=⟨w.heap.size+1,4,none⟩) (by simp) (.int .i64 n));go_wp2_with fail
     refine(HRN.out _).mono ?_;rintro e w4 ⟨rfl,rfl⟩;go_upto_region 15 with fail
     generalize World.setCell wa ⟨w.heap.size+1,4,none⟩ (.int .i64 n)=wq at *;have D3:=D3b;have D2:=D2b;have EQ:=EQb;clear cb fb lb D3b D2b EQb D2a D3a EQa;have x0:=D3.out.cell (j:=0) rfl;have x1:=D3.out.cell (j:=1) rfl;have x2:=D3.out.cell (j:=2) rfl;have x3:=D3.out.cell (j:=3) rfl;have x4:=D3.out.cell (j:=4) rfl;have y0:=D2.out.cell (j:=0) rfl;have y1:=D2.out.cell (j:=1) rfl;have y2:=D2.out.cell (j:=2) rfl;have y3:=D2.out.cell (j:=3) rfl;have y4:=D2.out.cell (j:=4) rfl;have g0:=D2.out.free 0;have g1:=D2.out.free 1;have g2:=D2.out.free 2;have g3:=D2.out.free 3;have g4:=D2.out.free 4;have l2:=D2.out.lt;have l3:=D3.out.lt;go_wp2;have s0:∀ u0:Value,World.cell? (World.setCell wq ⟨w.heap.size,0,none⟩ u0) ⟨w.heap.size,0,none⟩=some u0:=fun u0=>(D2.out.set 0 u0).cell (j:=0) rfl;have s1:∀ u0 u1:Value,World.cell? (World.setCell (World.setCell wq ⟨w.heap.size,0,none⟩ u0) ⟨w.heap.size,1,none⟩ u1) ⟨w.heap.size,1,none⟩=some u1:=fun u0 u1=>((D2.out.set 0 u0).set 1 u1).cell (j:=1) rfl;have s2:∀ u0 u1 u2:Value,World.cell? (World.setCell (World.setCell (World.setCell wq ⟨w.heap.size,0,none⟩ u0) ⟨w.heap.size,1,none⟩ u1) ⟨w.heap.size,2,none⟩ u2) ⟨w.heap.size,2,none⟩=some u2:=fun u0 u1 u2=>(((D2.out.set 0 u0).set 1 u1).set 2 u2).cell (j:=2) rfl;have s3:∀ u0 u1 u2 u3:Value,World.cell? (World.setCell (World.setCell (World.setCell (World.setCell wq ⟨w.heap.size,0,none⟩ u0) ⟨w.heap.size,1,none⟩ u1) ⟨w.heap.size,2,none⟩ u2) ⟨w.heap.size,3,none⟩ u3) ⟨w.heap.size,3,none⟩=some u3:=fun u0 u1 u2 u3=>((((D2.out.set 0 u0).set 1 u1).set 2 u2).set 3 u3).cell (j:=3) rfl;have s4:∀ u0 u1 u2 u3 u4:Value,World.cell? (World.setCell (World.setCell (World.setCell (World.setCell (World.setCell wq ⟨w.heap.size,0,none⟩ u0) ⟨w.heap.size,1,none⟩ u1) ⟨w.heap.size,2,none⟩ u2) ⟨w.heap.size,3,none⟩ u3) ⟨w.heap.size,4,none⟩ u4) ⟨w.heap.size,4,none⟩=some u4:=fun u0 u1 u2 u3 u4=>(((((D2.out.set 0 u0).set 1 u1).set 2 u2).set 3 u3).set 4 u4).cell (j:=4) rfl;refine bodyPost_ret (v:=pv ⟨0,-1,-1,-1,n⟩) (by simp[results,Tryz.results68,go_sem,s0,s1,s2,s3,s4];try rfl) rfl ?_;exact⟨by rw[HQ.out],(Aa.set (Aa.set (Aa.set (Aa.set (Aa.set EQ.out (p:=⟨w.heap.size,0,none⟩) (Nat.le_refl _) (.int .i64 0)) (p:=⟨w.heap.size,1,none⟩) (Nat.le_refl _) (.int .i64 (-1))) (p:=⟨w.heap.size,2,none⟩) (Nat.le_refl _) (.int .i64 (-1))) (p:=⟨w.heap.size,3,none⟩) (Nat.le_refl _) (.int .i64 (-1))) (p:=⟨w.heap.size,4,none⟩) (Nat.le_refl _) (.int .i64 n))⟩
    ·have b0:(s.toList == [])=false:=by rw[CZ];simp[hne]
     have h0:0<s.size:=by rw[DR];exact List.length_pos_iff.2 hne
     have b1:(((s[0]'h0).toNat:Int) == 114)=false:=by
      rw[beq_eq_false_iff_ne];intro e;apply hh;rw[List.head?_eq_getElem?,<- Rv,getElem?_pos s 0 h0];exact congrArg some (UInt8.toNat_inj.1 (show (s[0]'h0).toNat=(114:UInt8).toNat from by have e2:(114:UInt8).toNat=114:=rfl;omega))
     clear hh hne;go_upto_region 14 with fail
     generalize World.setCell wr ⟨w.heap.size+1,0,none⟩ (.int .i64 0)=wa at *;clear ca fa la C2 C3 E1;have cb:=D3a.out.cell (j:=4) rfl;have fb:=D3a.out.free 4;have lb:=D3a.out.lt;have D3b:=lh (D3a.out.set 4 (.int .i64 n));have D2b:=lh (D2a.out.oth (p:=⟨w.heap.size+1,4,none⟩) (by simp) (.int .i64 n));have EQb:=lh (EQa.out.set (p:=⟨w.heap.size+1,4,none⟩) (by simp) (.int .i64 n));go_wp2_with fail
     refine(HRN.out _).mono ?_;rintro e w4 ⟨rfl,rfl⟩;go_upto_region 15 with fail
     generalize World.setCell wa ⟨w.heap.size+1,4,none⟩ (.int .i64 n)=wq at *;have D3:=D3b;have D2:=D2b;have EQ:=EQb;clear cb fb lb D3b D2b EQb D2a D3a EQa;have x0:=D3.out.cell (j:=0) rfl;have x1:=D3.out.cell (j:=1) rfl;have x2:=D3.out.cell (j:=2) rfl;have x3:=D3.out.cell (j:=3) rfl;have x4:=D3.out.cell (j:=4) rfl;have y0:=D2.out.cell (j:=0) rfl;have y1:=D2.out.cell (j:=1) rfl;have y2:=D2.out.cell (j:=2) rfl;have y3:=D2.out.cell (j:=3) rfl;have y4:=D2.out.cell (j:=4) rfl;have g0:=D2.out.free 0;have g1:=D2.out.free 1;have g2:=D2.out.free 2;have g3:=D2.out.free 3;have g4:=D2.out.free 4;have l2:=D2.out.lt;have l3:=D3.out.lt;go_wp2;have s0:∀ u0:Value,World.cell? (World.setCell wq ⟨w.heap.size,0,none⟩ u0) ⟨w.heap.size,0,none⟩=some u0:=fun u0=>(D2.out.set 0 u0).cell (j:=0) rfl;have s1:∀ u0 u1:Value,World.cell? (World.setCell (World.setCell wq ⟨w.heap.size,0,none⟩ u0) ⟨w.heap.size,1,none⟩ u1) ⟨w.heap.size,1,none⟩=some u1:=fun u0 u1=>((D2.out.set 0 u0).set 1 u1).cell (j:=1) rfl;have s2:∀ u0 u1 u2:Value,World.cell? (World.setCell (World.setCell (World.setCell wq ⟨w.heap.size,0,none⟩ u0) ⟨w.heap.size,1,none⟩ u1) ⟨w.heap.size,2,none⟩ u2) ⟨w.heap.size,2,none⟩=some u2:=fun u0 u1 u2=>(((D2.out.set 0 u0).set 1 u1).set 2 u2).cell (j:=2) rfl;have s3:∀ u0 u1 u2 u3:Value,World.cell? (World.setCell (World.setCell (World.setCell (World.setCell wq ⟨w.heap.size,0,none⟩ u0) ⟨w.heap.size,1,none⟩ u1) ⟨w.heap.size,2,none⟩ u2) ⟨w.heap.size,3,none⟩ u3) ⟨w.heap.size,3,none⟩=some u3:=fun u0 u1 u2 u3=>((((D2.out.set 0 u0).set 1 u1).set 2 u2).set 3 u3).cell (j:=3) rfl;have s4:∀ u0 u1 u2 u3 u4:Value,World.cell? (World.setCell (World.setCell (World.setCell (World.setCell (World.setCell wq ⟨w.heap.size,0,none⟩ u0) ⟨w.heap.size,1,none⟩ u1) ⟨w.heap.size,2,none⟩ u2) ⟨w.heap.size,3,none⟩ u3) ⟨w.heap.size,4,none⟩ u4) ⟨w.heap.size,4,none⟩=some u4:=fun u0 u1 u2 u3 u4=>(((((D2.out.set 0 u0).set 1 u1).set 2 u2).set 3 u3).set 4 u4).cell (j:=4) rfl;refine bodyPost_ret (v:=pv ⟨0,-1,-1,-1,n⟩) (by simp[results,Tryz.results68,go_sem,s0,s1,s2,s3,s4];try rfl) rfl ?_;exact⟨by rw[HQ.out],(Aa.set (Aa.set (Aa.set (Aa.set (Aa.set EQ.out (p:=⟨w.heap.size,0,none⟩) (Nat.le_refl _) (.int .i64 0)) (p:=⟨w.heap.size,1,none⟩) (Nat.le_refl _) (.int .i64 (-1))) (p:=⟨w.heap.size,2,none⟩) (Nat.le_refl _) (.int .i64 (-1))) (p:=⟨w.heap.size,3,none⟩) (Nat.le_refl _) (.int .i64 (-1))) (p:=⟨w.heap.size,4,none⟩) (Nat.le_refl _) (.int .i64 n))⟩
end Go.Proofs.YthibllkleakiiaaGreatDoor
