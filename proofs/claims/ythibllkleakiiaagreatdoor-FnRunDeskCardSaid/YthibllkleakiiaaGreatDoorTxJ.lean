/- Parts of one proof, joined. The reference's reading of a word, in memory: its contract. Conditions: texts of at most 2^20 bytes. -/
import Derived.Test.YthibllkleakiiaaGreatDoorSpecTO
import Derived.Test.YthibllkleakiiaaGreatDoorTxB
namespace Go.Proofs.YthibllkleakiiaaGreatDoor
open Go.RowKit
theorem YP (A:Option Addr)(n c:Nat)(w:World):(Instr.field 68 (.agg #[.slice A n c]) 0).run Tryz.prog w= .ok (.slice A n c) w:=by kernel_rfl
theorem CT {a b:Sg.AO}(h:a.length+b.length<=2000):¬ ((ts a).size+(ts b).size > 9223372036854775807):=by rw[BB,BB];omega
set_option maxRecDepth 100000 in
set_option maxHeartbeats 1000000 in
theorem Um (A:Option Addr)(c:Nat)(f:List Sg.At)(w:World)(hv:Sg.AR f=true)(h:Rd w 5 A f.length (AH f)) :
  Calls Tryz.prog 142 #[.agg #[.slice A f.length c],.int .i64 ((f.length:Int) - 1)] w fun e w'=>∃ A1 c1,e= .returned (.agg #[.slice A1 (Sg.Bv f).length c1])/\Aa w w' /\
   Au w' w.heap.size 111 5 A1 (Sg.Bv f).length c1 (AH (Sg.Bv f)):=by
 have hl:=Sg.Cg hv;have hi:((f.length - 1:Nat):Int)=(f.length:Int) - 1:=by omega
 have hO:Sg.Bv f=Sg.CF f f.length ((f.length - 1:Nat):Int) []:=by rw[hi];unfold Sg.Bv;rw[if_pos hv]
 have hz:=Sg.JE hv;rw[<- hi] at hz;have HP:=lh fun Ao co rs w'=>XN w A c f (Sg.CY hv) h f.length (f.length - 1) [] Ao co rs w' (by omega) (by omega) (by simp;omega);rw[<- hO,hi] at HP;clear hz hO hi h hv;generalize Sg.Bv f=l at *;go_enter Tryz.func142,Tryz.ntmps142;go_wp2_with fail
 have S1:=Ai.add (B:=w.heap.size) (ts:=[]) (W:=World.alloc w (.cells #[.slice A f.length c] 68)) trivial (xr.al (.cells #[.slice none 0 0] 68)) (Th.box w.heap.size (w.heap.size+1) [.slice none 0 0]) ⟨by have:=Bx.new (World.alloc w (.cells #[.slice A f.length c] 68)) #[.slice none 0 0] 68;simpa[go_sem] using this,by omega⟩ (fun b e=>by have e2:b=w.heap.size+1:=e;simp[go_sem];omega);have S2:=Ai.add S1 (xr.al (.cells #[] 111)) (Th.own w.heap.size 111 5 (some ⟨w.heap.size+1+1,0,none⟩) 0 0 (AH [])) (by have:=Au.new (World.alloc (World.alloc w (.cells #[.slice A f.length c] 68)) (.cells #[.slice none 0 0] 68)) (B:=w.heap.size) 111 5 #[] 0 (by simp[go_sem];omega) (by decide) rfl;show Au _ _ _ _ _ 0 0 [];simpa[go_sem] using this) (fun b e=>by simp[Th.own,AE] at e;simp[go_sem];omega);refine(HP.out _ 0 _ _ ((((Aa.rfl' w).al _).al _).al _) S2).mono ?_;rintro e w2 ⟨A1,c1,rfl,he,hS⟩;have HE:=lh he;have HS:=lh hS;have hb:Bx w2 (w.heap.size+1) [.slice none 0 0]:=(Ai.get hS 1 rfl:Bx _ _ _/\_).1;have q0:=hb.cell (j:=0) rfl;have f0:=hb.free 0;have l0:=hb.lt;clear S1 S2 he hS hb;go_wp2;have hS2:=Ai.st HS.out 1 rfl ⟨w.heap.size+1,0,none⟩ (.slice A1 l.length c1) rfl (Th.box w.heap.size (w.heap.size+1) [.slice A1 l.length c1]) ⟨(Ai.get HS.out 1 rfl:Bx _ _ _/\_).1.set 0 _,by omega⟩ (fun _ e=>e);have s0:=((Ai.get hS2 1 rfl:Bx _ _ _/\_).1).cell (j:=0) rfl;have hE2:=HE.out.set (p:=⟨w.heap.size+1,0,none⟩) (by simp) (.slice A1 l.length c1);refine bodyPost_ret (v := .agg #[.slice A1 l.length c1]) (by simp[results,Tryz.results142,go_sem,s0];try rfl) rfl ?_;exact⟨A1,c1,rfl,hE2,Ai.get hS2 0 rfl⟩
set_option maxRecDepth 100000 in
set_option maxHeartbeats 1000000 in
theorem NA (A:Option Addr)(c:Nat)(f:List Sg.At)(w:World)(hv:Sg.AR f=true)(h:Rd w 5 A f.length (AH f)) :
  Calls Tryz.prog 103 #[.agg #[.slice A f.length c]] w fun e w'=>e= .returned (.string (ts (Sg.EY f)))/\Aa w w':=by
 have hl:=Sg.Cg hv;have HF:=lh (Sg.SQ hv);have HOK:=lh (Sg.Km hv);have HLN:=lh (Sg.KV (Sg.Km hv));have hol:=Sg.JF hv;have HO:=lh fun w' (e:Aa w w')=>Um A c f w' hv (h.ext e);have iw:IntKind.i64.wrap ((f.length:Int) - 1)=(f.length:Int) - 1:=IntWalk.i64_in _ (by omega);clear h hv;generalize Sg.Bv f=l at *;go_enter Tryz.func103,Tryz.ntmps103;go_wp2_with fail
 refine(HO.out _ ((Aa.rfl' w).al _)).mono ?_;rintro e w2 ⟨A1,c1,rfl,he,hown⟩;have E:=lh (((Aa.rfl' w).al _).tr he);have HR:=lh hown.rd;clear he hown;have hfd:=fun w=>YP A1 l.length c1 w;rw[hol] at hfd;go_wp2_with fail
 go_loopw [3,5] (fun s3 s5 wr=>∃ j:Nat,j<=l.length/\s3= .string (ts (Sg.EL l j))/\s5= .int .i64 j/\Hid (Aa w wr)/\Hid (Rd wr 5 A1 l.length (AH l))) (fun _ s5 _=>l.length - (intOf s5).toNat)
 case atStart=>exact⟨0,Nat.zero_le _,rfl,rfl,E,HR⟩
 case round =>
  clear E HR;obtain⟨j,hj,rfl,rfl,E,HR⟩:=hrel;by_cases hlt:j<l.length
  ·obtain⟨b,o,p,hAe,hp,h0,h1,h2,h3,h4⟩:=HR.out.atP hlt;subst hAe;have HSP:=lh fun w=>Sy p (HOK.out p (List.mem_of_getElem? hp)) w;have bh0:=AA h0;have bh1:=AA h1;have bh2:=AA h2;have bh3:=AA h3;have bh4:=AA h4;have hln:=HLN.out j;have hpl:=Sg.KU (HOK.out p (List.mem_of_getElem? hp));have hjx:(j:Int)<(l.length:Int):=by omega
   by_cases hz:0<j
   ·have hzx:(j:Int) > 0:=by omega
    have hT:=lh (Sg.Ms hp hz);have s1:=CT (a:=Sg.EL l j) (b:=[32]) (by simp;omega);have s2:=CT (a:=Sg.EL l j++[32]) (b:=Sg.Cp p) (by simp;omega);rw[<- BY] at s2;clear hp;generalize Sg.EL l j=x at *;obtain⟨pk,pa,pb,pc,pn⟩:=p;dsimp only at *;go_wp2_with fail
    refine(HSP.out _).mono ?_;rintro e w3 ⟨rfl,he3⟩;have E3:=lh (E.out.tr he3);have HR3:=lh (HR.out.ext he3);clear he3 h0 h1 h2 h3 h4 bh0 bh1 bh2 bh3 bh4;go_wp2;go_roundw
    case rel=>exact⟨j+1,by omega,by rw[hT.out,<- BY,<- BY],by go_num,E3,HR3⟩
    case measure=>simp[intOf];omega
   ·have hzx:¬ (j:Int) > 0:=by omega
    have hT:Hid (Sg.EL l (j+1)=Sg.EL l j++Sg.Cp p):=by
     obtain rfl:j=0:=by omega
     exact lh (Sg.NY hp)
    have s2:=CT (a:=Sg.EL l j) (b:=Sg.Cp p) (by omega);clear hp;generalize Sg.EL l j=x at *;obtain⟨pk,pa,pb,pc,pn⟩:=p;dsimp only at *;go_wp2_with fail
    refine(HSP.out _).mono ?_;rintro e w3 ⟨rfl,he3⟩;have E3:=lh (E.out.tr he3);have HR3:=lh (HR.out.ext he3);clear he3 h0 h1 h2 h3 h4 bh0 bh1 bh2 bh3 bh4;go_wp2;go_roundw
    case rel=>exact⟨j+1,by omega,by rw[hT.out,<- BY],by go_num,E3,HR3⟩
    case measure=>simp[intOf];omega
  ·obtain rfl:j=l.length:=by omega
   go_wp2;go_ret;exact⟨by rw[HF.out];rfl,E.out⟩
theorem zo1{p:Prop}(h:p:=by
 refine(HSF.out hvf _ xr).mono ?_;rintro e w4 ⟨rfl,he4⟩;have E4:=lh (E.out.tr he4);have Q4:=lh (he4.cellE Q.out);clear he4;go_wp2;go_roundw
 case rel=>exact⟨j+1,by omega,by rw[HT.out,hL.out,<- BY,<- BY];simp[<- BY,ByteArray.append_assoc];rfl,by go_num,E4,Q4⟩
 case measure=>simp[intOf];omega):p:=h
set_option maxRecDepth 100000 in
set_option maxHeartbeats 2000000 in
theorem NC (A Ac:Option Addr)(c cc:Nat)(g:Sg.Ae)(l:List Int)(w:World)(h:Eg w A g)(hc:Rd w 1 Ac l.length (Ah l)) :
  Calls Tryz.prog 63 #[.agg #[.slice A g.length c],.slice Ac l.length cc] w fun e w'=>e= .returned (.string (ts (Sg.Ht g l)))/\Aa w w':=by
 have hgl:=h.1;have hll:=hc.big;have HVG:=lh fun w' (e:Aa w w')=>I3 A c g w' (h.ext e);have HVC:=lh fun w' (e:Aa w w')=>Kt A Ac c cc g l w' (h.ext e) (hc.ext e);have e0:=(Aa.rfl' w).al (.cells #[.slice A g.length c] 35);have E0:=lh e0;have q0:World.cell? (World.alloc w (.cells #[.slice A g.length c] 35)) ⟨w.heap.size,0,none⟩=some (.slice A g.length c):=by simp[go_sem]
 have Q0:=lh q0;have H:=lh h;have HC:=lh hc;clear h hc e0 q0;cases hv:Sg.AG g
 ·have HN:Hid (Sg.Ht g l=[]):=lh (Sg.LP (by rw[hv];rfl));have HV:=lh hv;clear hv;go_enter Tryz.func63,Tryz.ntmps63;go_wp2_with fail
  refine(HVG.out _ E0.out).mono ?_;rintro e w2 ⟨rfl,he⟩;rw[HV.out];go_wp2;go_ret;exact⟨by rw[HN.out];rfl,E0.out.tr he⟩
 ·have HV:=lh hv;cases hw:Sg.AT g l
  ·have HN:Hid (Sg.Ht g l=[]):=lh (Sg.LP (by rw[hv,hw];rfl));have HW:=lh hw;clear hv hw;go_enter Tryz.func63,Tryz.ntmps63;go_wp2_with fail
   refine(HVG.out _ E0.out).mono ?_;rintro e w2 ⟨rfl,he⟩;rw[HV.out];have E2:=lh (E0.out.tr he);have q2:=he.cellE Q0.out;have bq2:=AA q2;clear he;go_wp2_with fail
   refine(HVC.out _ E2.out).mono ?_;rintro e w3 ⟨rfl,he3⟩;rw[HW.out];go_wp2;go_ret;exact⟨by rw[HN.out];rfl,E2.out.tr he3⟩
  ·have HF:=lh (Sg.Mk hv hw);have hg10:=Sg.FE hv;have hlen:=Sg.Cu hw;have HR:=lh (Sg.CX hw);have HNC:=lh fun (i:Nat) (n:Sg.BV) (hn:g[i]? = some n)=>Sg.Ml hv hn;have HLS:=lh fun (i:Nat) (n:Sg.BV) (x:Int) (hn:g[i]? = some n) (hx:l[i]? = some x)=>Sg.IR hlen hn hx;have HLN:=lh (Sg.Ie hlen (fun x hx=>(Sg.CX hw x hx).2));have HW:=lh hw;have HLE:=lh hlen;clear hv hw hlen;go_enter Tryz.func63,Tryz.ntmps63;go_wp2_with fail
   refine(HVG.out _ E0.out).mono ?_;rintro e w2 ⟨rfl,he⟩;rw[HV.out];have E2:=lh (E0.out.tr he);have q2:=he.cellE Q0.out;have Q2:=lh q2;have bq2:=AA q2;clear he;go_wp2_with fail
   refine(HVC.out _ E2.out).mono ?_;rintro e w3 ⟨rfl,he3⟩;rw[HW.out];have E3:=lh (E2.out.tr he3);have Q3:=lh (he3.cellE Q2.out);clear he3 q2 bq2 E2 Q2 E0 Q0;go_wp2_with fail
   go_loopw [5,6] (fun s5 s6 wr=>∃ j:Nat,j<=g.length/\s5= .string (ts (Sg.DH g l j))/\s6= .int .i64 j/\Hid (Aa w wr)/\Hid (wr.cell? ⟨w.heap.size,0,none⟩=some (.slice A g.length c))) (fun _ s6 _=>g.length - (intOf s6).toNat)
   case atStart=>exact⟨0,Nat.zero_le _,rfl,rfl,E3,Q3⟩
   case round =>
    clear E3 Q3;obtain⟨j,hj,rfl,rfl,E,Q⟩:=hrel;have q:=Q.out;have bq:=AA q;by_cases hlt:j<g.length
    ·obtain⟨⟨nk,nf⟩,b,o,Ap,cp,hn,rfl,hkc,hs,hf,hfl⟩:=(H.out.ext E.out).at_ hlt;obtain⟨bc,oc,x,rfl,hx,hxc⟩:=(HC.out.ext E.out).at1 (show j<l.length by have:=HLE.out;omega);have hxr:=HR.out x (List.mem_of_getElem? hx);obtain⟨y,rfl⟩:=Int.eq_ofNat_of_zero_le hxr.1;have hjx:(j:Int)<(g.length:Int):=by omega
     have hjy:(j:Int)<(l.length:Int):=by have:=HLE.out;omega
     have hln:=HLN.out j;have HT:=lh (HLS.out j _ _ hn hx);have hnc:=HNC.out j _ hn;have hfm:=Sg.Kk nf;have hyl:=Sg.GQ (n:=y) (by omega);have HNU:=lh fun w=>IC y (by omega) w;have HSF:=lh fun (hv:Sg.AR nf=true) w' (e:Aa wr w')=>NA Ap cp nf w' hv (hf.ext e);clear hn hx hxr hf;dsimp only at hnc hkc hs hfl;have b1:=AA hkc;have b2:=AA hs;have b3:=AA hxc;generalize Sg.DH g l j=x at *;rcases hnc with ⟨rfl,hnf⟩ | ⟨rfl | rfl,hvf⟩
     ·have hL:=lh (Sg.Mm (n:=⟨0,nf⟩) rfl (y:Int));have s1:=CT (a:=x) (b:=Sg.De++[32]) (by simp[Sg.De];omega);have s2:=CT (a:=x++(Sg.De++[32])) (b:=Sg.BE y) (by simp[Sg.De];omega);have s3:=CT (a:=x++(Sg.De++[32])++Sg.BE y) (b:=[10]) (by simp[Sg.De];omega);rw[<- BY,<- BY] at s3;rw[<- BY] at s2;go_wp2_with fail
      refine(HNU.out _).mono ?_;rintro e w4 ⟨rfl,rfl⟩;go_wp2;go_roundw
      case rel=>exact⟨j+1,by omega,by rw[HT.out,hL.out,<- BY,<- BY];simp[<- BY,ByteArray.append_assoc];rfl,by go_num,E,Q⟩
      case measure=>simp[intOf];omega
     ·have hL:=lh (Sg.NU (n:=⟨1,nf⟩) rfl (y:Int));have s1:=CT (a:=x) (b:=Sg.EZ++[32]) (by simp[Sg.EZ];omega);have s2:=CT (a:=x++(Sg.EZ++[32])) (b:=Sg.EY nf) (by simp[Sg.EZ];omega);have s3:=CT (a:=x++(Sg.EZ++[32])++Sg.EY nf) (b:=[10]) (by simp[Sg.EZ];omega);rw[<- BY,<- BY] at s3;rw[<- BY] at s2;go_wp2_with fail
      exact zo1
     ·have hL:=lh (Sg.NV (n:=⟨2,nf⟩) rfl (y:Int));have s1:=CT (a:=x) (b:=Sg.E_++[32]) (by simp[Sg.E_];omega);have s2:=CT (a:=x++(Sg.E_++[32])) (b:=Sg.EY nf) (by simp[Sg.E_];omega);have s3:=CT (a:=x++(Sg.E_++[32])++Sg.EY nf) (b:=[10]) (by simp[Sg.E_];omega);rw[<- BY,<- BY] at s3;rw[<- BY] at s2;go_wp2_with fail
      exact zo1
    ·obtain rfl:j=g.length:=by omega
     go_wp2;go_ret;exact⟨by rw[HF.out];rfl,E.out⟩
end Go.Proofs.YthibllkleakiiaaGreatDoor
namespace Sg
theorem Tu {l:AO}{c:UInt8}{f j:Nat}(hf:f<=j)(hn:c ∉ (l.drop f).take (j - f))(hj:l[j]? = some c):AC c (l.drop f)=(l.drop f).take (j - f) :: AC c (l.drop (j+1)):=by
 have e:l.drop f=(l.drop f).take (j - f)++c :: l.drop (j+1):=by
  have h1:l.drop j=c :: l.drop (j+1):=by
   obtain⟨hl,he⟩:=List.getElem?_eq_some_iff.1 hj;rw[List.drop_eq_getElem_cons hl,he]
  have h2:(l.drop f).drop (j - f)=l.drop j:=by rw[List.drop_drop];congr 1;omega
  rw[<- h1,<- h2,List.take_append_drop]
 conv=>lhs;rw[e]
 exact Eq _ _ hn
theorem QY {l:AO}{c b:UInt8}{f j:Nat}(hf:f<=j)(hn:c ∉ (l.drop f).take (j - f))(hj:l[j]? = some b)(hb:b≠c):c ∉ (l.drop f).take (j+1 - f):=by
 have e:(l.drop f).take (j+1 - f)=(l.drop f).take (j - f)++[b]:=by
  rw[show j+1 - f=(j - f)+1 by omega,List.take_add_one,List.getElem?_drop,show f+(j - f)=j by omega,hj];rfl
 rw[e,List.mem_append,List.mem_singleton];exact fun h=>h.elim hn (fun e=>hb e.symm)
theorem Tv {l:AO}{c:UInt8}{f:Nat}(hn:c ∉ (l.drop f).take (l.length - f)):AC c (l.drop f)=[l.drop f]:=by
 rw[List.take_of_length_le (by simp)] at hn;exact DX _ hn
end Sg
namespace Go.Proofs.YthibllkleakiiaaGreatDoor
open Go.RowKit
set_option maxRecDepth 100000 in
set_option maxHeartbeats 2000000 in
theorem K1 (s:ByteArray)(c:UInt8)(w:World)(hs:s.size<=2000000) :
  Calls Tryz.prog 26 #[.string s,.int .u8 (c.toNat:Int)] w fun e w'=>∃ A n,e= .returned (.slice A (Sg.AC c (tx s)).length n)/\Aa w w' /\
   Au w' w.heap.size 9 1 A (Sg.AC c (tx s)).length n (Bh ((Sg.AC c (tx s)).map ts)):=by
 go_enter Tryz.func26,Tryz.ntmps26
 have hon:Au (w.alloc (.cells #[] 9)) w.heap.size 9 1 (some ⟨w.heap.size,0,none⟩) 0 0 (Bh (([]:List Sg.AO).map ts)):=by
  have:=Au.new w (B:=w.heap.size) 9 1 #[] 0 (Nat.le_refl _) (by decide) rfl;show Au _ _ _ _ _ 0 0 [];simpa using this
 have HON:=lh hon;have E0:=lh ((Aa.rfl' w).al (.cells #[] 9));clear hon;go_wp2_with fail
 go_loopw [5,6,7] (fun s5 s6 s7 wr=>∃ (j f:Nat) (O:List Sg.AO) (A:Option Addr) (n:Nat),j<=s.size/\f<=j/\s5= .slice A O.length n/\s6= .int .i64 f/\s7= .int .i64 j/\O.length<=f/\Hid (Sg.AC c (tx s)=O++Sg.AC c ((tx s).drop f))/\Hid (c ∉ ((tx s).drop f).take (j - f))/\Hid (Aa w wr)/\Hid (Au wr w.heap.size 9 1 A O.length n (Bh (O.map ts)))) (fun _ _ s7 _=>s.size - (intOf s7).toNat)
 case atStart=>exact⟨0,0,[],_,_,Nat.zero_le _,Nat.le_refl _,rfl,rfl,rfl,Nat.le_refl _,lh (by simp),lh (by simp),E0,HON⟩
 case round =>
  clear HON E0;obtain⟨j,f,O,A,n,hj,hf,rfl,rfl,rfl,hOf,HS,HN,E,HO⟩:=hrel;by_cases hlt:j<s.size
  ·have hb:(tx s)[j]? = some (s[j]'hlt):=by rw[<- Qf];exact getElem?_pos s j hlt
   have hjx:(j:Int)<(s.size:Int):=by omega
   have hfx:(f:Int)<=(j:Int):=by omega
   have hsz:=E.out.size;by_cases hbc:s[j]'hlt=c
   ·have bq:(((s[j]'hlt).toNat:Int) == (c.toNat:Int))=true:=by rw[hbc];simp
    have HH:=lh (Sg.Tu hf HN.out (hb.trans (congrArg some hbc)));have HX:=lh (show s.extract f j=ts (((tx s).drop f).take (j - f)) from K2 (OQ s f j));clear hb hbc;go_wp2_with (at_builtin;refine AB (cs:=[.string (s.extract f j)]) rfl rfl Lr rfl HO.out rfl rfl (IX _) (by omega) (by omega) (by omega) ?_;intro A2 c2 w9 hown2 hg2 hat2)
    go_roundw
    case rel=>exact⟨j+1,j+1,O++[((tx s).drop f).take (j - f)],A2,c2,by omega,Nat.le_refl _,by simp,by go_num,by go_num,by simp;omega,lh (by rw[HS.out,HH.out];simp),lh (by simp),lh (E.out.gr hg2 fun x hx=>(HO.out.lt hx).1),lh (by rw[List.length_append,List.map_append,List.map_cons,List.map_nil,<- FK,<- HX.out];exact hown2)⟩
    case measure=>simp[intOf];omega
   ·have bq:(((s[j]'hlt).toNat:Int) == (c.toNat:Int))=false:=by
     rw[beq_eq_false_iff_ne];intro e;exact hbc (UInt8.toNat_inj.1 (by omega))
    have HH:=lh (Sg.QY hf HN.out hb hbc);clear hb hbc;go_wp2;go_roundw
    case rel=>exact⟨j+1,f,O,A,n,by omega,by omega,rfl,rfl,by go_num,hOf,HS,HH,E,HO⟩
    case measure=>simp[intOf];omega
  ·obtain rfl:j=s.size:=by omega
   have hfx:(f:Int)<=(s.size:Int):=by omega
   have hsz:=E.out.size;have HE:Hid (Sg.AC c (tx s)=O++[(tx s).drop f]):=lh (by rw[HS.out,Sg.Tv (by rw[<- DU];exact HN.out)]);have HX:=lh (show s.extract f s.size=ts ((tx s).drop f) from K2 (by rw[OQ];exact List.take_of_length_le (by rw[List.length_drop,<- DU];omega)));go_wp2_with (at_builtin;refine AB (cs:=[.string (s.extract f s.size)]) rfl rfl Lr rfl HO.out rfl rfl (IX _) (by omega) (by omega) (by omega) ?_;intro A2 c2 w9 hown2 hg2 hat2)
   go_ret;refine⟨A2,c2,by rw[HE.out,List.length_append];rfl,E.out.gr hg2 fun x hx=>(HO.out.lt hx).1,?_⟩;rw[HE.out,List.length_append,List.map_append,List.map_cons,List.map_nil,<- FK,<- HX.out];exact hown2
theorem C_ (a:ByteArray)(l:Sg.AO):(a.toList == l)=decide (tx a=l):=by
 rw[YE,Bool.eq_iff_iff,beq_iff_eq,decide_eq_true_eq]
set_option maxRecDepth 100000 in
set_option maxHeartbeats 2000000 in
theorem D9 (s:ByteArray)(w:World)(hs:s.size<=2000000) :
  Calls Tryz.prog 27 #[.string s] w fun e w'=>e= .returned (.int .i64 (Sg.AV (tx s)))/\w=w':=by
 go_enter Tryz.func27,Tryz.ntmps27;go_wp2_with fail
 go_loopw [3,4] (fun s3 s4 wr=>∃ (j n:Nat),j<=s.size/\n<=999/\s3= .int .i64 n/\s4= .int .i64 j/\Hid (Sg.JZ 0 (tx s)=Sg.JZ n ((tx s).drop j))/\wr=w) (fun _ s4 _=>s.size - (intOf s4).toNat)
 case atStart=>exact⟨0,0,Nat.zero_le _,by omega,rfl,rfl,lh rfl,rfl⟩
 case round =>
  obtain⟨j,n,hj,hn,rfl,rfl,HR,rfl⟩:=hrel;by_cases hlt:j<s.size
  ·have hb:(tx s)[j]? = some (s[j]'hlt):=by rw[<- Qf];exact getElem?_pos s j hlt
   have hjx:(j:Int)<(s.size:Int):=by omega
   have HD:=lh (show (tx s).drop j=(s[j]'hlt) :: (tx s).drop (j+1) by
    obtain⟨hl,he⟩:=ge_.1 hb;rw[List.drop_eq_getElem_cons hl,he])
   clear hb;by_cases hc:(s[j]'hlt).toNat<48\/(s[j]'hlt).toNat > 57\/n > 99
   ·have HF:Hid (Sg.AV (tx s) = -1):=lh (by unfold Sg.AV;rw[HR.out,HD.out,Sg.JZ,if_pos hc]);by_cases h1:(s[j]'hlt).toNat<48
    ·have h1x:((s[j]'hlt).toNat:Int)<48:=by omega
     clear hc;go_wp2;go_ret;exact⟨by rw[HF.out];rfl,rfl⟩
    ·have h1x:¬ ((s[j]'hlt).toNat:Int)<48:=by omega
     by_cases h2:(s[j]'hlt).toNat > 57
     ·have h2x:((s[j]'hlt).toNat:Int) > 57:=by omega
      clear hc;go_wp2;go_ret;exact⟨by rw[HF.out];rfl,rfl⟩
     ·have h2x:¬ ((s[j]'hlt).toNat:Int) > 57:=by omega
      have h3x:(n:Int) > 99:=by omega
      clear hc;go_wp2;go_ret;exact⟨by rw[HF.out];rfl,rfl⟩
   ·have h1x:¬ ((s[j]'hlt).toNat:Int)<48:=by omega
    have h2x:¬ ((s[j]'hlt).toNat:Int) > 57:=by omega
    have h3x:¬ (n:Int) > 99:=by omega
    have HN:Hid (Sg.JZ 0 (tx s)=Sg.JZ (10 * n+((s[j]'hlt).toNat - 48)) ((tx s).drop (j+1))):=lh (by rw[HR.out,HD.out,Sg.JZ,if_neg hc]);have i1:IntKind.u8.wrap (((s[j]'hlt).toNat:Int) - 48)=((s[j]'hlt).toNat:Int) - 48:=IntWalk.u8_in _ (by omega);have i2:IntKind.i64.wrap (((s[j]'hlt).toNat:Int) - 48)=((s[j]'hlt).toNat:Int) - 48:=IntWalk.i64_in _ (by omega);have i3:IntKind.i64.wrap (10 * (n:Int))=10 * (n:Int):=IntWalk.i64_in _ (by omega);have i4:IntKind.i64.wrap (10 * (n:Int)+(((s[j]'hlt).toNat:Int) - 48))=10 * (n:Int)+(((s[j]'hlt).toNat:Int) - 48):=IntWalk.i64_in _ (by omega);clear hc;go_wp2;go_roundw
    case rel=>exact⟨j+1,10 * n+((s[j]'hlt).toNat - 48),by omega,by omega,by simp only[Value.int.injEq,true_and];omega,by go_num,HN,trivial⟩
    case measure=>simp[intOf];omega
  ·obtain rfl:j=s.size:=by omega
   have HN:Hid (Sg.JZ 0 (tx s)=some n):=lh (by rw[HR.out,List.drop_eq_nil_of_le (by rw[<- DU];exact Nat.le_refl _)];rfl);by_cases h0:tx s=[]
   ·have b0:(s.toList == [])=true:=by rw[C_];simp[h0]
    have HF:Hid (Sg.AV (tx s) = -1):=lh (by unfold Sg.AV;rw[HN.out];simp[h0]);clear h0;go_wp2;go_ret;exact⟨by rw[HF.out];rfl,rfl⟩
   ·have b0:(s.toList == [])=false:=by rw[C_];simp[h0]
    by_cases h1:tx s=Sg.BE n
    ·have b1:(s.toList == Sg.BE n)=true:=by rw[C_];simp[h1]
     have HF:Hid (Sg.AV (tx s)=n):=lh (by unfold Sg.AV;rw[HN.out];simp only;rw[if_neg (by rintro (h | h);exact h0 h;exact h h1)]);clear h0 h1;go_wp2_with fail
     refine(IC n (by omega) _).mono ?_;rintro e w4 ⟨rfl,rfl⟩;go_wp2;go_ret;exact⟨by rw[HF.out];rfl,rfl⟩
    ·have b1:(s.toList == Sg.BE n)=false:=by rw[C_];simp[h1]
     have HF:Hid (Sg.AV (tx s) = -1):=lh (by unfold Sg.AV;rw[HN.out];simp only;rw[if_pos (.inr h1)]);clear h0 h1;go_wp2_with fail
     refine(IC n (by omega) _).mono ?_;rintro e w4 ⟨rfl,rfl⟩;go_wp2;go_ret;exact⟨by rw[HF.out];rfl,rfl⟩
end Go.Proofs.YthibllkleakiiaaGreatDoor
namespace Sg
def Fe (s:AO):At:=if C9 s≠-1 then ⟨C9 s,-1,-1,-1,0⟩ else if s.head? = some 114 then ⟨1,-1,-1,-1,AV s.tail⟩ else ⟨0,-1,-1,-1,AV s⟩
theorem VU (s:AO):EF K9 s=if (Fe s).n<0 then none else some (Fe s):=by
 have key:∀ (k:Int) (t:AO),(K9 t).map (fun (n:Nat)=>(⟨k,-1,-1,-1,(n:Int)⟩:At))=if AV t<0 then none else some ⟨k,-1,-1,-1,AV t⟩:=by
  intro k t;unfold K9;rcases FV t with h | ⟨n,h,-⟩
  ·rw[h];rfl
  ·rw[h,if_neg (by omega),if_neg (by omega)];rfl
 unfold EF Fe;split
 ·rw[if_neg (by simp)]
 ·split
  ·exact key 1 s.tail
  ·exact key 0 s
theorem Rm {s:AO}(h:∀ k:Nat,2<=k->k<=8->s≠CM k):C9 s = -1:=by
 rcases EJ s with e | ⟨h2,h8,e⟩
 ·exact e
 ·exfalso
  generalize C9 s=k at *;obtain⟨m,rfl⟩:=Int.eq_ofNat_of_zero_le (show 0<=k by omega);exact h m (by omega) (by omega) e
theorem Rn {s:AO}{k:Nat}(h2:2<=k)(h8:k<=8)(h:s=CM k):Fe s=⟨k,-1,-1,-1,0⟩:=by
 have e:C9 s=k:=by rw[h];exact Fz (by omega) (by omega)
 unfold Fe;rw[e,if_pos (by omega)]
theorem Ro {s:AO}(h:C9 s = -1)(hh:s.head? = some 114):Fe s=⟨1,-1,-1,-1,AV s.tail⟩:=by
 unfold Fe;rw[h,if_neg (by simp),if_pos hh]
theorem TF {s:AO}(h:C9 s = -1)(hh:s.head? ≠ some 114):Fe s=⟨0,-1,-1,-1,AV s⟩:=by
 unfold Fe;rw[h,if_neg (by simp),if_neg hh]
end Sg
namespace Go.Proofs.YthibllkleakiiaaGreatDoor
open Go.RowKit
theorem zn1{p:Prop}(h:p:=by
 clear hh hne;go_upto_region 14 with fail
 generalize World.setCell wr ⟨w.heap.size+1,0,none⟩ (.int .i64 0)=wa at *;clear ca fa la C2 C3 E1;have cb:=D3a.out.cell (j:=4) rfl;have fb:=D3a.out.free 4;have lb:=D3a.out.lt;have D3b:=lh (D3a.out.set 4 (.int .i64 n));have D2b:=lh (D2a.out.oth (p:=⟨w.heap.size+1,4,none⟩) (by simp) (.int .i64 n));have EQb:=lh (EQa.out.set (p:=⟨w.heap.size+1,4,none⟩) (by simp) (.int .i64 n));go_wp2_with fail
 refine(HRN.out _).mono ?_;rintro e w4 ⟨rfl,rfl⟩;go_upto_region 15 with fail
 generalize World.setCell wa ⟨w.heap.size+1,4,none⟩ (.int .i64 n)=wq at *;have D3:=D3b;have D2:=D2b;have EQ:=EQb;clear cb fb lb D3b D2b EQb D2a D3a EQa;have x0:=D3.out.cell (j:=0) rfl;have x1:=D3.out.cell (j:=1) rfl;have x2:=D3.out.cell (j:=2) rfl;have x3:=D3.out.cell (j:=3) rfl;have x4:=D3.out.cell (j:=4) rfl;have y0:=D2.out.cell (j:=0) rfl;have y1:=D2.out.cell (j:=1) rfl;have y2:=D2.out.cell (j:=2) rfl;have y3:=D2.out.cell (j:=3) rfl;have y4:=D2.out.cell (j:=4) rfl;have g0:=D2.out.free 0;have g1:=D2.out.free 1;have g2:=D2.out.free 2;have g3:=D2.out.free 3;have g4:=D2.out.free 4;have l2:=D2.out.lt;have l3:=D3.out.lt;go_wp2;have s0:∀ u0:Value,World.cell? (World.setCell wq ⟨w.heap.size,0,none⟩ u0) ⟨w.heap.size,0,none⟩=some u0:=fun u0=>(D2.out.set 0 u0).cell (j:=0) rfl;have s1:∀ u0 u1:Value,World.cell? (World.setCell (World.setCell wq ⟨w.heap.size,0,none⟩ u0) ⟨w.heap.size,1,none⟩ u1) ⟨w.heap.size,1,none⟩=some u1:=fun u0 u1=>((D2.out.set 0 u0).set 1 u1).cell (j:=1) rfl;have s2:∀ u0 u1 u2:Value,World.cell? (World.setCell (World.setCell (World.setCell wq ⟨w.heap.size,0,none⟩ u0) ⟨w.heap.size,1,none⟩ u1) ⟨w.heap.size,2,none⟩ u2) ⟨w.heap.size,2,none⟩=some u2:=fun u0 u1 u2=>(((D2.out.set 0 u0).set 1 u1).set 2 u2).cell (j:=2) rfl;have s3:∀ u0 u1 u2 u3:Value,World.cell? (World.setCell (World.setCell (World.setCell (World.setCell wq ⟨w.heap.size,0,none⟩ u0) ⟨w.heap.size,1,none⟩ u1) ⟨w.heap.size,2,none⟩ u2) ⟨w.heap.size,3,none⟩ u3) ⟨w.heap.size,3,none⟩=some u3:=fun u0 u1 u2 u3=>((((D2.out.set 0 u0).set 1 u1).set 2 u2).set 3 u3).cell (j:=3) rfl;have s4:∀ u0 u1 u2 u3 u4:Value,World.cell? (World.setCell (World.setCell (World.setCell (World.setCell (World.setCell wq ⟨w.heap.size,0,none⟩ u0) ⟨w.heap.size,1,none⟩ u1) ⟨w.heap.size,2,none⟩ u2) ⟨w.heap.size,3,none⟩ u3) ⟨w.heap.size,4,none⟩ u4) ⟨w.heap.size,4,none⟩=some u4:=fun u0 u1 u2 u3 u4=>(((((D2.out.set 0 u0).set 1 u1).set 2 u2).set 3 u3).set 4 u4).cell (j:=4) rfl;refine bodyPost_ret (v:=pv ⟨0,-1,-1,-1,n⟩) (by simp[results,Tryz.results68,go_sem,s0,s1,s2,s3,s4];try rfl) rfl ?_;exact⟨by rw[HQ.out],(Aa.set (Aa.set (Aa.set (Aa.set (Aa.set EQ.out (p:=⟨w.heap.size,0,none⟩) (Nat.le_refl _) (.int .i64 0)) (p:=⟨w.heap.size,1,none⟩) (Nat.le_refl _) (.int .i64 (-1))) (p:=⟨w.heap.size,2,none⟩) (Nat.le_refl _) (.int .i64 (-1))) (p:=⟨w.heap.size,3,none⟩) (Nat.le_refl _) (.int .i64 (-1))) (p:=⟨w.heap.size,4,none⟩) (Nat.le_refl _) (.int .i64 n))⟩):p:=h
set_option maxRecDepth 100000 in
set_option maxHeartbeats 4000000 in
theorem Sk (s:ByteArray)(w:World)(hs:s.size<=2000000) :
  Calls Tryz.prog 68 #[.string s] w fun e w'=>e= .returned (pv (Sg.Fe (tx s)))/\Aa w w':=by
 have B2:=lh (show Bx (World.alloc (World.alloc w (.cells #[.int .i64 0,.int .i64 0,.int .i64 0,.int .i64 0,.int .i64 0] 111)) (.cells #[.int .i64 (-1),.int .i64 (-1),.int .i64 (-1),.int .i64 (-1),.int .i64 0] 111)) w.heap.size [.int .i64 0,.int .i64 0,.int .i64 0,.int .i64 0,.int .i64 0] by
  have:=(Bx.new w #[.int .i64 0,.int .i64 0,.int .i64 0,.int .i64 0,.int .i64 0] 111).al (.cells #[.int .i64 (-1),.int .i64 (-1),.int .i64 (-1),.int .i64 (-1),.int .i64 0] 111);simpa using this)
 have B3:=lh (show Bx (World.alloc (World.alloc w (.cells #[.int .i64 0,.int .i64 0,.int .i64 0,.int .i64 0,.int .i64 0] 111)) (.cells #[.int .i64 (-1),.int .i64 (-1),.int .i64 (-1),.int .i64 (-1),.int .i64 0] 111)) (w.heap.size+1) [.int .i64 (-1),.int .i64 (-1),.int .i64 (-1),.int .i64 (-1),.int .i64 0] by
  have:=Bx.new (World.alloc w (.cells #[.int .i64 0,.int .i64 0,.int .i64 0,.int .i64 0,.int .i64 0] 111)) #[.int .i64 (-1),.int .i64 (-1),.int .i64 (-1),.int .i64 (-1),.int .i64 0] 111;simpa[go_sem] using this)
 have E0:=lh (((Aa.rfl' w).al (.cells #[.int .i64 0,.int .i64 0,.int .i64 0,.int .i64 0,.int .i64 0] 111)).al (.cells #[.int .i64 (-1),.int .i64 (-1),.int .i64 (-1),.int .i64 (-1),.int .i64 0] 111));go_enter Tryz.func68,Tryz.ntmps68;go_wp2_with fail
 refine(Lv _).mono ?_;rintro e wp ⟨bw,rfl,hw,he⟩;have HW:=lh hw;have E1:=lh (E0.out.tr he);have C2:=lh (B2.out.ext he);have C3:=lh (B3.out.ext he);clear hw he E0 B2 B3;go_wp2_with fail
 go_loopw [5] (fun s5 wr=>∃ k:Nat,2<=k/\k<=9/\s5= .int .i64 k/\Hid (∀ m:Nat,2<=m->m<k->tx s≠Sg.CM m)/\wr=wp) (fun s5 _=>9 - (intOf s5).toNat)
 case atStart=>exact⟨2,Nat.le_refl _,by omega,rfl,lh (fun m h h'=>by omega),rfl⟩
 case round =>
  obtain⟨k,hk2,hk9,rfl,HN,rfl⟩:=hrel;by_cases hlt:k<9
  ·have hw:=HW.out k hk2 (by omega);have bhw:=AA hw;have hkx:(k:Int)<9:=by omega
   by_cases hm:tx s=Sg.CM k
   ·have bm:(Sg.CM k == s.toList)=true:=by rw[Bool.beq_comm,C_];simp[hm]
    have HQ:=lh (Sg.Rn hk2 (by omega) hm);clear hm;have ca:=C3.out.cell (j:=0) rfl;have fa:=C3.out.free 0;have la:=C3.out.lt;have D3a:=lh (C3.out.set 0 (.int .i64 (k:Int)));have D2a:=lh (C2.out.oth (p:=⟨w.heap.size+1,0,none⟩) (by simp) (.int .i64 (k:Int)));have EQa:=lh (E1.out.set (p:=⟨w.heap.size+1,0,none⟩) (by simp) (.int .i64 (k:Int)));go_upto_region 8 with fail
    generalize World.setCell wr ⟨w.heap.size+1,0,none⟩ (.int .i64 (k:Int))=wq at *;have D3:=D3a;have D2:=D2a;have EQ:=EQa;clear ca fa la D3a D2a EQa C2 C3 E1 hw bhw;have x0:=D3.out.cell (j:=0) rfl;have x1:=D3.out.cell (j:=1) rfl;have x2:=D3.out.cell (j:=2) rfl;have x3:=D3.out.cell (j:=3) rfl;have x4:=D3.out.cell (j:=4) rfl;have y0:=D2.out.cell (j:=0) rfl;have y1:=D2.out.cell (j:=1) rfl;have y2:=D2.out.cell (j:=2) rfl;have y3:=D2.out.cell (j:=3) rfl;have y4:=D2.out.cell (j:=4) rfl;have g0:=D2.out.free 0;have g1:=D2.out.free 1;have g2:=D2.out.free 2;have g3:=D2.out.free 3;have g4:=D2.out.free 4;have l2:=D2.out.lt;have l3:=D3.out.lt;go_wp2;have s0:∀ u0:Value,World.cell? (World.setCell wq ⟨w.heap.size,0,none⟩ u0) ⟨w.heap.size,0,none⟩=some u0:=fun u0=>(D2.out.set 0 u0).cell (j:=0) rfl;have s1:∀ u0 u1:Value,World.cell? (World.setCell (World.setCell wq ⟨w.heap.size,0,none⟩ u0) ⟨w.heap.size,1,none⟩ u1) ⟨w.heap.size,1,none⟩=some u1:=fun u0 u1=>((D2.out.set 0 u0).set 1 u1).cell (j:=1) rfl;have s2:∀ u0 u1 u2:Value,World.cell? (World.setCell (World.setCell (World.setCell wq ⟨w.heap.size,0,none⟩ u0) ⟨w.heap.size,1,none⟩ u1) ⟨w.heap.size,2,none⟩ u2) ⟨w.heap.size,2,none⟩=some u2:=fun u0 u1 u2=>(((D2.out.set 0 u0).set 1 u1).set 2 u2).cell (j:=2) rfl;have s3:∀ u0 u1 u2 u3:Value,World.cell? (World.setCell (World.setCell (World.setCell (World.setCell wq ⟨w.heap.size,0,none⟩ u0) ⟨w.heap.size,1,none⟩ u1) ⟨w.heap.size,2,none⟩ u2) ⟨w.heap.size,3,none⟩ u3) ⟨w.heap.size,3,none⟩=some u3:=fun u0 u1 u2 u3=>((((D2.out.set 0 u0).set 1 u1).set 2 u2).set 3 u3).cell (j:=3) rfl;have s4:∀ u0 u1 u2 u3 u4:Value,World.cell? (World.setCell (World.setCell (World.setCell (World.setCell (World.setCell wq ⟨w.heap.size,0,none⟩ u0) ⟨w.heap.size,1,none⟩ u1) ⟨w.heap.size,2,none⟩ u2) ⟨w.heap.size,3,none⟩ u3) ⟨w.heap.size,4,none⟩ u4) ⟨w.heap.size,4,none⟩=some u4:=fun u0 u1 u2 u3 u4=>(((((D2.out.set 0 u0).set 1 u1).set 2 u2).set 3 u3).set 4 u4).cell (j:=4) rfl;refine bodyPost_ret (v:=pv ⟨(k:Int),-1,-1,-1,0⟩) (by simp[results,Tryz.results68,go_sem,s0,s1,s2,s3,s4];try rfl) rfl ?_;exact⟨by rw[HQ.out],(Aa.set (Aa.set (Aa.set (Aa.set (Aa.set EQ.out (p:=⟨w.heap.size,0,none⟩) (Nat.le_refl _) (.int .i64 (k:Int))) (p:=⟨w.heap.size,1,none⟩) (Nat.le_refl _) (.int .i64 (-1))) (p:=⟨w.heap.size,2,none⟩) (Nat.le_refl _) (.int .i64 (-1))) (p:=⟨w.heap.size,3,none⟩) (Nat.le_refl _) (.int .i64 (-1))) (p:=⟨w.heap.size,4,none⟩) (Nat.le_refl _) (.int .i64 0))⟩
   ·have bm:(Sg.CM k == s.toList)=false:=by rw[Bool.beq_comm,C_];simp[hm]
    have HM:=lh (show ∀ m:Nat,2<=m->m<k+1->tx s≠Sg.CM m from fun m h h'=>by by_cases e:m=k;rw[e];exact hm;exact HN.out m h (by omega));clear hm;go_wp2;go_roundw
    case rel=>exact⟨k+1,by omega,by omega,by go_num,HM,trivial⟩
    case measure=>simp[intOf];omega
  ·obtain rfl:k=9:=by omega
   have HK:=lh (Sg.Rm fun m h h'=>HN.out m h (by omega));clear HN HW;by_cases hh:(tx s).head? = some 114
   ·have hne:tx s≠[]:=fun e=>by rw[e] at hh;cases hh
    have h0:0<s.size:=by rw[DU];exact List.length_pos_iff.2 hne
    have b0:(s.toList == [])=false:=by rw[C_];simp[hne]
    have hb:s[0]'h0=114:=by
     have:=Qf s 0;rw[getElem?_pos s 0 h0,<- List.head?_eq_getElem?,hh] at this;exact Option.some.inj this
    have b1:(((s[0]'h0).toNat:Int) == 114)=true:=by rw[hb];rfl
    have h1x:(1:Int)<=(s.size:Int):=by omega
    have HT:Hid (tx (s.extract 1 s.size)=(tx s).tail):=lh (by rw[OQ,List.take_of_length_le (by rw[List.length_drop,<- DU];omega),List.drop_one]);have hse:(s.extract 1 s.size).size<=2000000:=by rw[ByteArray.size_extract];omega
    have HQ:=lh (Sg.Ro HK.out hh);have HRN:=lh fun w'=>D9 (s.extract 1 s.size) w' hse;rw[HT.out] at HRN;clear hh hb hne;have ca:=C3.out.cell (j:=0) rfl;have fa:=C3.out.free 0;have la:=C3.out.lt;have D3a:=lh (C3.out.set 0 (.int .i64 1));have D2a:=lh (C2.out.oth (p:=⟨w.heap.size+1,0,none⟩) (by simp) (.int .i64 1));have EQa:=lh (E1.out.set (p:=⟨w.heap.size+1,0,none⟩) (by simp) (.int .i64 1));generalize Sg.AV (tx s).tail=n at *;go_upto_region 11 with fail
    generalize World.setCell wr ⟨w.heap.size+1,0,none⟩ (.int .i64 1)=wa at *;clear ca fa la C2 C3 E1;have cb:=D3a.out.cell (j:=4) rfl;have fb:=D3a.out.free 4;have lb:=D3a.out.lt;have D3b:=lh (D3a.out.set 4 (.int .i64 n));have D2b:=lh (D2a.out.oth (p:=⟨w.heap.size+1,4,none⟩) (by simp) (.int .i64 n));have EQb:=lh (EQa.out.set (p:=⟨w.heap.size+1,4,none⟩) (by simp) (.int .i64 n));go_wp2_with fail
    refine(HRN.out _).mono ?_;rintro e w4 ⟨rfl,rfl⟩;go_upto_region 12 with fail
    generalize World.setCell wa ⟨w.heap.size+1,4,none⟩ (.int .i64 n)=wq at *;have D3:=D3b;have D2:=D2b;have EQ:=EQb;clear cb fb lb D3b D2b EQb D2a D3a EQa;have x0:=D3.out.cell (j:=0) rfl;have x1:=D3.out.cell (j:=1) rfl;have x2:=D3.out.cell (j:=2) rfl;have x3:=D3.out.cell (j:=3) rfl;have x4:=D3.out.cell (j:=4) rfl;have y0:=D2.out.cell (j:=0) rfl;have y1:=D2.out.cell (j:=1) rfl;have y2:=D2.out.cell (j:=2) rfl;have y3:=D2.out.cell (j:=3) rfl;have y4:=D2.out.cell (j:=4) rfl;have g0:=D2.out.free 0;have g1:=D2.out.free 1;have g2:=D2.out.free 2;have g3:=D2.out.free 3;have g4:=D2.out.free 4;have l2:=D2.out.lt;have l3:=D3.out.lt;go_wp2;have s0:∀ u0:Value,World.cell? (World.setCell wq ⟨w.heap.size,0,none⟩ u0) ⟨w.heap.size,0,none⟩=some u0:=fun u0=>(D2.out.set 0 u0).cell (j:=0) rfl;have s1:∀ u0 u1:Value,World.cell? (World.setCell (World.setCell wq ⟨w.heap.size,0,none⟩ u0) ⟨w.heap.size,1,none⟩ u1) ⟨w.heap.size,1,none⟩=some u1:=fun u0 u1=>((D2.out.set 0 u0).set 1 u1).cell (j:=1) rfl;have s2:∀ u0 u1 u2:Value,World.cell? (World.setCell (World.setCell (World.setCell wq ⟨w.heap.size,0,none⟩ u0) ⟨w.heap.size,1,none⟩ u1) ⟨w.heap.size,2,none⟩ u2) ⟨w.heap.size,2,none⟩=some u2:=fun u0 u1 u2=>(((D2.out.set 0 u0).set 1 u1).set 2 u2).cell (j:=2) rfl;have s3:∀ u0 u1 u2 u3:Value,World.cell? (World.setCell (World.setCell (World.setCell (World.setCell wq ⟨w.heap.size,0,none⟩ u0) ⟨w.heap.size,1,none⟩ u1) ⟨w.heap.size,2,none⟩ u2) ⟨w.heap.size,3,none⟩ u3) ⟨w.heap.size,3,none⟩=some u3:=fun u0 u1 u2 u3=>((((D2.out.set 0 u0).set 1 u1).set 2 u2).set 3 u3).cell (j:=3) rfl;have s4:∀ u0 u1 u2 u3 u4:Value,World.cell? (World.setCell (World.setCell (World.setCell (World.setCell (World.setCell wq ⟨w.heap.size,0,none⟩ u0) ⟨w.heap.size,1,none⟩ u1) ⟨w.heap.size,2,none⟩ u2) ⟨w.heap.size,3,none⟩ u3) ⟨w.heap.size,4,none⟩ u4) ⟨w.heap.size,4,none⟩=some u4:=fun u0 u1 u2 u3 u4=>(((((D2.out.set 0 u0).set 1 u1).set 2 u2).set 3 u3).set 4 u4).cell (j:=4) rfl;refine bodyPost_ret (v:=pv ⟨1,-1,-1,-1,n⟩) (by simp[results,Tryz.results68,go_sem,s0,s1,s2,s3,s4];try rfl) rfl ?_;exact⟨by rw[HQ.out],(Aa.set (Aa.set (Aa.set (Aa.set (Aa.set EQ.out (p:=⟨w.heap.size,0,none⟩) (Nat.le_refl _) (.int .i64 1)) (p:=⟨w.heap.size,1,none⟩) (Nat.le_refl _) (.int .i64 (-1))) (p:=⟨w.heap.size,2,none⟩) (Nat.le_refl _) (.int .i64 (-1))) (p:=⟨w.heap.size,3,none⟩) (Nat.le_refl _) (.int .i64 (-1))) (p:=⟨w.heap.size,4,none⟩) (Nat.le_refl _) (.int .i64 n))⟩
   ·have HQ:=lh (Sg.TF HK.out hh);have HRN:=lh fun w'=>D9 s w' hs;have ca:=C3.out.cell (j:=0) rfl;have fa:=C3.out.free 0;have la:=C3.out.lt;have D3a:=lh (C3.out.set 0 (.int .i64 0));have D2a:=lh (C2.out.oth (p:=⟨w.heap.size+1,0,none⟩) (by simp) (.int .i64 0));have EQa:=lh (E1.out.set (p:=⟨w.heap.size+1,0,none⟩) (by simp) (.int .i64 0));generalize Sg.AV (tx s)=n at *;by_cases hne:tx s=[]
    ·have b0:(s.toList == [])=true:=by rw[C_];simp[hne]
     exact zn1
    ·have b0:(s.toList == [])=false:=by rw[C_];simp[hne]
     have h0:0<s.size:=by rw[DU];exact List.length_pos_iff.2 hne
     have b1:(((s[0]'h0).toNat:Int) == 114)=false:=by
      rw[beq_eq_false_iff_ne];intro e;apply hh;rw[List.head?_eq_getElem?,<- Qf,getElem?_pos s 0 h0];exact congrArg some (UInt8.toNat_inj.1 (show (s[0]'h0).toNat=(114:UInt8).toNat from by have e2:(114:UInt8).toNat=114:=rfl;omega))
     exact zn1
end Go.Proofs.YthibllkleakiiaaGreatDoor
