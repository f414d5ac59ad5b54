/- Parts of one proof, joined. The program's FormatGraph, in memory: its contract. Conditions: the program's variables as they were laid (Gl). -/
import Derived.Test.YthibllkleakiiaaGreatDoorShelf
import Derived.Test.YthibllkleakiiaaGreatDoorTxD
import Derived.Test.YthibllkleakiiaaGreatDoorTxE
import Derived.Lib.AtoiErrMem
import Derived.Lib.SlicesS
import Derived.Test.YthibllkleakiiaaGreatDoorImplA1
import Derived.Test.YthibllkleakiiaaGreatDoorTxG
namespace Go.Proofs.YthibllkleakiiaaGreatDoor
open Go.RowKit
structure Gl (w:World):Prop where
 words:∃ b o c,w.cell? ⟨0,0,none⟩=some (.slice (some ⟨b,o,none⟩) 7 c)/\∀ k:Nat,k<7->w.cell? ⟨b,o+k,none⟩=some (.string (ts (Sg.CE ((k:Int)+2))))
 tab:Lib.TabIs Tryz.prog w "internal/strconv.uint64pow10" .u64 Lib.pow10Tab
theorem Le {w w':World}(e:Aa w w'){name:String}{cs:Array Value}(h:w.var? Tryz.prog name=some cs):w'.var? Tryz.prog name=some cs:=by
 unfold World.var? at h ⊢
 cases hg:Tryz.prog.globalNamed name with
 | none=>rw[hg] at h;cases h
 | some g =>
  rw[hg] at h
  simp only[Option.bind_some] at h ⊢
  rw[e.block g ?_]
  ·exact h
  ·rcases Nat.lt_or_ge g w.heap.size with h' | h'
   ·exact h'
   ·rw[Array.getElem?_eq_none h'] at h;cases h
theorem Gl.ext {w w':World}(h:Gl w)(e:Aa w w'):Gl w':=by
 obtain⟨⟨b,o,c,h1,h2⟩,ht⟩:=h
 exact⟨⟨b,o,c,e.cellE h1,fun k hk=>e.cellE (h2 k hk)⟩,Le e ht⟩
theorem NR (n:Nat)(h:n<=999)(w:World)(hg:Gl w):Calls Tryz.prog 80 #[.int .i64 (n:Int)] w fun e w'=>e= .returned (.string (ts (Sg.BB n)))/\Aa w w':=by
 refine(Tryz.strconv_Itoa (n:Int) (by omega) (by omega) w hg.tab).mono ?_
 rintro e w' ⟨rfl,k,os,rfl⟩
 rw[Sg.Ht]
 exact⟨rfl,rfl,rfl,rfl,by simp[Go.Sort.grow,World.drewN],fun b hb=>Array.getElem?_append_left hb⟩
theorem Ri (l:Sg.AR):ts (114 :: l)=ts [114]++ts l:=by rw[D7];rfl
def Ix (l:List Sg.At)(j:Nat):List ByteArray:=(l.take j).map fun p=>ts (Sg.CB p)
theorem NZ {l:List Sg.At}{j:Nat}{p:Sg.At}(h:l[j]? = some p):Ix l (j+1)=Ix l j++[ts (Sg.CB p)]:=by
 unfold Ix
 rw[List.take_add_one,h,List.map_append]
 rfl
theorem K0 (l:List Sg.At):(Ix l l.length).map (·.data.toList)=l.map Sg.CB:=by
 unfold Ix
 rw[List.take_length,List.map_map]
 rfl
theorem Up (A:Option Addr)(n c:Nat)(xs:List ByteArray)(w:World){B:Nat}(h:AA w B 9 1 A n c (BE xs))(hn:n<=1000)(hl:(Sg.DG 32 (xs.map (·.data.toList))).length<=100000) :
  Calls Tryz.prog 91 #[.slice A n c,.string ⟨#[32]⟩] w fun e w'=>e= .returned (.string (ts (Sg.DG 32 (xs.map (·.data.toList)))))/\Aa w w':=by
 have hxn:xs.length=n:=by have:=h.rd.lenT;exact this
 by_cases h0:n=0
 ·subst h0
  obtain rfl:xs=[]:=List.length_eq_zero_iff.1 hxn
  refine(Tryz.strings_Join_none A c ⟨#[32]⟩ w).mono ?_
  rintro e w' ⟨rfl,rfl⟩
  exact⟨rfl,Aa.rfl' _⟩
 ·obtain⟨g,rfl,hg⟩:=h.at_ (by omega)
  have hc:∀ (j:Nat) x,xs[j]? = some x->w.cell? ⟨g,0+j,none⟩=some (.string x):=fun j x hx=>by
   rw[Nat.zero_add];exact h.cell (by rw[NV,hx];rfl)
  subst hxn
  refine(Tryz.strings_Join g 0 c xs ⟨#[32]⟩ w hc (h.lt rfl).2 (by omega) h.2.1 (by unfold Sg.DG at hl;exact Nat.le_trans hl (by decide))).mono ?_
  rintro e w' ⟨rfl,he⟩
  exact⟨rfl,he⟩
set_option maxRecDepth 100000 in
set_option maxHeartbeats 2000000 in
theorem IB (A:Option Addr)(c:Nat)(f:List Sg.At)(w:World)(hG:Gl w)(h:Rd w 5 A f.length (AL f))(hb:f.length<=1048576) :
  Calls Tryz.prog 84 #[.agg #[.slice A f.length c]] w fun e w'=>e= .returned (.string (ts (Sg.FM f)))/\Aa w w':=by
 have HO:=lh fun w' (e:Aa w w')=>J7 A c f w' (h.ext e) hb
 have HG:=lh hG
 have hok:∀ p ∈ Sg.BY f,Sg.WD p:=by
  by_cases hv:Sg.AU f=true
  ·exact Sg.Ov hv
  ·intro p hp;unfold Sg.BY at hp;rw[if_neg hv] at hp;cases hp
 have hol:(Sg.BY f).length<=12:=by
  by_cases hv:Sg.AU f=true
  ·rw[Sg.Km hv];exact(Sg.Cn hv).2
  ·unfold Sg.BY;rw[if_neg hv];simp
 have HOK:=lh hok
 have HF:Hid (Sg.FM f=Sg.DG 32 ((Sg.BY f).map Sg.CB)):=lh (by
  by_cases hv:Sg.AU f=true
  ·unfold Sg.FM;rw[if_pos hv]
  ·unfold Sg.FM Sg.BY;rw[if_neg hv,if_neg hv];rfl)
 have HL:=lh (Sg.LF f)
 clear h hG hok
 generalize Sg.BY f=l at *
 go_enter Tryz.func84,Tryz.ntmps84
 go_wp2_with fail
 refine(HO.out _ ((Aa.rfl' w).al _)).mono ?_
 rintro e w2 ⟨A1,rfl,he,hown⟩
 have EW:=lh (((Aa.rfl' w).al _).tr he)
 have HR2:=lh hown.rd
 have HG2:=lh (HG.out.ext EW.out)
 clear he hown HG
 have hfd:=fun w=>Xp A1 l.length l.length w
 go_wp2_with fail
 clear hfd
 go_loopw [3,10] (fun s3 s10 wr=>∃ (j:Nat) (A3:Option Addr) (c3:Nat),j<=l.length/\s3= .slice A3 j c3/\s10= .int .i64 j/\Hid (Aa w2 wr)/\Hid (AA wr w2.heap.size 9 1 A3 j c3 (BE (Ix l j)))) (fun _ s10 _=>l.length - (intOf s10).toNat)
 case atStart=>exact⟨0,none,0,Nat.zero_le _,rfl,rfl,lh (Aa.rfl' _),lh (AA.nil _ _ _ _)⟩
 case round =>
  obtain⟨j,A3,c3,hj,rfl,rfl,E,OW⟩:=hrel
  by_cases hlt:j<l.length
  ·obtain⟨b,o,p,hAe,hp,h0,h1,h2,h3,h4⟩   := (HR2.out.ext E.out).atP hlt
   subst hAe
   have bh0:=Au h0
   have bh1:=Au h1
   have bh2:=Au h2
   have bh3:=Au h3
   have bh4:=Au h4
   have hjx:(j:Int)<(l.length:Int):=by omega
   have hsz:=E.out.size
   have hpo:=HOK.out p (List.mem_of_getElem? hp)
   have WS:=lh (NZ hp)
   have hpl:=Sg.MO hpo
   clear hp
   obtain⟨pk,pa,pb,pc,pn⟩:=p
   dsimp only [Sg.WD] at *
   rcases hpo with ⟨rfl | rfl,hn0,hn9⟩ | ⟨hk2,hk8⟩
   ·obtain⟨n,rfl⟩:=Int.eq_ofNat_of_zero_le hn0
    go_wp2_with fail
    refine(NR n (by omega) _ (HG2.out.ext (E.out.al _))).mono ?_
    rintro e w4 ⟨rfl,he4⟩
    have E4:=lh ((E.out.al _).tr he4)
    have OW4:=lh ((OW.out.al _).ext he4)
    clear he4 h0 h1 h2 h3 h4 bh0 bh1 bh2 bh3 bh4 E OW
    have hsz4:=E4.out.size
    go_wp2_with (at_builtin;refine AF (cs:=[.string (ts (Sg.BB n))]) rfl rfl L2 rfl OW4.out rfl rfl (Jd _) (by omega) (by omega) (by omega) ?_;intro A5 c5 w9 hown2 hg2 hat2)
    go_roundw
    case rel=>exact⟨j+1,A5,c5,by omega,rfl,by go_num,lh (E4.out.gr hg2 fun x hx=>(OW4.out.lt hx).1),lh (by rw[WS.out,<- Gj];rw[Sg.Ki];exact hown2)⟩
    case measure=>simp[intOf];omega
   ·obtain⟨n,rfl⟩:=Int.eq_ofNat_of_zero_le hn0
    go_wp2_with fail
    refine(NR n (by omega) _ (HG2.out.ext (E.out.al _))).mono ?_
    rintro e w4 ⟨rfl,he4⟩
    have E4:=lh ((E.out.al _).tr he4)
    have OW4:=lh ((OW.out.al _).ext he4)
    clear he4 h0 h1 h2 h3 h4 bh0 bh1 bh2 bh3 bh4 E OW
    have hsp:=Fp (a:=[114]) (b:=Sg.BB n) (by have:=Sg.Ib (n:=n) (by omega);simp;omega)
    have hsz4:=E4.out.size
    go_wp2_with (at_builtin;refine AF (cs:=[.string (ts [114]++ts (Sg.BB n))]) rfl rfl L2 rfl OW4.out rfl rfl (Jd _) (by omega) (by omega) (by omega) ?_;intro A5 c5 w9 hown2 hg2 hat2)
    go_roundw
    case rel=>exact⟨j+1,A5,c5,by omega,rfl,by go_num,lh (E4.out.gr hg2 fun x hx=>(OW4.out.lt hx).1),lh (by rw[WS.out,<- Gj];rw[Sg.Jw,Ri];exact hown2)⟩
    case measure=>simp[intOf];omega
   ·obtain⟨k,rfl⟩:∃ k:Nat,pk=(k:Int)+2:=⟨(pk - 2).toNat,by omega⟩
    have hk7:k<7:=by omega
    have hne0:((k:Int)+2 == 0)=false:=by simp;omega
    have hne1:((k:Int)+2 == 1)=false:=by simp;omega
    have ik:IntKind.i64.wrap ((k:Int)+2 - 2)=(k:Int):=by rw[IntWalk.i64_in _ (by omega)];omega
    obtain⟨⟨bw,ow,cw,g0,g1⟩,-⟩:=HG2.out.ext E.out
    have gk:=g1 k hk7
    have bg0:=Au g0
    have bgk:=Au gk
    have hkx:(k:Int)<7:=by omega
    clear g1
    have E4:=lh (E.out.al (.cells #[.int .i64 ((k:Int)+2),.int .i64 pa,.int .i64 pb,.int .i64 pc,.int .i64 pn] 111))
    have OW4:=lh (OW.out.al (.cells #[.int .i64 ((k:Int)+2),.int .i64 pa,.int .i64 pb,.int .i64 pc,.int .i64 pn] 111))
    have hsz4:=E4.out.size
    go_wp2_with (at_builtin;refine J0 (g:=wr.heap.size+1) (cs:=[.string (ts (Sg.CE ((k:Int)+2)))]) rfl rfl L2 rfl OW4.out rfl (by simp[go_sem]) rfl (Jd _) (by omega) (by omega) (by omega) ?_;intro A5 c5 w9 hown2 hg2 hat2)
    go_roundw
    case rel=>exact⟨j+1,A5,c5,by omega,rfl,by go_num,lh (E4.out.gr hg2 fun x hx=>(OW4.out.lt hx).1),lh (by rw[WS.out,<- Gj];rw[Sg.Gv (by omega)];exact hown2)⟩
    case measure=>simp[intOf];omega
  ·obtain rfl:j=l.length:=by omega
   have HJ:=lh fun w' (hO:AA w' w2.heap.size 9 1 A3 l.length c3 (BE (Ix l l.length)))=>Up A3 l.length c3 _ w' hO (by omega) (by rw[K0,<- HF.out];have:=HL.out;omega)
   go_wp2_with fail
   refine(HJ.out _ OW.out).mono ?_
   rintro e w3 ⟨rfl,he3⟩
   go_wp2
   go_ret
   exact⟨by rw[HF.out,<- K0];rfl,(EW.out.tr E.out).tr he3⟩
open Go.RowKit
structure Ge (w:World):Prop where
 gl:Gl w
 max:∃ m,w.cell? ⟨1,0,none⟩=some (.int .i64 m)
 es:∃ tp p,w.var? Tryz.prog "strconv.ErrSyntax"=some #[.iface tp p]
 er:∃ tp p,w.var? Tryz.prog "strconv.ErrRange"=some #[.iface tp p]
theorem Ge.ext {w w':World}(h:Ge w)(e:Aa w w'):Ge w':=by
 obtain⟨hg,⟨m,hm⟩,⟨t1,p1,h1⟩,⟨t2,p2,h2⟩⟩:=h
 exact⟨hg.ext e,⟨m,e.cellE hm⟩,⟨t1,p1,Le e h1⟩,⟨t2,p2,Le e h2⟩⟩
theorem Xe (s:ByteArray)(hlim:s.size<=281474976710656)(h:Lib.atoiAll s.data.toList=Lib.atoiAll [])(tp:TypeId)(p:Value)(w:World)(hvar:w.var? Tryz.prog "strconv.ErrSyntax"=some #[.iface tp p]) :
  Calls Tryz.prog 79 #[.string s] w fun e w'=>∃ N,e= .returned (.tuple #[.int .i64 0,.iface 176 (.pointer (some ⟨N,0,none⟩))])/\Below w.heap.size w w' :=
 (Any.strconv_Atoi_syntax_var Tryz.laysC172 s hlim h tp p w hvar).mono fun _ _ ⟨N,h1,_,_,h2⟩=>⟨N,h1,h2⟩
theorem Wc (s:ByteArray)(hs:s.size<=2100000)(w:World)(hG:Ge w):Calls Tryz.prog 79 #[.string s] w fun e w'=>∃ (n:Int) (er:Value),e= .returned (.tuple #[.int .i64 n,er])/\Aa w w' /\
  ((er= .nilIface/\Lib.atoiAll (tx s)= .ok n)\/((∃ N,er= .iface 176 (.pointer (some ⟨N,0,none⟩)))/\∀ v,Lib.atoiAll (tx s)≠.ok v)):=by
 obtain⟨_,_,⟨t1,p1,h1⟩,⟨t2,p2,h2⟩⟩:=hG
 cases h:Lib.atoiAll (tx s)
 ·rename_i v
  refine(Tryz.strconv_Atoi_ok s (by omega) v h w).mono ?_
  rintro e w' ⟨rfl,hw⟩
  refine⟨v,.nilIface,rfl,?_,.inl ⟨rfl,rfl⟩⟩
  rcases hw with rfl | ⟨t,rfl⟩
  ·exact Aa.rfl' _
  ·exact Lib.bytesWorld_below w _ t
 ·refine(Xe s (by omega) h t1 p1 w h1).mono ?_
  rintro e w' ⟨N,rfl,he⟩
  exact⟨0,_,rfl,he,.inr ⟨⟨N,rfl⟩,fun v e=>by cases e⟩⟩
 ·refine(Tryz.strconv_Atoi_range_var s (by omega) h t2 p2 w h2).mono ?_
  rintro e w' ⟨N,rfl,_,_,he⟩
  exact⟨_,_,rfl,he,.inr ⟨⟨N,rfl⟩,fun v e=>by cases e⟩⟩
theorem Vb (n:Nat)(h:(n:Int)<=9223372036854775807)(w:World)(hg:Gl w):Calls Tryz.prog 80 #[.int .i64 (n:Int)] w fun e w'=>e= .returned (.string (ts (Sg.BB n)))/\Aa w w':=by
 refine(Tryz.strconv_Itoa (n:Int) (by omega) h w hg.tab).mono ?_
 rintro e w' ⟨rfl,k,os,rfl⟩
 rw[Sg.Ht]
 exact⟨rfl,rfl,rfl,rfl,by simp[Go.Sort.grow,World.drewN],fun b hb=>Array.getElem?_append_left hb⟩
set_option maxRecDepth 100000 in
set_option maxHeartbeats 2000000 in
theorem Jc (s:ByteArray)(hs:s.size<=2100000)(w:World)(hG:Ge w):Calls Tryz.prog 43 #[.string s] w fun e w'=>∃ (n:Int) (ok:Bool),e= .returned (.tuple #[.int .i64 n,.bool ok])/\Aa w w' /\
  (ok=true->∃ k:Nat,n=k/\Sg.CR (tx s)=some k)/\(ok=false->Sg.CR (tx s)=none):=by
 have HA:=lh (Wc s hs w hG)
 have HG:=lh hG
 clear hG
 go_enter Tryz.func43,Tryz.ntmps43
 go_wp2_with fail
 refine HA.out.mono ?_
 rintro e w2 ⟨n,er,rfl,he,hr⟩
 have E:=lh he
 clear he
 rcases hr with ⟨rfl,ha⟩ | ⟨⟨N,rfl⟩,ha⟩
 ·by_cases hn:0<=n
  ·obtain⟨k,rfl⟩:=Int.eq_ofNat_of_zero_le hn
   have HI:=lh fun w' (e:Aa w w')=>Vb k (Lib.atoiAll_bounds ha).2 w' (HG.out.ext e).gl
   by_cases ht:tx s=Sg.BB k
   ·have b1:(Sg.BB k == s.toList)=true:=by rw[Bool.beq_comm,CZ];simp[ht]
    have HD:=lh (show Sg.CR (tx s)=some k by unfold Sg.CR;rw[ha];simp only;rw[Sg.Ht,if_pos ⟨hn,ht.symm⟩];rfl)
    clear ha ht
    go_wp2_with fail
    refine(HI.out _ E.out).mono ?_
    rintro e w3 ⟨rfl,he3⟩
    go_wp2
    go_ret2
    exact⟨k,true,rfl,E.out.tr he3,fun _=>⟨k,rfl,HD.out⟩,fun h=>by cases h⟩
   ·have b1:(Sg.BB k == s.toList)=false:=by rw[Bool.beq_comm,CZ];simp[ht]
    have HD:=lh (show Sg.CR (tx s)=none by unfold Sg.CR;rw[ha];simp only;rw[Sg.Ht,if_neg (fun e=>ht e.2.symm)])
    clear ha ht
    go_wp2_with fail
    refine(HI.out _ E.out).mono ?_
    rintro e w3 ⟨rfl,he3⟩
    go_wp2
    go_ret2
    exact⟨k,false,rfl,E.out.tr he3,(fun h=>by cases h),fun _=>HD.out⟩
  ·have hnx:¬ n ≥ 0:=hn
   have HD:=lh (show Sg.CR (tx s)=none by unfold Sg.CR;rw[ha];simp only;rw[if_neg (fun e=>hn e.1)])
   clear ha hn
   go_wp2
   go_ret2
   first | exact⟨n,false,rfl,E.out,(fun h=>by cases h),fun _=>HD.out⟩ | exact .inl ⟨rfl,E.out,HD.out⟩ | exact .inl ⟨n,rfl,E.out,HD.out⟩ | exact⟨n,.inl ⟨rfl,E.out,HD.out⟩⟩
 ·have HD:=lh (show Sg.CR (tx s)=none by
   unfold Sg.CR
   split
   ·rename_i v hv
    exact absurd hv (ha v)
   ·rfl)
  clear ha
  go_wp2
  go_ret2
  first | exact⟨n,false,rfl,E.out,(fun h=>by cases h),fun _=>HD.out⟩ | exact .inl ⟨rfl,E.out,HD.out⟩ | exact .inl ⟨n,rfl,E.out,HD.out⟩ | exact⟨n,.inl ⟨rfl,E.out,HD.out⟩⟩
end Go.Proofs.YthibllkleakiiaaGreatDoor
namespace Sg
open Go
def Qe:List ByteArray:=[⟨#[97,100,100]⟩,⟨#[115,117,98]⟩,⟨#[109,117,108]⟩,⟨#[109,105,110]⟩,⟨#[109,97,120]⟩,⟨#[108,101,115,115]⟩,⟨#[105,102]⟩]
theorem Ja {k:Nat}(h:k<7):Qe.getD k ByteArray.empty=⟨(CE ((k:Int)+2)).toArray⟩:=by
 have:k=0\/k=1\/k=2\/k=3\/k=4\/k=5\/k=6:=by omega
 rcases this with rfl | rfl | rfl | rfl | rfl | rfl | rfl <;> rfl
theorem Sc {j k:Nat}(hj:j<7)(hk:k<7)(h:CE ((j:Int)+2)=CE ((k:Int)+2)):j=k:=by
 have h1:=Fj (k:=(j:Int)+2) (by omega) (by omega);have h2:=Fj (k:=(k:Int)+2) (by omega) (by omega);rw[h,h2] at h1;omega
def IM (s:AR):Option At:=Et CR s
end Sg
namespace Go.Proofs.YthibllkleakiiaaGreatDoor
open Go.RowKit
theorem Rt (s:ByteArray)(w:World)(hs:s.size<=2000000)(hG:Ge w) :
  Calls Tryz.prog 56 #[.string s,.string ⟨#[32]⟩] w fun e w'=>∃ A,e= .returned (.slice A (Sg.AB 32 (tx s)).length (Sg.AB 32 (tx s)).length)/\Aa w w'/\AA w' w.heap.size 9 1 A (Sg.AB 32 (tx s)).length (Sg.AB 32 (tx s)).length (BE ((Sg.AB 32 (tx s)).map ts)):=by
 obtain⟨m,hm⟩:=hG.max
 have hd:(Lib.splitB ⟨#[32]⟩ 0 (Lib.countB s ⟨#[32]⟩) s)=(Sg.AB 32 (tx s)).map ts:=by
  have h1:=Lib.splitB_data ⟨#[32]⟩ 0 (Lib.countB s ⟨#[32]⟩) s;have h2:(Lib.splitB ⟨#[32]⟩ 0 (Lib.countB s ⟨#[32]⟩) s).map tx=Sg.AB 32 (tx s):=by rw[<- Sg.Ts];exact h1
  rw[<- h2,List.map_map];exact(List.map_id' _).symm
 have hl:=Lib.splitB_all ⟨#[32]⟩ (by decide) 0 (Lib.countB s ⟨#[32]⟩) s rfl;rw[hd,List.length_map] at hl;refine(Tryz.strings_Split s ⟨#[32]⟩ m w (by omega) hm (by decide)).mono ?_;rintro e w' ⟨rfl,rfl⟩;rw[hd,<- hl];refine⟨_,rfl,(Aa.rfl' w).al _,?_⟩
 have hb:(Sg.AB 32 (tx s)).length<=maxLen:=by
  have hc:=Lib.countB_le ⟨#[32]⟩ (by decide) s.size s (Nat.le_refl _);unfold maxLen;omega
 have:=(AA.new w (B:=w.heap.size) 9 1 (((Sg.AB 32 (tx s)).map ts).map Value.string).toArray (Sg.AB 32 (tx s)).length (Nat.le_refl _) hb (by simp));simpa[BE] using this
theorem TV (s:ByteArray)(w:World)(b o c:Nat)(hw:∀ k:Nat,k<7->w.cell? ⟨b,o+k,none⟩=some (.string (ts (Sg.CE ((k:Int)+2))))) :
  Calls Tryz.prog 42 #[.slice (some ⟨b,o,none⟩) 7 c,.string s] w fun e w'=>e= .returned (.int .i64 (if Sg.CY (tx s) = -1 then -1 else Sg.CY (tx s) - 2))/\w=w':=by
 refine(Tryz.slices_Index_string b o 7 c Sg.Qe s w (by decide) (by decide) (fun j hj=>by rw[Sg.Ja hj];exact hw j hj)).mono ?_;rintro e w' ⟨rfl,rfl⟩;refine⟨?_,rfl⟩;rcases Sg.Ex (tx s) with hk | ⟨h2,h8,hs⟩
 ·rw[hk,if_pos rfl,Lib.idxOfS_miss];intro j hj e;rw[Sg.Ja hj] at e;have:tx s=Sg.CE ((j:Int)+2):=by rw[<- e]
  rw[this,Sg.Fj (by omega) (by omega)] at hk;omega
 ·obtain⟨k,hk⟩:∃ k:Nat,Sg.CY (tx s)=(k:Int)+2:=⟨(Sg.CY (tx s) - 2).toNat,by omega⟩;rw[hk] at hs ⊢;have hk7:k<7:=by omega
  rw[if_neg (by omega),Lib.idxOfS_hit Sg.Qe 7 k s hk7 (by decide) (by rw[Sg.Ja hk7];exact L1 (by rw[hs])) (fun j hj e=>by
   rw[Sg.Ja (by omega)] at e;have:tx s=Sg.CE ((j:Int)+2):=by rw[<- e]
   have:=Sg.Sc (by omega) hk7 (this.symm.trans hs);omega)]
  congr 2
  omega
theorem TW (s:ByteArray)(w:World) :
  Calls Tryz.prog 82 #[.string s,.string ⟨#[114]⟩] w fun e w'=>e= .returned (.tuple #[.string (ts (if (tx s).head? = some 114 then (tx s).tail else tx s)),.bool (decide ((tx s).head? = some 114))])/\w=w':=by
 refine(Tryz.strings_CutPrefix s ⟨#[114]⟩ w).mono ?_;rintro e w' ⟨rfl,rfl⟩
 have h1:Lib.hasPrefix (tx s) [114]=decide ((tx s).head? = some 114):=by
  unfold Lib.hasPrefix;cases tx s with
  | nil=>rfl
  | cons b r =>
   rw[Bool.eq_iff_iff];simp only[List.isPrefixOf,Bool.and_true,beq_iff_eq,decide_eq_true_eq,List.head?_cons,Option.some.injEq];exact eq_comm
 have h2:Lib.trimPrefix (tx s) [114]=if (tx s).head? = some 114 then (tx s).tail else tx s:=by
  unfold Lib.trimPrefix;rw[h1];by_cases h:(tx s).head? = some 114
  ·rw[if_pos (by simp[h]),if_pos h];simp
  ·rw[if_neg (by simp[h]),if_neg h]
 refine⟨?_,rfl⟩;show Ending.returned (.tuple #[.string ⟨(Lib.trimPrefix (tx s) [114]).toArray⟩,.bool (Lib.hasPrefix (tx s) [114])])=_;rw[h1,h2]
open Go.RowKit
theorem Bu.ext {w w':World}{B b:Nat}{l:Sg.AR}(h:Bu w B b l)(e:Aa w w'):Bu w' B b l:=by
 have key:∀ p,Lib.BuilderAt 53 5 B b p (Lib.byteCells l) w->Lib.BuilderAt 53 5 B b p (Lib.byteCells l) w':=fun p h=>by
  have hlt:=h.lt;obtain⟨hB,v,hb,hown,hne⟩:=h;refine⟨hB,v,(e.block b hlt).trans hb,hown.kept (row:=none) ⟨e.os,e.tape,e.output,e.size,fun k hk _=>e.block k hk⟩ ?_,hne⟩;cases v.ownBlock with
  | none=>exact .inl rfl
  | some g=>exact .inr (by simp)
 exact h.imp (key _) (key _)
theorem Bu.lt {w:World}{B b:Nat}{l:Sg.AR}(h:Bu w B b l):B<=b/\b<w.heap.size:=h.elim (fun h=>⟨h.1,h.lt⟩) (fun h=>⟨h.1,h.lt⟩)
theorem Dz (B b:Nat)(l s:Sg.AR)(w:World)(h:Bu w B b l)(hlen:l.length+s.length<=100000) :
  Calls Tryz.prog 19 #[.pointer (some ⟨b,0,none⟩),.string (ts s)] w fun e w'=>e= .returned (.tuple #[.int .i64 s.length,.nilIface])/\Bu w' B b (l++s)/\Below B w w':=by
 have hlt:=h.lt;refine(UY B b _ (ts s) w h (by rw[Lib.byteCells_length,B9];omega) (by omega)).mono ?_;rintro e w' ⟨rfl,h1,h2⟩;refine⟨rfl,.inr ?_,h2⟩;have e1:Lib.byteCells (l++s)=Lib.byteCells l++Lib.strCells (ts s):=by simp[Lib.byteCells,Lib.strCells]
 rw[e1];exact h1
theorem Ks (B b:Nat)(l:Sg.AR)(w:World)(h:Bu w B b l) :
  Calls Tryz.prog 21 #[.pointer (some ⟨b,0,none⟩)] w fun e w'=>e= .returned (.string (ts l))/\Below B w w':=by
 have hlt:=h.lt;exact Tryz.Builder_String_any B b l w h (by omega)
set_option maxRecDepth 100000 in
set_option maxHeartbeats 4000000 in
theorem Mu (A Ac:Option Addr)(c cc:Nat)(g:Sg.Ae)(l:List Int)(w:World)(hG:Gl w)(h:Eg w A g)(hc:Rd w 1 Ac l.length (Ah l)) :
  Calls Tryz.prog 46 #[.agg #[.slice A g.length c],.slice Ac l.length cc] w fun e w'=>e= .returned (.string (ts (Sg.Jg g l)))/\Aa w w':=by
 have hgl:=h.1;have hll:=hc.big;have HVC:=lh fun w' (e:Aa w w')=>F4 A Ac c cc g l w' (h.ext e) (hc.ext e);have E0:=lh ((Aa.rfl' w).al (.cells #[.slice A g.length c] 35));have Q0:=lh (show World.cell? (World.alloc w (.cells #[.slice A g.length c] 35)) ⟨w.heap.size,0,none⟩=some (.slice A g.length c) by simp[go_sem]);have H:=lh h;have HC:=lh hc;have HG:=lh hG;clear h hc hG;cases hv:(Sg.AG g && Sg.AT g l)
 ·have HN:Hid (Sg.Jg g l=[]):=lh (Sg.Uz hv);have HV:=lh hv;clear hv;go_enter Tryz.func46,Tryz.ntmps46;go_wp2_with fail
  refine(HVC.out _ E0.out).mono ?_;rintro e w2 ⟨rfl,he⟩;rw[HV.out];go_wp2;go_ret;exact⟨by rw[HN.out];rfl,E0.out.tr he⟩
 ·have hvw:=hv;rw[Bool.and_eq_true] at hvw;obtain⟨hvg,hvc⟩:=hvw;have HF:=lh (Sg.TF hvg hvc);have hg10:=Sg.Io hvg;have HLE:=lh (Sg.CH hvc);have HR:=lh (Sg.DN hvc);have HNC:=lh fun (i:Nat) (n:Sg.BQ) (hn:g[i]? = some n)=>Sg.Qg hvg hn;have HLS:=lh fun (i:Nat) (n:Sg.BQ) (x:Int) (hn:g[i]? = some n) (hx:l[i]? = some x)=>Sg.JS (Sg.CH hvc) hn hx;have HLN:=lh (Sg.KA (Sg.CH hvc) (fun x hx=>(Sg.DN hvc x hx).2));have HV:=lh hv;clear hv hvg hvc;go_enter Tryz.func46,Tryz.ntmps46;go_wp2_with fail
  refine(HVC.out _ E0.out).mono ?_;rintro e w2 ⟨rfl,he⟩;rw[HV.out];have EW:=lh (E0.out.tr he);have q2:=he.cellE Q0.out;have bq2:=Au q2;have HB:=lh (Lib.fresh_isBuilder 53 5 w2);have EB:=lh ((Aa.rfl' w2).al (.cells #[.pointer none,.slice none 0 0] 53));have hbq:w.heap.size<w2.heap.size+1:=by omega
  clear he E0 Q0;go_wp2_with fail
  go_loopw [15] (fun s15 wr=>∃ j:Nat,j<=g.length/\s15= .int .i64 j/\Hid (Aa w2 wr)/\Hid (Bu wr w2.heap.size w2.heap.size (Sg.DO g l j))) (fun s15 _=>g.length - (intOf s15).toNat)
  case atStart=>exact⟨0,Nat.zero_le _,rfl,EB,HB⟩
  case round =>
   clear EB HB q2 bq2 hbq;obtain⟨j,hj,rfl,E,BU⟩:=hrel;by_cases hlt:j<g.length
   ·obtain⟨⟨nk,nf⟩,b,o,Ap,cp,hn,rfl,hkc,hs,hf,hfl⟩:=(H.out.ext (EW.out.tr E.out)).at_ hlt;obtain⟨bc,oc,x,rfl,hx,hxc⟩:=(HC.out.ext (EW.out.tr E.out)).at1 (show j<l.length by have:=HLE.out;omega);have hxr:=HR.out x (List.mem_of_getElem? hx);obtain⟨y,rfl⟩:=Int.eq_ofNat_of_zero_le hxr.1;have hjx:(j:Int)<(g.length:Int):=by omega
    have hjy:(j:Int)<(l.length:Int):=by have:=HLE.out;omega
    have hln:=HLN.out j;have HT:=lh (HLS.out j _ _ hn hx);have hnc:=HNC.out j _ hn;have hfm:=Sg.LF nf;have hyl:=Sg.Ib (n:=y) (by omega);have HXC:=lh hxc;have HFm:=lh fun w' (e:Aa wr w')=>IB Ap cp nf w' ((HG.out.ext (EW.out.tr E.out)).ext e) (hf.ext e) hfl;have HIt:=lh fun w' (e:Aa wr w')=>NR y (by omega) w' ((HG.out.ext (EW.out.tr E.out)).ext e);clear hn hx hxr hf;dsimp only at hnc hkc hs hfl;have b1:=Au hkc;have b2:=Au hs;have b3:=Au hxc;generalize Sg.DO g l j=x at *;rcases hnc with ⟨rfl,hnf⟩ | ⟨rfl | rfl,hvf⟩
    ·clear hnf;have hL:=lh (Sg.Qh (n:=⟨0,nf⟩) rfl (y:Int));have s1:=Fp (a:=Sg.DC++[32]) (b:=Sg.BB y) (by simp[Sg.DC];omega);have e1:=lh ((Aa.rfl' wr).al (.cells #[.int .i64 0,.slice Ap nf.length cp] 70));have HW:=fun w' (hB:Bu w' w2.heap.size w2.heap.size x)=>Dz w2.heap.size w2.heap.size x (Sg.DC++[32]++Sg.BB y) w' hB (by simp[Sg.DC];omega);rw[<- D7 (Sg.DC++[32])] at HW;have HW:=lh HW;go_wp2_with fail
     refine(HIt.out _ e1.out).mono ?_;rintro e w4 ⟨rfl,he4⟩;have e4:=lh (e1.out.tr he4);clear he4;go_wp2_with fail
     refine(HW.out _ (BU.out.ext e4.out)).mono ?_;rintro e w5 ⟨rfl,hB5,hb5⟩;have B5:=lh hB5;have H5:=lh hb5;clear hB5 hb5;go_wp2_with fail
     refine(Dz _ _ _ [10] _ B5.out (by simp[Sg.DC];omega)).mono ?_;rintro e w6 ⟨rfl,hB6,hb6⟩;have B6:=lh hB6;have H6:=lh hb6;clear hB6 hb6;go_wp2;go_roundw
     case rel=>exact⟨j+1,by omega,by go_num,lh (((E.out.tr e4.out).trans H5.out).trans H6.out),lh (by rw[HT.out,hL.out];exact B6.out)⟩
     case measure=>simp[intOf];omega
    ·have hL:=lh (Sg.Sd (n:=⟨1,nf⟩) rfl (y:Int));have s1:=Fp (a:=Sg.Gp++[32]) (b:=Sg.FM nf) (by simp[Sg.Gp];omega);have e1:=lh ((Aa.rfl' wr).al (.cells #[.int .i64 1,.slice Ap nf.length cp] 70));have HW:=fun w' (hB:Bu w' w2.heap.size w2.heap.size x)=>Dz w2.heap.size w2.heap.size x (Sg.Gp++[32]++Sg.FM nf) w' hB (by simp[Sg.Gp];omega);rw[<- D7 (Sg.Gp++[32])] at HW;have HW:=lh HW;go_wp2_with fail
     refine(HFm.out _ e1.out).mono ?_;rintro e w4 ⟨rfl,he4⟩;have e4:=lh (e1.out.tr he4);clear he4;go_wp2_with fail
     refine(HW.out _ (BU.out.ext e4.out)).mono ?_;rintro e w5 ⟨rfl,hB5,hb5⟩;have B5:=lh hB5;have H5:=lh hb5;clear hB5 hb5;go_wp2_with fail
     refine(Dz _ _ _ [10] _ B5.out (by simp[Sg.Gp];omega)).mono ?_;rintro e w6 ⟨rfl,hB6,hb6⟩;have B6:=lh hB6;have H6:=lh hb6;clear hB6 hb6;go_wp2;go_roundw
     case rel=>exact⟨j+1,by omega,by go_num,lh (((E.out.tr e4.out).trans H5.out).trans H6.out),lh (by rw[HT.out,hL.out];exact B6.out)⟩
     case measure=>simp[intOf];omega
    ·have hL:=lh (Sg.Se (n:=⟨2,nf⟩) rfl (y:Int));have s1:=Fp (a:=Sg.Gq++[32]) (b:=Sg.FM nf) (by simp[Sg.Gq];omega);have e1:=lh ((Aa.rfl' wr).al (.cells #[.int .i64 2,.slice Ap nf.length cp] 70));have HW:=fun w' (hB:Bu w' w2.heap.size w2.heap.size x)=>Dz w2.heap.size w2.heap.size x (Sg.Gq++[32]++Sg.FM nf) w' hB (by simp[Sg.Gq];omega);rw[<- D7 (Sg.Gq++[32])] at HW;have HW:=lh HW;go_wp2_with fail
     refine(HFm.out _ e1.out).mono ?_;rintro e w4 ⟨rfl,he4⟩;have e4:=lh (e1.out.tr he4);clear he4;go_wp2_with fail
     refine(HW.out _ (BU.out.ext e4.out)).mono ?_;rintro e w5 ⟨rfl,hB5,hb5⟩;have B5:=lh hB5;have H5:=lh hb5;clear hB5 hb5;go_wp2_with fail
     refine(Dz _ _ _ [10] _ B5.out (by simp[Sg.Gq];omega)).mono ?_;rintro e w6 ⟨rfl,hB6,hb6⟩;have B6:=lh hB6;have H6:=lh hb6;clear hB6 hb6;go_wp2;go_roundw
     case rel=>exact⟨j+1,by omega,by go_num,lh (((E.out.tr e4.out).trans H5.out).trans H6.out),lh (by rw[HT.out,hL.out];exact B6.out)⟩
     case measure=>simp[intOf];omega
   ·obtain rfl:j=g.length:=by omega
    go_wp2_with fail
    refine(Ks _ _ _ _ BU.out).mono ?_;rintro e w3 ⟨rfl,he3⟩;go_wp2;go_ret;exact⟨by rw[HF.out];rfl,EW.out.tr (E.out.trans he3)⟩
end Go.Proofs.YthibllkleakiiaaGreatDoor
