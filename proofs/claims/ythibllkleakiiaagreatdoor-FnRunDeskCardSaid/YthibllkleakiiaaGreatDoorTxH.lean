/- Parts of one proof, joined. The draws' of and mutate: contracts. Conditions: bounds on the number of draws and on lengths. -/
import Derived.Test.YthibllkleakiiaaGreatDoorShelf
import Derived.Test.YthibllkleakiiaaGreatDoorTxJ
import Derived.Test.YthibllkleakiiaaGreatDoorTxE
import Derived.Lib.AtoiErrMem
import Derived.Lib.SlicesS
import Derived.Test.YthibllkleakiiaaGreatDoorTxG
import Derived.Deep.DeepCutAuto
import Derived.Test.YthibllkleakiiaaGreatDoorImplA1
namespace Go.Proofs.YthibllkleakiiaaGreatDoor
open Go.RowKit
structure Gl (w:World):Prop where
 words:∃ b o c,w.cell? ⟨0,0,none⟩=some (.slice (some ⟨b,o,none⟩) 7 c)/\∀ k:Nat,k<7->w.cell? ⟨b,o+k,none⟩=some (.string (ts (Sg.CM ((k:Int)+2))))
 tab:Lib.TabIs Tryz.prog w "internal/strconv.uint64pow10" .u64 Lib.pow10Tab
theorem KD {w w':World}(e:Aa w w'){name:String}{cs:Array Value}(h:w.var? Tryz.prog name=some cs):w'.var? Tryz.prog name=some cs:=by
 unfold World.var? at h ⊢
 cases hg:Tryz.prog.globalNamed name with
 | none=>rw[hg] at h;cases h
 | some g =>
  rw[hg] at h
  simp only[Option.bind_some] at h ⊢
  rw[e.block g ?_]
  ·exact h
  ·rcases Nat.lt_or_ge g w.heap.size with h' | h'
   ·exact h'
   ·rw[Array.getElem?_eq_none h'] at h;cases h
theorem Gl.ext {w w':World}(h:Gl w)(e:Aa w w'):Gl w':=by
 obtain⟨⟨b,o,c,h1,h2⟩,ht⟩:=h
 exact⟨⟨b,o,c,e.cellE h1,fun k hk=>e.cellE (h2 k hk)⟩,KD e ht⟩
theorem zm1{p:Prop}(h:p:=by
 rintro e w' ⟨rfl,k,os,rfl⟩
 rw[Sg.Iu]
 exact⟨rfl,rfl,rfl,rfl,by simp[Go.Sort.grow,World.drewN],fun b hb=>Array.getElem?_append_left hb⟩):p:=h
theorem Pf (n:Nat)(h:n<=999)(w:World)(hg:Gl w):Calls Tryz.prog 80 #[.int .i64 (n:Int)] w fun e w'=>e= .returned (.string (ts (Sg.BE n)))/\Aa w w':=by
 refine(Tryz.strconv_Itoa (n:Int) (by omega) (by omega) w hg.tab).mono ?_
 exact zm1
theorem SG (l:Sg.AO):ts (114 :: l)=ts [114]++ts l:=by rw[BY];rfl
def I5 (l:List Sg.At)(j:Nat):List ByteArray:=(l.take j).map fun p=>ts (Sg.Cp p)
theorem Pq {l:List Sg.At}{j:Nat}{p:Sg.At}(h:l[j]? = some p):I5 l (j+1)=I5 l j++[ts (Sg.Cp p)]:=by
 unfold I5
 rw[List.take_add_one,h,List.map_append]
 rfl
theorem LE (l:List Sg.At):(I5 l l.length).map (·.data.toList)=l.map Sg.Cp:=by
 unfold I5
 rw[List.take_length,List.map_map]
 rfl
theorem VM (A:Option Addr)(n c:Nat)(xs:List ByteArray)(w:World){B:Nat}(h:Au w B 9 1 A n c (Bh xs))(hn:n<=1000)(hl:(Sg.DT 32 (xs.map (·.data.toList))).length<=100000) :
  Calls Tryz.prog 91 #[.slice A n c,.string ⟨#[32]⟩] w fun e w'=>e= .returned (.string (ts (Sg.DT 32 (xs.map (·.data.toList)))))/\Aa w w':=by
 have hxn:xs.length=n:=by have:=h.rd.lenT;exact this
 by_cases h0:n=0
 ·subst h0
  obtain rfl:xs=[]:=List.length_eq_zero_iff.1 hxn
  refine(Tryz.strings_Join_none A c ⟨#[32]⟩ w).mono ?_
  rintro e w' ⟨rfl,rfl⟩
  exact⟨rfl,Aa.rfl' _⟩
 ·obtain⟨g,rfl,hg⟩:=h.at_ (by omega)
  have hc:∀ (j:Nat) x,xs[j]? = some x->w.cell? ⟨g,0+j,none⟩=some (.string x):=fun j x hx=>by
   rw[Nat.zero_add];exact h.cell (by rw[Pj,hx];rfl)
  subst hxn
  refine(Tryz.strings_Join g 0 c xs ⟨#[32]⟩ w hc (h.lt rfl).2 (by omega) h.2.1 (by unfold Sg.DT at hl;exact Nat.le_trans hl (by decide))).mono ?_
  rintro e w' ⟨rfl,he⟩
  exact⟨rfl,he⟩
set_option maxRecDepth 100000 in
set_option maxHeartbeats 2000000 in
theorem I9 (A:Option Addr)(c:Nat)(f:List Sg.At)(w:World)(hG:Gl w)(h:Rd w 5 A f.length (AH f))(hb:f.length<=1048576) :
  Calls Tryz.prog 84 #[.agg #[.slice A f.length c]] w fun e w'=>e= .returned (.string (ts (Sg.EY f)))/\Aa w w':=by
 have HO:=lh fun w' (e:Aa w w')=>KA A c f w' (h.ext e) hb
 have HG:=lh hG
 have hok:∀ p ∈ Sg.Bv f,Sg.Yl p:=by
  by_cases hv:Sg.AR f=true
  ·exact Sg.Km hv
  ·intro p hp;unfold Sg.Bv at hp;rw[if_neg hv] at hp;cases hp
 have hol:(Sg.Bv f).length<=12:=by
  by_cases hv:Sg.AR f=true
  ·rw[Sg.JF hv];exact(Sg.Cg hv).2
  ·unfold Sg.Bv;rw[if_neg hv];simp
 have HOK:=lh hok
 have HF:Hid (Sg.EY f=Sg.DT 32 ((Sg.Bv f).map Sg.Cp)):=lh (by
  by_cases hv:Sg.AR f=true
  ·unfold Sg.EY;rw[if_pos hv]
  ·unfold Sg.EY Sg.Bv;rw[if_neg hv,if_neg hv];rfl)
 have HL:=lh (Sg.Kk f)
 clear h hG hok
 generalize Sg.Bv f=l at *
 go_enter Tryz.func84,Tryz.ntmps84
 go_wp2_with fail
 refine(HO.out _ ((Aa.rfl' w).al _)).mono ?_
 rintro e w2 ⟨A1,rfl,he,hown⟩
 have EW:=lh (((Aa.rfl' w).al _).tr he)
 have HR2:=lh hown.rd
 have HG2:=lh (HG.out.ext EW.out)
 clear he hown HG
 have hfd:=fun w=>YP A1 l.length l.length w
 go_wp2_with fail
 clear hfd
 go_loopw [3,10] (fun s3 s10 wr=>∃ (j:Nat) (A3:Option Addr) (c3:Nat),j<=l.length/\s3= .slice A3 j c3/\s10= .int .i64 j/\Hid (Aa w2 wr)/\Hid (Au wr w2.heap.size 9 1 A3 j c3 (Bh (I5 l j)))) (fun _ s10 _=>l.length - (intOf s10).toNat)
 case atStart=>exact⟨0,none,0,Nat.zero_le _,rfl,rfl,lh xr,lh (Au.nil _ _ _ _)⟩
 case round =>
  obtain⟨j,A3,c3,hj,rfl,rfl,E,OW⟩:=hrel
  by_cases hlt:j<l.length
  ·obtain⟨b,o,p,hAe,hp,h0,h1,h2,h3,h4⟩   := (HR2.out.ext E.out).atP hlt
   subst hAe
   have bh0:=AA h0
   have bh1:=AA h1
   have bh2:=AA h2
   have bh3:=AA h3
   have bh4:=AA h4
   have hjx:(j:Int)<(l.length:Int):=by omega
   have hsz:=E.out.size
   have hpo:=HOK.out p (List.mem_of_getElem? hp)
   have WS:=lh (Pq hp)
   have hpl:=Sg.KU hpo
   clear hp
   obtain⟨pk,pa,pb,pc,pn⟩:=p
   dsimp only [Sg.Yl] at *
   rcases hpo with ⟨rfl | rfl,hn0,hn9⟩ | ⟨hk2,hk8⟩
   ·obtain⟨n,rfl⟩:=Int.eq_ofNat_of_zero_le hn0
    go_wp2_with fail
    refine(Pf n (by omega) _ (HG2.out.ext (E.out.al _))).mono ?_
    rintro e w4 ⟨rfl,he4⟩
    have E4:=lh ((E.out.al _).tr he4)
    have OW4:=lh ((OW.out.al _).ext he4)
    clear he4 h0 h1 h2 h3 h4 bh0 bh1 bh2 bh3 bh4 E OW
    have hsz4:=E4.out.size
    go_wp2_with (at_builtin;refine AB (cs:=[.string (ts (Sg.BE n))]) rfl rfl Lr rfl OW4.out rfl rfl (IX _) (by omega) (by omega) (by omega) ?_;intro A5 c5 w9 hown2 hg2 hat2)
    go_roundw
    case rel=>exact⟨j+1,A5,c5,by omega,rfl,by go_num,lh (E4.out.gr hg2 fun x hx=>(OW4.out.lt hx).1),lh (by rw[WS.out,<- FK];rw[Sg.JB];exact hown2)⟩
    case measure=>simp[intOf];omega
   ·obtain⟨n,rfl⟩:=Int.eq_ofNat_of_zero_le hn0
    go_wp2_with fail
    refine(Pf n (by omega) _ (HG2.out.ext (E.out.al _))).mono ?_
    rintro e w4 ⟨rfl,he4⟩
    have E4:=lh ((E.out.al _).tr he4)
    have OW4:=lh ((OW.out.al _).ext he4)
    clear he4 h0 h1 h2 h3 h4 bh0 bh1 bh2 bh3 bh4 E OW
    have hsp:=CT (a:=[114]) (b:=Sg.BE n) (by have:=Sg.GQ (n:=n) (by omega);simp;omega)
    have hsz4:=E4.out.size
    go_wp2_with (at_builtin;refine AB (cs:=[.string (ts [114]++ts (Sg.BE n))]) rfl rfl Lr rfl OW4.out rfl rfl (IX _) (by omega) (by omega) (by omega) ?_;intro A5 c5 w9 hown2 hg2 hat2)
    go_roundw
    case rel=>exact⟨j+1,A5,c5,by omega,rfl,by go_num,lh (E4.out.gr hg2 fun x hx=>(OW4.out.lt hx).1),lh (by rw[WS.out,<- FK];rw[Sg.IP,SG];exact hown2)⟩
    case measure=>simp[intOf];omega
   ·obtain⟨k,rfl⟩:∃ k:Nat,pk=(k:Int)+2:=⟨(pk - 2).toNat,by omega⟩
    have hk7:k<7:=by omega
    have hne0:((k:Int)+2 == 0)=false:=by simp;omega
    have hne1:((k:Int)+2 == 1)=false:=by simp;omega
    have ik:IntKind.i64.wrap ((k:Int)+2 - 2)=(k:Int):=by rw[IntWalk.i64_in _ (by omega)];omega
    obtain⟨⟨bw,ow,cw,g0,g1⟩,-⟩:=HG2.out.ext E.out
    have gk:=g1 k hk7
    have bg0:=AA g0
    have bgk:=AA gk
    have hkx:(k:Int)<7:=by omega
    clear g1
    have E4:=lh (E.out.al (.cells #[.int .i64 ((k:Int)+2),.int .i64 pa,.int .i64 pb,.int .i64 pc,.int .i64 pn] 111))
    have OW4:=lh (OW.out.al (.cells #[.int .i64 ((k:Int)+2),.int .i64 pa,.int .i64 pb,.int .i64 pc,.int .i64 pn] 111))
    have hsz4:=E4.out.size
    go_wp2_with (at_builtin;refine Ku (g:=wr.heap.size+1) (cs:=[.string (ts (Sg.CM ((k:Int)+2)))]) rfl rfl Lr rfl OW4.out rfl (by simp[go_sem]) rfl (IX _) (by omega) (by omega) (by omega) ?_;intro A5 c5 w9 hown2 hg2 hat2)
    go_roundw
    case rel=>exact⟨j+1,A5,c5,by omega,rfl,by go_num,lh (E4.out.gr hg2 fun x hx=>(OW4.out.lt hx).1),lh (by rw[WS.out,<- FK];rw[Sg.FA (by omega)];exact hown2)⟩
    case measure=>simp[intOf];omega
  ·obtain rfl:j=l.length:=by omega
   have HJ:=lh fun w' (hO:Au w' w2.heap.size 9 1 A3 l.length c3 (Bh (I5 l l.length)))=>VM A3 l.length c3 _ w' hO (by omega) (by rw[LE,<- HF.out];have:=HL.out;omega)
   go_wp2_with fail
   refine(HJ.out _ OW.out).mono ?_
   rintro e w3 ⟨rfl,he3⟩
   go_wp2
   go_ret
   exact⟨by rw[HF.out,<- LE];rfl,(EW.out.tr E.out).tr he3⟩
open Go.RowKit
structure Ge (w:World):Prop where
 gl:Gl w
 max:∃ m,w.cell? ⟨1,0,none⟩=some (.int .i64 m)
 es:∃ tp p,w.var? Tryz.prog "strconv.ErrSyntax"=some #[.iface tp p]
 er:∃ tp p,w.var? Tryz.prog "strconv.ErrRange"=some #[.iface tp p]
theorem Ge.ext {w w':World}(h:Ge w)(e:Aa w w'):Ge w':=by
 obtain⟨hg,⟨m,hm⟩,⟨t1,p1,h1⟩,⟨t2,p2,h2⟩⟩:=h
 exact⟨hg.ext e,⟨m,e.cellE hm⟩,⟨t1,p1,KD e h1⟩,⟨t2,p2,KD e h2⟩⟩
theorem YO (s:ByteArray)(hlim:s.size<=281474976710656)(h:Lib.atoiAll s.data.toList=Lib.atoiAll [])(tp:TypeId)(p:Value)(w:World)(hvar:w.var? Tryz.prog "strconv.ErrSyntax"=some #[.iface tp p]) :
  Calls Tryz.prog 79 #[.string s] w fun e w'=>∃ N,e= .returned (.tuple #[.int .i64 0,.iface 176 (.pointer (some ⟨N,0,none⟩))])/\Below w.heap.size w w' :=
 (Any.strconv_Atoi_syntax_var Tryz.laysC172 s hlim h tp p w hvar).mono fun _ _ ⟨N,h1,_,_,h2⟩=>⟨N,h1,h2⟩
theorem XK (s:ByteArray)(hs:s.size<=2100000)(w:World)(hG:Ge w):Calls Tryz.prog 79 #[.string s] w fun e w'=>∃ (n:Int) (er:Value),e= .returned (.tuple #[.int .i64 n,er])/\Aa w w' /\
  ((er= .nilIface/\Lib.atoiAll (tx s)= .ok n)\/((∃ N,er= .iface 176 (.pointer (some ⟨N,0,none⟩)))/\∀ v,Lib.atoiAll (tx s)≠.ok v)):=by
 obtain⟨_,_,⟨t1,p1,h1⟩,⟨t2,p2,h2⟩⟩:=hG
 cases h:Lib.atoiAll (tx s)
 ·rename_i v
  refine(Tryz.strconv_Atoi_ok s (by omega) v h w).mono ?_
  rintro e w' ⟨rfl,hw⟩
  refine⟨v,.nilIface,rfl,?_,.inl ⟨rfl,rfl⟩⟩
  rcases hw with rfl | ⟨t,rfl⟩
  ·exact Aa.rfl' _
  ·exact Lib.bytesWorld_below w _ t
 ·refine(YO s (by omega) h t1 p1 w h1).mono ?_
  rintro e w' ⟨N,rfl,he⟩
  exact⟨0,_,rfl,he,.inr ⟨⟨N,rfl⟩,fun v e=>by cases e⟩⟩
 ·refine(Tryz.strconv_Atoi_range_var s (by omega) h t2 p2 w h2).mono ?_
  rintro e w' ⟨N,rfl,_,_,he⟩
  exact⟨_,_,rfl,he,.inr ⟨⟨N,rfl⟩,fun v e=>by cases e⟩⟩
theorem WA (n:Nat)(h:(n:Int)<=9223372036854775807)(w:World)(hg:Gl w):Calls Tryz.prog 80 #[.int .i64 (n:Int)] w fun e w'=>e= .returned (.string (ts (Sg.BE n)))/\Aa w w':=by
 refine(Tryz.strconv_Itoa (n:Int) (by omega) h w hg.tab).mono ?_
 exact zm1
theorem zl1{p:Prop}(h:p:=by
 go_wp2
 go_ret2
 first | exact⟨n,false,rfl,E.out,(fun h=>by cases h),fun _=>HD.out⟩ | exact .inl ⟨rfl,E.out,HD.out⟩ | exact .inl ⟨n,rfl,E.out,HD.out⟩ | exact⟨n,.inl ⟨rfl,E.out,HD.out⟩⟩):p:=h
set_option maxRecDepth 100000 in
set_option maxHeartbeats 2000000 in
theorem JI (s:ByteArray)(hs:s.size<=2100000)(w:World)(hG:Ge w):Calls Tryz.prog 43 #[.string s] w fun e w'=>∃ (n:Int) (ok:Bool),e= .returned (.tuple #[.int .i64 n,.bool ok])/\Aa w w' /\
  (ok=true->∃ k:Nat,n=k/\Sg.C4 (tx s)=some k)/\(ok=false->Sg.C4 (tx s)=none):=by
 have HA:=lh (XK s hs w hG)
 have HG:=lh hG
 clear hG
 go_enter Tryz.func43,Tryz.ntmps43
 go_wp2_with fail
 refine HA.out.mono ?_
 rintro e w2 ⟨n,er,rfl,he,hr⟩
 have E:=lh he
 clear he
 rcases hr with ⟨rfl,ha⟩ | ⟨⟨N,rfl⟩,ha⟩
 ·by_cases hn:0<=n
  ·obtain⟨k,rfl⟩:=Int.eq_ofNat_of_zero_le hn
   have HI:=lh fun w' (e:Aa w w')=>WA k (Lib.atoiAll_bounds ha).2 w' (HG.out.ext e).gl
   by_cases ht:tx s=Sg.BE k
   ·have b1:(Sg.BE k == s.toList)=true:=by rw[Bool.beq_comm,C_];simp[ht]
    have HD:=lh (show Sg.C4 (tx s)=some k by unfold Sg.C4;rw[ha];simp only;rw[Sg.Iu,if_pos ⟨hn,ht.symm⟩];rfl)
    clear ha ht
    go_wp2_with fail
    refine(HI.out _ E.out).mono ?_
    rintro e w3 ⟨rfl,he3⟩
    go_wp2
    go_ret2
    exact⟨k,true,rfl,E.out.tr he3,fun _=>⟨k,rfl,HD.out⟩,fun h=>by cases h⟩
   ·have b1:(Sg.BE k == s.toList)=false:=by rw[Bool.beq_comm,C_];simp[ht]
    have HD:=lh (show Sg.C4 (tx s)=none by unfold Sg.C4;rw[ha];simp only;rw[Sg.Iu,if_neg (fun e=>ht e.2.symm)])
    clear ha ht
    go_wp2_with fail
    refine(HI.out _ E.out).mono ?_
    rintro e w3 ⟨rfl,he3⟩
    go_wp2
    go_ret2
    exact⟨k,false,rfl,E.out.tr he3,(fun h=>by cases h),fun _=>HD.out⟩
  ·have hnx:¬ n ≥ 0:=hn
   have HD:=lh (show Sg.C4 (tx s)=none by unfold Sg.C4;rw[ha];simp only;rw[if_neg (fun e=>hn e.1)])
   clear ha hn
   exact zl1
 ·have HD:=lh (show Sg.C4 (tx s)=none by
   unfold Sg.C4
   split
   ·rename_i v hv
    exact absurd hv (ha v)
   ·rfl)
  clear ha
  exact zl1
end Go.Proofs.YthibllkleakiiaaGreatDoor
namespace Sg
open Go
def Ru:List ByteArray:=[⟨#[97,100,100]⟩,⟨#[115,117,98]⟩,⟨#[109,117,108]⟩,⟨#[109,105,110]⟩,⟨#[109,97,120]⟩,⟨#[108,101,115,115]⟩,⟨#[105,102]⟩]
theorem JD {k:Nat}(h:k<7):Ru.getD k ByteArray.empty=⟨(CM ((k:Int)+2)).toArray⟩:=by
 have:k=0\/k=1\/k=2\/k=3\/k=4\/k=5\/k=6:=by omega
 rcases this with rfl | rfl | rfl | rfl | rfl | rfl | rfl <;> rfl
theorem TI {j k:Nat}(hj:j<7)(hk:k<7)(h:CM ((j:Int)+2)=CM ((k:Int)+2)):j=k:=by
 have h1:=Fz (k:=(j:Int)+2) (by omega) (by omega);have h2:=Fz (k:=(k:Int)+2) (by omega) (by omega);rw[h,h2] at h1;omega
def Ji (s:AO):Option At:=EF C4 s
end Sg
namespace Go.Proofs.YthibllkleakiiaaGreatDoor
open Go.RowKit
theorem SW (s:ByteArray)(w:World)(hs:s.size<=2000000)(hG:Ge w) :
  Calls Tryz.prog 56 #[.string s,.string ⟨#[32]⟩] w fun e w'=>∃ A,e= .returned (.slice A (Sg.AC 32 (tx s)).length (Sg.AC 32 (tx s)).length)/\Aa w w'/\Au w' w.heap.size 9 1 A (Sg.AC 32 (tx s)).length (Sg.AC 32 (tx s)).length (Bh ((Sg.AC 32 (tx s)).map ts)):=by
 obtain⟨m,hm⟩:=hG.max
 have hd:(Lib.splitB ⟨#[32]⟩ 0 (Lib.countB s ⟨#[32]⟩) s)=(Sg.AC 32 (tx s)).map ts:=by
  have h1:=Lib.splitB_data ⟨#[32]⟩ 0 (Lib.countB s ⟨#[32]⟩) s;have h2:(Lib.splitB ⟨#[32]⟩ 0 (Lib.countB s ⟨#[32]⟩) s).map tx=Sg.AC 32 (tx s):=by rw[<- Sg.UH];exact h1
  rw[<- h2,List.map_map];exact(List.map_id' _).symm
 have hl:=Lib.splitB_all ⟨#[32]⟩ (by decide) 0 (Lib.countB s ⟨#[32]⟩) s rfl;rw[hd,List.length_map] at hl;refine(Tryz.strings_Split s ⟨#[32]⟩ m w (by omega) hm (by decide)).mono ?_;rintro e w' ⟨rfl,rfl⟩;rw[hd,<- hl];refine⟨_,rfl,(Aa.rfl' w).al _,?_⟩
 have hb:(Sg.AC 32 (tx s)).length<=maxLen:=by
  have hc:=Lib.countB_le ⟨#[32]⟩ (by decide) s.size s (Nat.le_refl _);unfold maxLen;omega
 have:=(Au.new w (B:=w.heap.size) 9 1 (((Sg.AC 32 (tx s)).map ts).map Value.string).toArray (Sg.AC 32 (tx s)).length (Nat.le_refl _) hb (by simp));simpa[Bh] using this
theorem Vg (s:ByteArray)(w:World)(b o c:Nat)(hw:∀ k:Nat,k<7->w.cell? ⟨b,o+k,none⟩=some (.string (ts (Sg.CM ((k:Int)+2))))) :
  Calls Tryz.prog 42 #[.slice (some ⟨b,o,none⟩) 7 c,.string s] w fun e w'=>e= .returned (.int .i64 (if Sg.C9 (tx s) = -1 then -1 else Sg.C9 (tx s) - 2))/\w=w':=by
 refine(Tryz.slices_Index_string b o 7 c Sg.Ru s w (by decide) (by decide) (fun j hj=>by rw[Sg.JD hj];exact hw j hj)).mono ?_;rintro e w' ⟨rfl,rfl⟩;refine⟨?_,rfl⟩;rcases Sg.EJ (tx s) with hk | ⟨h2,h8,hs⟩
 ·rw[hk,if_pos rfl,Lib.idxOfS_miss];intro j hj e;rw[Sg.JD hj] at e;have:tx s=Sg.CM ((j:Int)+2):=by rw[<- e]
  rw[this,Sg.Fz (by omega) (by omega)] at hk;omega
 ·obtain⟨k,hk⟩:∃ k:Nat,Sg.C9 (tx s)=(k:Int)+2:=⟨(Sg.C9 (tx s) - 2).toNat,by omega⟩;rw[hk] at hs ⊢;have hk7:k<7:=by omega
  rw[if_neg (by omega),Lib.idxOfS_hit Sg.Ru 7 k s hk7 (by decide) (by rw[Sg.JD hk7];exact K2 (by rw[hs])) (fun j hj e=>by
   rw[Sg.JD (by omega)] at e;have:tx s=Sg.CM ((j:Int)+2):=by rw[<- e]
   have:=Sg.TI (by omega) hk7 (this.symm.trans hs);omega)]
  congr 2
  omega
theorem Vh (s:ByteArray)(w:World) :
  Calls Tryz.prog 82 #[.string s,.string ⟨#[114]⟩] w fun e w'=>e= .returned (.tuple #[.string (ts (if (tx s).head? = some 114 then (tx s).tail else tx s)),.bool (decide ((tx s).head? = some 114))])/\w=w':=by
 refine(Tryz.strings_CutPrefix s ⟨#[114]⟩ w).mono ?_;rintro e w' ⟨rfl,rfl⟩
 have h1:Lib.hasPrefix (tx s) [114]=decide ((tx s).head? = some 114):=by
  unfold Lib.hasPrefix;cases tx s with
  | nil=>rfl
  | cons b r =>
   rw[Bool.eq_iff_iff];simp only[List.isPrefixOf,Bool.and_true,beq_iff_eq,decide_eq_true_eq,List.head?_cons,Option.some.injEq];exact eq_comm
 have h2:Lib.trimPrefix (tx s) [114]=if (tx s).head? = some 114 then (tx s).tail else tx s:=by
  unfold Lib.trimPrefix;rw[h1];by_cases h:(tx s).head? = some 114
  ·rw[if_pos (by simp[h]),if_pos h];simp
  ·rw[if_neg (by simp[h]),if_neg h]
 refine⟨?_,rfl⟩;show Ending.returned (.tuple #[.string ⟨(Lib.trimPrefix (tx s) [114]).toArray⟩,.bool (Lib.hasPrefix (tx s) [114])])=_;rw[h1,h2]
open Go.RowKit
theorem Bu.ext {w w':World}{B b:Nat}{l:Sg.AO}(h:Bu w B b l)(e:Aa w w'):Bu w' B b l:=by
 have key:∀ p,Lib.BuilderAt 53 5 B b p (Lib.byteCells l) w->Lib.BuilderAt 53 5 B b p (Lib.byteCells l) w':=fun p h=>by
  have hlt:=h.lt;obtain⟨hB,v,hb,hown,hne⟩:=h;refine⟨hB,v,(e.block b hlt).trans hb,hown.kept (row:=none) ⟨e.os,e.tape,e.output,e.size,fun k hk _=>e.block k hk⟩ ?_,hne⟩;cases v.ownBlock with
  | none=>exact .inl rfl
  | some g=>exact .inr (by simp)
 exact h.imp (key _) (key _)
theorem Bu.lt {w:World}{B b:Nat}{l:Sg.AO}(h:Bu w B b l):B<=b/\b<w.heap.size:=h.elim (fun h=>⟨h.1,h.lt⟩) (fun h=>⟨h.1,h.lt⟩)
theorem DP (B b:Nat)(l s:Sg.AO)(w:World)(h:Bu w B b l)(hlen:l.length+s.length<=100000) :
  Calls Tryz.prog 19 #[.pointer (some ⟨b,0,none⟩),.string (ts s)] w fun e w'=>e= .returned (.tuple #[.int .i64 s.length,.nilIface])/\Bu w' B b (l++s)/\Below B w w':=by
 have hlt:=h.lt;refine(Wq B b _ (ts s) w h (by rw[Lib.byteCells_length,BB];omega) (by omega)).mono ?_;rintro e w' ⟨rfl,h1,h2⟩;refine⟨rfl,.inr ?_,h2⟩;have e1:Lib.byteCells (l++s)=Lib.byteCells l++Lib.strCells (ts s):=by simp[Lib.byteCells,Lib.strCells]
 rw[e1];exact h1
theorem K5 (B b:Nat)(l:Sg.AO)(w:World)(h:Bu w B b l) :
  Calls Tryz.prog 21 #[.pointer (some ⟨b,0,none⟩)] w fun e w'=>e= .returned (.string (ts l))/\Below B w w':=by
 have hlt:=h.lt;exact Tryz.Builder_String_any B b l w h (by omega)
set_option maxRecDepth 100000 in
set_option maxHeartbeats 4000000 in
theorem Nx (A Ac:Option Addr)(c cc:Nat)(g:Sg.Ae)(l:List Int)(w:World)(hG:Gl w)(h:Eg w A g)(hc:Rd w 1 Ac l.length (Ah l)) :
  Calls Tryz.prog 46 #[.agg #[.slice A g.length c],.slice Ac l.length cc] w fun e w'=>e= .returned (.string (ts (Sg.Ht g l)))/\Aa w w':=by
 have hgl:=h.1;have hll:=hc.big;have HVC:=lh fun w' (e:Aa w w')=>Gu A Ac c cc g l w' (h.ext e) (hc.ext e);have E0:=lh ((Aa.rfl' w).al (.cells #[.slice A g.length c] 35));have Q0:=lh (show World.cell? (World.alloc w (.cells #[.slice A g.length c] 35)) ⟨w.heap.size,0,none⟩=some (.slice A g.length c) by simp[go_sem]);have H:=lh h;have HC:=lh hc;have HG:=lh hG;clear h hc hG;cases hv:(Sg.AG g && Sg.AT g l)
 ·have HN:Hid (Sg.Ht g l=[]):=lh (Sg.LP hv);have HV:=lh hv;clear hv;go_enter Tryz.func46,Tryz.ntmps46;go_wp2_with fail
  refine(HVC.out _ E0.out).mono ?_;rintro e w2 ⟨rfl,he⟩;rw[HV.out];go_wp2;go_ret;exact⟨by rw[HN.out];rfl,E0.out.tr he⟩
 ·have hvw:=hv;rw[Bool.and_eq_true] at hvw;obtain⟨hvg,hvc⟩:=hvw;have HF:=lh (Sg.Mk hvg hvc);have hg10:=Sg.FE hvg;have HLE:=lh (Sg.Cu hvc);have HR:=lh (Sg.CX hvc);have HNC:=lh fun (i:Nat) (n:Sg.BV) (hn:g[i]? = some n)=>Sg.Ml hvg hn;have HLS:=lh fun (i:Nat) (n:Sg.BV) (x:Int) (hn:g[i]? = some n) (hx:l[i]? = some x)=>Sg.IR (Sg.Cu hvc) hn hx;have HLN:=lh (Sg.Ie (Sg.Cu hvc) (fun x hx=>(Sg.CX hvc x hx).2));have HV:=lh hv;clear hv hvg hvc;go_enter Tryz.func46,Tryz.ntmps46;go_wp2_with fail
  refine(HVC.out _ E0.out).mono ?_;rintro e w2 ⟨rfl,he⟩;rw[HV.out];have EW:=lh (E0.out.tr he);have q2:=he.cellE Q0.out;have bq2:=AA q2;have HB:=lh (Lib.fresh_isBuilder 53 5 w2);have EB:=lh ((Aa.rfl' w2).al (.cells #[.pointer none,.slice none 0 0] 53));have hbq:w.heap.size<w2.heap.size+1:=by omega
  clear he E0 Q0;go_wp2_with fail
  go_loopw [15] (fun s15 wr=>∃ j:Nat,j<=g.length/\s15= .int .i64 j/\Hid (Aa w2 wr)/\Hid (Bu wr w2.heap.size w2.heap.size (Sg.DH g l j))) (fun s15 _=>g.length - (intOf s15).toNat)
  case atStart=>exact⟨0,Nat.zero_le _,rfl,EB,HB⟩
  case round =>
   clear EB HB q2 bq2 hbq;obtain⟨j,hj,rfl,E,BU⟩:=hrel;by_cases hlt:j<g.length
   ·obtain⟨⟨nk,nf⟩,b,o,Ap,cp,hn,rfl,hkc,hs,hf,hfl⟩:=(H.out.ext (EW.out.tr E.out)).at_ hlt;obtain⟨bc,oc,x,rfl,hx,hxc⟩:=(HC.out.ext (EW.out.tr E.out)).at1 (show j<l.length by have:=HLE.out;omega);have hxr:=HR.out x (List.mem_of_getElem? hx);obtain⟨y,rfl⟩:=Int.eq_ofNat_of_zero_le hxr.1;have hjx:(j:Int)<(g.length:Int):=by omega
    have hjy:(j:Int)<(l.length:Int):=by have:=HLE.out;omega
    have hln:=HLN.out j;have HT:=lh (HLS.out j _ _ hn hx);have hnc:=HNC.out j _ hn;have hfm:=Sg.Kk nf;have hyl:=Sg.GQ (n:=y) (by omega);have HXC:=lh hxc;have HFm:=lh fun w' (e:Aa wr w')=>I9 Ap cp nf w' ((HG.out.ext (EW.out.tr E.out)).ext e) (hf.ext e) hfl;have HIt:=lh fun w' (e:Aa wr w')=>Pf y (by omega) w' ((HG.out.ext (EW.out.tr E.out)).ext e);clear hn hx hxr hf;dsimp only at hnc hkc hs hfl;have b1:=AA hkc;have b2:=AA hs;have b3:=AA hxc;generalize Sg.DH g l j=x at *;rcases hnc with ⟨rfl,hnf⟩ | ⟨rfl | rfl,hvf⟩
    ·clear hnf;have hL:=lh (Sg.Mm (n:=⟨0,nf⟩) rfl (y:Int));have s1:=CT (a:=Sg.De++[32]) (b:=Sg.BE y) (by simp[Sg.De];omega);have e1:=lh ((Aa.rfl' wr).al (.cells #[.int .i64 0,.slice Ap nf.length cp] 70));have HW:=fun w' (hB:Bu w' w2.heap.size w2.heap.size x)=>DP w2.heap.size w2.heap.size x (Sg.De++[32]++Sg.BE y) w' hB (by simp[Sg.De];omega);rw[<- BY (Sg.De++[32])] at HW;have HW:=lh HW;go_wp2_with fail
     refine(HIt.out _ e1.out).mono ?_;rintro e w4 ⟨rfl,he4⟩;have e4:=lh (e1.out.tr he4);clear he4;go_wp2_with fail
     refine(HW.out _ (BU.out.ext e4.out)).mono ?_;rintro e w5 ⟨rfl,hB5,hb5⟩;have B5:=lh hB5;have H5:=lh hb5;clear hB5 hb5;go_wp2_with fail
     refine(DP _ _ _ [10] _ B5.out (by simp[Sg.De];omega)).mono ?_;rintro e w6 ⟨rfl,hB6,hb6⟩;have B6:=lh hB6;have H6:=lh hb6;clear hB6 hb6;go_wp2;go_roundw
     case rel=>exact⟨j+1,by omega,by go_num,lh (((E.out.tr e4.out).trans H5.out).trans H6.out),lh (by rw[HT.out,hL.out];exact B6.out)⟩
     case measure=>simp[intOf];omega
    ·have hL:=lh (Sg.NU (n:=⟨1,nf⟩) rfl (y:Int));have s1:=CT (a:=Sg.EZ++[32]) (b:=Sg.EY nf) (by simp[Sg.EZ];omega);have e1:=lh ((Aa.rfl' wr).al (.cells #[.int .i64 1,.slice Ap nf.length cp] 70));have HW:=fun w' (hB:Bu w' w2.heap.size w2.heap.size x)=>DP w2.heap.size w2.heap.size x (Sg.EZ++[32]++Sg.EY nf) w' hB (by simp[Sg.EZ];omega);rw[<- BY (Sg.EZ++[32])] at HW;have HW:=lh HW;go_wp2_with fail
     refine(HFm.out _ e1.out).mono ?_;rintro e w4 ⟨rfl,he4⟩;have e4:=lh (e1.out.tr he4);clear he4;go_wp2_with fail
     refine(HW.out _ (BU.out.ext e4.out)).mono ?_;rintro e w5 ⟨rfl,hB5,hb5⟩;have B5:=lh hB5;have H5:=lh hb5;clear hB5 hb5;go_wp2_with fail
     refine(DP _ _ _ [10] _ B5.out (by simp[Sg.EZ];omega)).mono ?_;rintro e w6 ⟨rfl,hB6,hb6⟩;have B6:=lh hB6;have H6:=lh hb6;clear hB6 hb6;go_wp2;go_roundw
     case rel=>exact⟨j+1,by omega,by go_num,lh (((E.out.tr e4.out).trans H5.out).trans H6.out),lh (by rw[HT.out,hL.out];exact B6.out)⟩
     case measure=>simp[intOf];omega
    ·have hL:=lh (Sg.NV (n:=⟨2,nf⟩) rfl (y:Int));have s1:=CT (a:=Sg.E_++[32]) (b:=Sg.EY nf) (by simp[Sg.E_];omega);have e1:=lh ((Aa.rfl' wr).al (.cells #[.int .i64 2,.slice Ap nf.length cp] 70));have HW:=fun w' (hB:Bu w' w2.heap.size w2.heap.size x)=>DP w2.heap.size w2.heap.size x (Sg.E_++[32]++Sg.EY nf) w' hB (by simp[Sg.E_];omega);rw[<- BY (Sg.E_++[32])] at HW;have HW:=lh HW;go_wp2_with fail
     refine(HFm.out _ e1.out).mono ?_;rintro e w4 ⟨rfl,he4⟩;have e4:=lh (e1.out.tr he4);clear he4;go_wp2_with fail
     refine(HW.out _ (BU.out.ext e4.out)).mono ?_;rintro e w5 ⟨rfl,hB5,hb5⟩;have B5:=lh hB5;have H5:=lh hb5;clear hB5 hb5;go_wp2_with fail
     refine(DP _ _ _ [10] _ B5.out (by simp[Sg.E_];omega)).mono ?_;rintro e w6 ⟨rfl,hB6,hb6⟩;have B6:=lh hB6;have H6:=lh hb6;clear hB6 hb6;go_wp2;go_roundw
     case rel=>exact⟨j+1,by omega,by go_num,lh (((E.out.tr e4.out).trans H5.out).trans H6.out),lh (by rw[HT.out,hL.out];exact B6.out)⟩
     case measure=>simp[intOf];omega
   ·obtain rfl:j=g.length:=by omega
    go_wp2_with fail
    refine(K5 _ _ _ _ BU.out).mono ?_;rintro e w3 ⟨rfl,he3⟩;go_wp2;go_ret;exact⟨by rw[HF.out];rfl,EW.out.tr (E.out.trans he3)⟩
open Go.RowKit
def Zu (R m:Nat)(l:List ByteArray)(w:World)(e:Ending)(w':World):Prop:=∃ x:ByteArray,e= .returned (.string x)/\x ∈ l/\Gn w' R (m+1)/\AF (fun b=>b=R) w w'
def YQ (R m N:Nat)(w:World)(e:Ending)(w':World):Prop:=∃ x:ByteArray,e= .returned (.string x)/\x.size<=N/\Gn w' R m/\AF (fun b=>b=R) w w'
theorem Rd.mod0s {w w':World}{F:Nat->Prop}{A:Option Addr}{n:Nat}{l:List ByteArray}(h:Rd w 1 A n (Bh l))(hm:AF F w w')(hF:∀ b,AE A=some b->¬ F b):Rd w' 1 A n (Bh l):=by
 obtain⟨h1,h0,h2⟩:=h;refine⟨h1,h0,fun hp=>?_⟩;obtain⟨b,o,rfl,h3⟩:=h2 hp;exact⟨b,o,rfl,fun k u hu=>hm.cellE (h3 k u hu) (hF b rfl)⟩
set_option maxHeartbeats 1000000 in
theorem Wg (R m:Nat)(A:Option Addr)(n c:Nat)(l:List ByteArray)(w:World)(h:Gn w R m)(hl:Rd w 1 A n (Bh l))(hn:0<n)(hn2:n<=1000)(hoff:∀ b,AE A=some b->b≠R)(hm:m<=1000000) :
  Calls Tryz.prog 25 #[.pointer (some ⟨R,0,none⟩),.slice A n c] w (Zu R m l w):=by
 have HP:=lh (D7 R m (n:Int) w h hm (by omega) (by omega));have HL:=lh hl;have HO:=lh hoff;clear hl hoff;go_enter Tryz.func25,Tryz.ntmps25;go_wp2_with fail
 refine HP.out.mono ?_;rintro e w1 ⟨x,rfl,h0,h1,hr,hm1⟩;obtain⟨j,rfl⟩:=Int.eq_ofNat_of_zero_le h0;have hj:j<n:=by omega
 have HL1:=lh (HL.out.mod0s hm1 (fun b hb e=>HO.out b hb e));obtain⟨b,o,y,rfl,hy,hc⟩:=HL1.out.atT hj;have hb:=AA hc;have Hy:=lh hy;have Hr:=lh hr;have Hm:=lh hm1;clear hy hr hm1 h1 h0;go_wp2;go_ret;exact⟨y,rfl,List.mem_of_getElem? Hy.out,Hr.out,Hm.out⟩
theorem Nj {l:List ByteArray}(h:l.all (fun b=>b.size == 1)=true){y:ByteArray}(hy:y ∈ l):y.size=1:=by
 have:=List.all_eq_true.1 h y hy;simpa using this
theorem Pc (w:World)(l:List ByteArray)(t:Nat)(h:l.length<=1000):Rd (World.alloc w (.cells (Bh l).toArray t)) 1 (some ⟨w.heap.size,0,none⟩) l.length (Bh l):=by
 refine⟨by simp,by unfold maxLen;omega,fun _=>⟨_,_,rfl,fun k u hu=>?_⟩⟩;simp[go_sem,hu]
theorem zk1{p:Prop}(h:p:=by
 go_upto_region 6 with fail
 refine zb 12 (fun W=>True) ?_ (fun hHeld=>?_)
 ·exact trivial
 refine zy 0 ?_;refine zy 1 ?_;refine zy 2 ?_;refine zy 3 ?_;refine zy 7 ?_;refine zy 8 ?_;refine zy 9 ?_;refine zy 10 ?_;refine zr 4 rfl fun K hK=>?_;go_simp;try simp only[pg]
 refine zh (hK.out _ _) (trivial) fun hHeld=>?_;clear hK K;try simp only[Act.put,pu]
 refine zr 5 rfl fun K hK=>?_;go_simp;refine(Wg R (m+2) (some ⟨w2.heap.size,0,none⟩) 7 7 [⟨#[48]⟩,⟨#[49]⟩,⟨#[32]⟩,⟨#[114]⟩,⟨#[100]⟩,⟨#[10]⟩,⟨#[57]⟩] _ ((R2.out.ext ((Aa.rfl' w2).dr)).ext ((Aa.rfl' w2.drew).al (.cells (Bh [⟨#[48]⟩,⟨#[49]⟩,⟨#[32]⟩,⟨#[114]⟩,⟨#[100]⟩,⟨#[10]⟩,⟨#[57]⟩]).toArray 9))) (Pc w2.drew [⟨#[48]⟩,⟨#[49]⟩,⟨#[32]⟩,⟨#[114]⟩,⟨#[100]⟩,⟨#[10]⟩,⟨#[57]⟩] 9 (by simp)) (by omega) (by omega) (by intro b hb;simp[AE] at hb;omega) (by omega)).mono ?_;rintro e w3 ⟨z,rfl,hz,hr3,hm3⟩;have hz1:=Nj rfl hz;have R3:=lh hr3;have M3:=lh ((M2.out.tr' (AF.of (((Aa.rfl' w2).dr).al (.cells (Bh [⟨#[48]⟩,⟨#[49]⟩,⟨#[32]⟩,⟨#[114]⟩,⟨#[100]⟩,⟨#[10]⟩,⟨#[57]⟩]).toArray 9)))).tr' hm3);have fs:¬ (9223372036854775807<k+1):=by omega
 have fs2:¬ (9223372036854775807<k+1+(s.size - (k+1))):=by omega
 clear hz hr3 hm3;try go_wp2_with fail
 refine zh (hK.out _ _) (trivial) fun hHeld=>?_;clear hK K;try simp only[Act.put,pu]
 refine zy 6 ?_;refine zy 11 ?_;refine zr 12 rfl fun K hK=>?_;go_simp;refine hK.out _ _ (fun e=>absurd rfl e) (fun hh=>?_);clear hK K hHeld hh;try simp only[Act.put,pu]
 refine zn ?_;go_wp2;go_ret;exact⟨s.extract 0 k++z++s.extract (k+1) s.size,rfl,by rw[ByteArray.size_append,ByteArray.size_append,ByteArray.size_extract,ByteArray.size_extract];omega,R3.out,M3.out⟩):p:=h
set_option maxRecDepth 100000 in
set_option maxHeartbeats 4000000 in
theorem Vw (R m:Nat)(s:ByteArray)(w:World)(h:Gn w R m)(hs:s.size<=2000)(hm:m<=900000) :
  Calls Tryz.prog 66 #[.pointer (some ⟨R,0,none⟩),.string s] w (YQ R (m+3) (s.size+1) w):=by
 have hRl:=h.lt;have HP:=lh (D7 R m ((s.size:Int)+1) w h (by omega) (by omega) (by omega));have wsz:IntKind.i64.wrap ((s.size:Int)+1)=(s.size:Int)+1:=IntWalk.i64_in _ (by omega);clear h;go_enter Tryz.func66,Tryz.ntmps66;go_wp2_with fail
 refine HP.out.mono ?_;rintro e w1 ⟨x,rfl,h0,h1,hr1,hm1⟩;obtain⟨k,rfl⟩:=Int.eq_ofNat_of_zero_le h0;have hk:k<=s.size:=by omega
 have HP2:=lh (D7 R (m+1) 5 w1 hr1 (by omega) (by omega) (by omega));have M1:=lh hm1;have hRl1:=hr1.lt;clear h0 h1 hr1 hm1 HP;go_wp2_with fail
 refine HP2.out.mono ?_;rintro e w2 ⟨y,rfl,y0,y1,hr2,hm2⟩;have R2:=lh hr2;have M2:=lh (M1.out.tr' hm2);have hRl2:=hr2.lt;have hkx:(k:Int)<=(s.size:Int):=by omega
 have hk0:(0:Int)<=(k:Int):=by omega
 clear hr2 hm2 M1 HP2;have HW:=lh (show Calls Tryz.prog 66 #[.pointer (some ⟨R,0,none⟩),.string s] w2 (fun _ _=>True)->True from fun _=>trivial);clear HW;by_cases ha:y=0\/y=1
 ·have ey:((y == 0)=true)\/((y == 0)=false/\(y == 1)=true):=by
   rcases ha with rfl | rfl
   ·exact .inl rfl
   ·exact .inr ⟨rfl,rfl⟩
  by_cases hlt:k<s.size
  ·have hkl:(k:Int)<(s.size:Int):=by omega
   have wk:IntKind.i64.wrap ((k:Int)+1)=(k:Int)+1:=IntWalk.i64_in _ (by omega);have hk1:(k:Int)+1<=(s.size:Int):=by omega
   have hk10:(0:Int)<=(k:Int)+1:=by omega
   clear ha;rcases ey with ey | ⟨ey,ey2⟩
   ·exact zk1
   ·exact zk1
  ·have hkl:¬ (k:Int)<(s.size:Int):=by omega
   clear ha;rcases ey with ey | ⟨ey,ey2⟩
   all_goals
    go_wp2;go_ret;exact⟨s,rfl,by omega,R2.out.more (by omega),M2.out⟩
 ·have e0:(y == 0)=false:=by rw[beq_eq_false_iff_ne];omega
  have e1:(y == 1)=false:=by rw[beq_eq_false_iff_ne];omega
  clear ha;by_cases h2:y=2
  ·have e2:(y == 2)=true:=by simp[h2]
   clear h2;go_wp2;go_ret;exact⟨s.extract 0 k,rfl,by rw[ByteArray.size_extract];omega,R2.out.more (by omega),M2.out⟩
  ·have e2:(y == 2)=false:=by rw[beq_eq_false_iff_ne];exact h2
   by_cases h3:y=3
   ·have e3:(y == 3)=true:=by simp[h3]
    clear h2 h3;have HOF:=lh (Wg R (m+2) (some ⟨w2.heap.size,0,none⟩) 4 4 [⟨#[48]⟩,⟨#[32]⟩,⟨#[10]⟩,⟨#[120]⟩] _ (R2.out.ext ((Aa.rfl' w2).al (.cells (Bh [⟨#[48]⟩,⟨#[32]⟩,⟨#[10]⟩,⟨#[120]⟩]).toArray 9))) (Pc w2 [⟨#[48]⟩,⟨#[32]⟩,⟨#[10]⟩,⟨#[120]⟩] 9 (by simp)) (by omega) (by omega) (by intro b hb;simp[AE] at hb;omega) (by omega));go_wp2_with fail
    refine HOF.out.mono ?_;rintro e w3 ⟨z,rfl,hz,hr3,hm3⟩;have hz1:=Nj rfl hz;have R3:=lh hr3;have M3:=lh ((M2.out.tr' (AF.of ((Aa.rfl' w2).al (.cells (Bh [⟨#[48]⟩,⟨#[32]⟩,⟨#[10]⟩,⟨#[120]⟩]).toArray 9)))).tr' hm3);have fs:¬ (s.size+z.size > 9223372036854775807):=by omega
    clear hz hr3 hm3 HOF;go_wp2;go_ret;exact⟨s++z,rfl,by rw[ByteArray.size_append];omega,R3.out,M3.out⟩
   ·have e3:(y == 3)=false:=by rw[beq_eq_false_iff_ne];exact h3
    clear h2 h3;go_wp2;go_ret;exact⟨s,rfl,by omega,R2.out.more (by omega),M2.out⟩
end Go.Proofs.YthibllkleakiiaaGreatDoor
