/- Parts of one proof, joined. The reference's reckoned and run: contracts, and more. Conditions: in the theorems. -/
import Derived.Deep.QuietTactic
import Derived.BigQuiet
import Derived.StillTailTactics
import Derived.Deep.RegionHeld3
import Derived.Test.YthibllkleakiiaaGreatDoorSpecOne
namespace Go.Proofs.YthibllkleakiiaaGreatDoor
open Go.RowKit
theorem Au.nw {w0 w:World}(e:Aa w0 w)(g:Nat)(l:List Int)(cs:Array Value)(hc:cs.toList=Ah l)(hl:l.length<=4194304)(hg:w.heap.size=g) :
  Au (w.alloc (.cells cs 3)) w0.heap.size 3 1 (some ⟨g,0,none⟩) l.length l.length (Ah l):=by
 subst hg;rw[<- hc];have:cs.size=l.length:=by rw[<- Array.length_toList,hc];simp
 exact Au.new w 3 1 cs l.length e.size (by unfold maxLen;omega) (by omega)
theorem YI {vals:List Int}{n:Int}{x:Int}(h:vals[n.toNat]? = some x):Sg.rd vals n=x:=by simp[Sg.rd,h]
theorem zi1{p:Prop}(h:p:=by
 go_wp2_with (first
  | (at_builtin;refine C1 rfl rfl Bc rfl ho1' rfl ho2.rd (En _) (by unfold maxLen;omega) (by omega) e2.size ?_;intro A3 c3 w3 ho3 hg3 hat3))
 go_ret2;rw[Hrk.out];refine⟨A3,c3,?_,?_,e2.gr hg3 (fun g hg=>(ho1'.lt hg).1),hy0,hy1⟩
 ·simp
 ·simpa using ho3):p:=h
set_option maxRecDepth 100000 in
set_option maxHeartbeats 2000000 in
theorem So (Af Av:Option Addr)(cf cv nv:Nat)(f:List Sg.At)(vals:List Int)(ok:Sg.TA f nv)(hr:Sg.Bq vals)(k:Nat) :
  ∀ (i:Nat) (w:World),i<k->i<f.length->k<=12->Rd w 5 Af f.length (AH f)->Rd w 1 Av nv (Ah vals) ->
  Calls Tryz.prog 108 #[.agg #[.slice Af f.length cf],.slice Av nv cv,.int .i64 i] w fun e w'=>∃ A' c',e= .returned (.tuple #[.int .i64 (Sg.Cq f vals k i).1,.slice A' (Sg.Cq f vals k i).2.length c']) /\
   Au w' w.heap.size 3 1 A' (Sg.Cq f vals k i).2.length c' (Ah (Sg.Cq f vals k i).2)/\Aa w w'/\0<=(Sg.Cq f vals k i).1/\(Sg.Cq f vals k i).1<=999:=by
 induction k with
 | zero=>intro i w h;omega
 | succ k ih =>
  intro i w hik hif hk12 hf hv;have IH:=lh ih;clear ih;obtain⟨b,o,p,rfl,hp,hc0,hc1,hc2,hc3,hc4⟩:=hf.atP hif;have hlen:=ok.len;have hbw:=AA hc0;have hgp:=ok.good i p hp;have hrk:=Sg.TC f vals k i hp;have hrp:=ok.reads p (List.mem_of_getElem? hp);obtain⟨pk,pa,pb,pc,pn⟩:=p;dsimp only at *;have cases:pk=0\/pk=1\/(2<=pk/\pk<=7)\/pk=8\/(pk<0\/8<pk):=by omega
  rcases cases with h | h | h | h | h
  ·subst h;rw[SZ i rfl] at hgp;simp only[Bool.and_eq_true,Sg.Cb,decide_eq_true_eq] at hgp;rw[if_pos rfl] at hrk;have Hp:=lh hp;have Hrk:=lh hrk;clear hp hrk;go_enter Tryz.func108,Tryz.ntmps108;go_wp2;go_ret2;rw[Hrk.out];exact⟨_,_,rfl,Au.nw (((Aa.rfl' w).al _).al _) _ [] #[] rfl (by simp) (by simp),(((Aa.rfl' w).al _).al _).al _,by show 0<=pn;omega,by show pn<=999;omega⟩
  ·subst h;rw[Ve i rfl] at hgp;simp only[Bool.and_eq_true,Sg.Cb,decide_eq_true_eq] at hgp;rw[if_neg (by omega),if_pos rfl] at hrk;have hN:=hrp rfl;obtain⟨N,rfl⟩:=Int.eq_ofNat_of_zero_le hgp.2.1;obtain⟨bv,ov,x,rfl,hx,hcx⟩:=hv.at1 (k:=N) (by omega);have hbv:=AA hcx;have hbv1:bv<w.heap.size+1:=by omega
   have hbv2:bv<w.heap.size+1+1:=by omega
   have hxr:=hr x (List.mem_of_getElem? hx);have hrx:Sg.rd vals (N:Int)=x:=YI (by simpa using hx);rw[hrx] at hrk;have Hrk:=lh hrk;have hNn:N<nv:=by omega
   clear hp hrk hx hrx hgp;go_enter Tryz.func108,Tryz.ntmps108;go_wp2;go_region
   go_wp2;go_ret2;rw[Hrk.out];exact⟨_,_,rfl,(Au.nw (((Aa.rfl' w).al _).al _) _ [(N:Int)] #[.int .i64 N] rfl (by simp) (by simp)).dr,((((Aa.rfl' w).al _).al _).al _).dr,by show 0<=x;omega,by show x<=999;omega⟩
  ·rw[S_ i h] at hgp;simp only[Bool.and_eq_true,Sg.Cb,decide_eq_true_eq] at hgp;rw[if_neg (by omega),if_neg (by omega),if_neg (by omega)] at hrk;obtain⟨⟨⟨⟨ha0,ha1⟩,hb0,hb1⟩,_⟩,_⟩:=hgp;obtain⟨a,rfl⟩:=Int.eq_ofNat_of_zero_le ha0;obtain⟨d,rfl⟩:=Int.eq_ofNat_of_zero_le hb0;have hl1:=Sg.FY f vals k a;have hl2:=Sg.FY f vals k d;have hpow:2 ^ k<=2 ^ 11:=Nat.pow_le_pow_right (by omega) (by omega);have k0:(pk == 0)=false:=by rw[beq_eq_false_iff_ne];omega
   have k1:(pk == 1)=false:=by rw[beq_eq_false_iff_ne];omega
   have k8:(pk == 8)=false:=by rw[beq_eq_false_iff_ne];omega
   generalize hr1:Sg.Cq f vals k a=r1 at *;generalize hr2:Sg.Cq f vals k d=r2 at *;have Hrk:=lh hrk;have Hr1:=lh hr1;have Hr2:=lh hr2;obtain⟨v1,l1⟩:=r1;obtain⟨v2,l2⟩:=r2;clear hp hrk hr1 hr2;go_enter Tryz.func108,Tryz.ntmps108;go_wp2_with fail
   refine(IH.out a _ (by omega) (by omega) (by omega) (hf.ext (((Aa.rfl' w).al _).al _)) (hv.ext (((Aa.rfl' w).al _).al _))).mono ?_;rw[Hr1.out];rintro e w1 ⟨A1,c1,rfl,ho1,he1,hx0,hx1⟩;have e0:=((Aa.rfl' w).al (.cells #[.slice (some ⟨b,o,none⟩) f.length cf] 68)).al (.cells #[.int .i64 pk,.int .i64 a,.int .i64 d,.int .i64 pc,.int .i64 pn] 111);have e1:=e0.tr he1;obtain⟨bc,bf⟩:=Ga he1;go_wp2_with fail
   refine(IH.out d _ (by omega) (by omega) (by omega) (hf.ext e1) (hv.ext e1)).mono ?_;rw[Hr2.out];rintro e w2 ⟨A2,c2,rfl,ho2,he2,hy0,hy1⟩;have e2:=e1.tr he2;obtain⟨bc2,bf2⟩:=Ga he2;have hz1:w.heap.size+1<w1.heap.size:=by have:=he1.size;simp at this;omega
   have hz2:w.heap.size<w1.heap.size:=by omega
   have ho1':=(ho1.mono e0.size).ext he2;have hj:=Sg.Gr pk v1 v2 ⟨hx0,hx1⟩ ⟨hy0,hy1⟩;dsimp only at *
   go_wp2_with (first
    | (go_at_call 144;refine(Qt _ _ _ _ hx0 hx1 hy0 hy1).mono ?_;rintro e w' ⟨rfl,rfl⟩)
    | (at_builtin;refine C1 rfl rfl Bc rfl ho1' rfl ho2.rd (En _) (by unfold maxLen;omega) (by omega) e2.size ?_;intro A3 c3 w3 ho3 hg3 hat3))
   go_ret2;rw[Hrk.out];refine⟨A3,c3,?_,?_,e2.gr hg3 (fun g hg=>(ho1'.lt hg).1),hj.1,hj.2⟩
   ·simp
   ·simpa using ho3
  ·subst h;rw[Ta i rfl] at hgp;simp only[Bool.and_eq_true,Sg.Cb,decide_eq_true_eq] at hgp;rw[if_neg (by omega),if_neg (by omega),if_pos rfl] at hrk;obtain⟨⟨⟨⟨ha0,ha1⟩,hb0,hb1⟩,hd0,hd1⟩,_⟩:=hgp;obtain⟨a,rfl⟩:=Int.eq_ofNat_of_zero_le ha0;obtain⟨d,rfl⟩:=Int.eq_ofNat_of_zero_le hb0;obtain⟨d',rfl⟩:=Int.eq_ofNat_of_zero_le hd0;have hl1:=Sg.FY f vals k a;have hpow:2 ^ k<=2 ^ 11:=Nat.pow_le_pow_right (by omega) (by omega);generalize hr1:Sg.Cq f vals k a=r1 at *;obtain⟨v1,l1⟩:=r1;dsimp only at *;have Hr1:=lh hr1;clear hr1 hp;by_cases hv1:v1=0
   ·rw[if_pos hv1] at hrk;have hl2:=Sg.FY f vals k d';generalize hr2:Sg.Cq f vals k d'=r2 at *;obtain⟨v2,l2⟩:=r2;dsimp only at *;have Hrk:=lh hrk;have Hr2:=lh hr2;have z1:(v1 == 0)=true:=by simp[hv1]
    clear hrk hr2 hv1;go_enter Tryz.func108,Tryz.ntmps108;go_wp2_with fail
    refine(IH.out a _ (by omega) (by omega) (by omega) (hf.ext (((Aa.rfl' w).al _).al _)) (hv.ext (((Aa.rfl' w).al _).al _))).mono ?_;rw[Hr1.out];rintro e w1 ⟨A1,c1,rfl,ho1,he1,hx0,hx1⟩;have e0:=((Aa.rfl' w).al (.cells #[.slice (some ⟨b,o,none⟩) f.length cf] 68)).al (.cells #[.int .i64 8,.int .i64 a,.int .i64 d,.int .i64 d',.int .i64 pn] 111);have e1:=e0.tr he1;obtain⟨bc,bf⟩:=Ga he1;have hz1:w.heap.size+1<w1.heap.size:=by have:=he1.size;simp at this;omega
    have hz2:w.heap.size<w1.heap.size:=by omega
    go_wp2_with fail
    refine(IH.out d' _ (by omega) (by omega) (by omega) (hf.ext e1) (hv.ext e1)).mono ?_;rw[Hr2.out];rintro e w2 ⟨A2,c2,rfl,ho2,he2,hy0,hy1⟩;have e2:=e1.tr he2;obtain⟨bc2,bf2⟩:=Ga he2;have ho1':=(ho1.mono e0.size).ext he2;dsimp only at *
    exact zi1
   ·rw[if_neg hv1] at hrk;have hl2:=Sg.FY f vals k d;generalize hr2:Sg.Cq f vals k d=r2 at *;obtain⟨v2,l2⟩:=r2;dsimp only at *;have Hrk:=lh hrk;have Hr2:=lh hr2;have z1:(v1 == 0)=false:=by simp[hv1]
    clear hrk hr2 hv1;go_enter Tryz.func108,Tryz.ntmps108;go_wp2_with fail
    refine(IH.out a _ (by omega) (by omega) (by omega) (hf.ext (((Aa.rfl' w).al _).al _)) (hv.ext (((Aa.rfl' w).al _).al _))).mono ?_;rw[Hr1.out];rintro e w1 ⟨A1,c1,rfl,ho1,he1,hx0,hx1⟩;have e0:=((Aa.rfl' w).al (.cells #[.slice (some ⟨b,o,none⟩) f.length cf] 68)).al (.cells #[.int .i64 8,.int .i64 a,.int .i64 d,.int .i64 d',.int .i64 pn] 111);have e1:=e0.tr he1;obtain⟨bc,bf⟩:=Ga he1;have hz1:w.heap.size+1<w1.heap.size:=by have:=he1.size;simp at this;omega
    have hz2:w.heap.size<w1.heap.size:=by omega
    go_wp2_with fail
    refine(IH.out d _ (by omega) (by omega) (by omega) (hf.ext e1) (hv.ext e1)).mono ?_;rw[Hr2.out];rintro e w2 ⟨A2,c2,rfl,ho2,he2,hy0,hy1⟩;have e2:=e1.tr he2;obtain⟨bc2,bf2⟩:=Ga he2;have ho1':=(ho1.mono e0.size).ext he2;dsimp only at *
    exact zi1
  ·rw[Tb i h] at hgp;cases hgp
set_option maxRecDepth 100000 in
set_option maxHeartbeats 1000000 in
theorem SY (Af Av:Option Addr)(cf cv nv:Nat)(f:List Sg.At)(vals:List Int)(ok:Sg.TA f nv)(hr:Sg.Bq vals)(w:World)(hf:Rd w 5 Af f.length (AH f))(hv:Rd w 1 Av nv (Ah vals)) :
  Calls Tryz.prog 72 #[.agg #[.slice Af f.length cf],.slice Av nv cv] w fun e w'=>∃ A' c',e= .returned (.tuple #[.int .i64 (Sg.AJ f vals).1,.slice A' (Sg.AJ f vals).2.length c']) /\
   Au w' w.heap.size 3 1 A' (Sg.AJ f vals).2.length c' (Ah (Sg.AJ f vals).2)/\Aa w w'/\0<=(Sg.AJ f vals).1/\(Sg.AJ f vals).1<=999:=by
 have hlen:=ok.len;have hone:=ok.one;obtain⟨n,hn⟩:∃ n:Nat,n=f.length - 1:=⟨_,rfl⟩;have hl:=Sg.FY f vals f.length n;have hpow:2 ^ f.length<=2 ^ 12:=Nat.pow_le_pow_right (by omega) hlen
 have hrun:Sg.AJ f vals=((Sg.Cq f vals f.length n).1,Sg.AU (Sg.Cq f vals f.length n).2):=by
  unfold Sg.AJ;rw[show ((f.length:Int) - 1)=(n:Int) from by omega]
 rw[hrun];have Hcall:=lh (So Af Av cf cv nv f vals ok hr f.length n);generalize Sg.Cq f vals f.length n=r at *;obtain⟨v,l⟩:=r;dsimp only at *;have Hn:=lh hn;clear hrun ok hn;go_enter Tryz.func72,Tryz.ntmps72;go_wp2_with fail
 rw[show ((f.length:Int) - 1)=(n:Int) from by have:=Hn.out;omega];refine(Hcall.out _ (by have:=Hn.out;omega) (by have:=Hn.out;omega) hlen (hf.ext ((Aa.rfl' w).al _)) (hv.ext ((Aa.rfl' w).al _))).mono ?_;rintro e w1 ⟨A1,c1,rfl,ho1,he1,hx0,hx1⟩;have e1:=((Aa.rfl' w).al _).tr he1;go_wp2_with fail
 refine(Ju _ _ _ _ _ ho1.rd (by omega)).mono ?_;rintro e w2 ⟨A2,c2,rfl,ho2,he2⟩;go_wp2_with fail
 go_ret2;exact⟨A2,c2,rfl,ho2.mono e1.size,e1.tr he2,hx0,hx1⟩
def MR (f:List Sg.At)(n:Nat):List Int:=((List.range n).map Int.ofNat).filter (Sg.Dj f)
theorem Wh (f:List Sg.At)(n:Nat):MR f (n+1)=if Sg.Dj f n=true then MR f n++[(n:Int)] else MR f n:=by
 unfold MR;rw[List.range_succ,List.map_append,List.filter_append];by_cases h:Sg.Dj f n=true
 ·rw[if_pos h];simp[h]
 ·rw[if_neg h];simp[h]
theorem Xw (f:List Sg.At)(n:Nat):(MR f n).length<=n:=by
 unfold MR;have:=List.length_filter_le (Sg.Dj f) ((List.range n).map Int.ofNat);simpa using this
theorem Pd (p:Sg.At)(f:List Sg.At)(n:Int):Sg.Dj (p :: f) n=((p.kind == 1 && p.n == n) || Sg.Dj f n):=by simp[Sg.Dj]
set_option maxRecDepth 100000 in
set_option maxHeartbeats 2000000 in
theorem Oj (A:Option Addr)(c:Nat)(f:List Sg.At)(w:World)(h:Rd w 5 A f.length (AH f))(hb:f.length<=1048576) :
  Calls Tryz.prog 107 #[.agg #[.slice A f.length c]] w fun e w'=>∃ A' c',e= .returned (.slice A' (Sg.AX f).length c')/\Au w' w.heap.size 3 1 A' (Sg.AX f).length c' (Ah (Sg.AX f))/\Aa w w':=by
 go_enter Tryz.func107,Tryz.ntmps107;go_wp2;have hW1:=(Aa.rfl' w).al (.cells #[.slice A f.length c] 68);have hW2:=hW1.al (.cells #[] 3);have hown0:=Au.nw hW1 (w.heap.size+1) [] #[] rfl (by simp) (by simp);have hbox:((w.alloc (.cells #[.slice A f.length c] 68)).alloc (.cells #[] 3)).cell? ⟨w.heap.size,0,none⟩=some (.slice A f.length c):=by simp[go_sem]
 have hsz:w.heap.size<((w.alloc (.cells #[.slice A f.length c] 68)).alloc (.cells #[] 3)).heap.size:=by simp;omega
 go_loopw [3,4] (fun v i wr=>∃ (n:Nat) (A':Option Addr) (c':Nat),n<=10/\i= .int .i64 n/\v= .slice A' (MR f n).length c'/\Au wr w.heap.size 3 1 A' (MR f n).length c' (Ah (MR f n))/\Aa w wr/\wr.cell? ⟨w.heap.size,0,none⟩=some (.slice A f.length c)/\AE A'≠some w.heap.size) (fun _ i _=>10 - (intOf i).toNat)
 case atStart =>
  exact⟨0,some ⟨w.heap.size+1,0,none⟩,0,by omega,rfl,rfl,hown0,hW2,hbox,by simp[AE]⟩
 case round =>
  clear hown0 hbox hW2 hsz;obtain⟨n,A',c',hn,rfl,rfl,hown,hext,hbox,hne⟩:=hrel;have hmr:=Xw f n;by_cases hlt:n<10
  ·go_wp2;go_loop [3,5] (fun v i=>∃ k:Nat,k<=f.length/\i= .int .i64 k/\v= .slice A' (MR f n).length c'/\Sg.Dj (f.drop k) n=Sg.Dj f n) (fun _ i=>f.length - (intOf i).toNat)
   case atStart=>exact⟨0,Nat.zero_le _,rfl,rfl,rfl⟩
   case round =>
    obtain⟨k,hk,rfl,rfl,hrd⟩:=hrel;have Hms:=lh (Wh f n);by_cases hlk:k<f.length
    ·obtain⟨b,o,p,rfl,hp,hc0,hc1,hc2,hc3,hc4⟩:=(h.ext hext).atP hlk;rw[DO f k hp,Pd] at hrd;obtain⟨pk,pa,pb,pc,pn⟩:=p;dsimp only at *;have Hrd:=lh hrd;clear hrd hp;by_cases h1:pk=1/\pn=n
     ·obtain⟨rfl,rfl⟩:=h1;go_wp2_with (at_builtin;refine AB rfl rfl Bc rfl hown rfl rfl (Bn _ _) (by omega) (by omega) hext.size ?_;intro A2 c2 w2 hown2 hg2 hat2)
      have hhr:Sg.Dj f n=true:=by rw[<- Hrd.out];simp
      have e1:=Hms.out;rw[if_pos hhr] at e1;go_roundw
      case rel =>
       refine⟨n+1,A2,c2,by omega,by go_num,by rw[e1];simp,by rw[e1];simpa using hown2,hext.gr hg2 fun g hg=>(hown.lt hg).1,?_,?_⟩
       ·exact(World.cell?_of_block (hg2.block _ (AA hbox) (fun e=>hne e.symm))).trans hbox
       ·rcases hat2 with hat2 | ⟨g,hat2,hg⟩
        ·rw[hat2];exact hne
        ·rw[hat2];intro e;injection e with e;have:=hext.size;have:=AA hbox;omega
      case measure=>simp[intOf];omega
     ·have hnot:(pk == 1 && pn == (n:Int))=false:=by
       rw[Bool.and_eq_false_iff,beq_eq_false_iff_ne,beq_eq_false_iff_ne];omega
      by_cases h2:pk=1
      ·have h3:¬ pn=n:=fun e=>h1 ⟨h2,e⟩;subst h2;have hnot':=lh hnot;clear hnot h1;go_wp2;go_round
       case rel=>exact⟨k+1,by omega,by go_num,rfl,by rw[<- Hrd.out,hnot'.out,Bool.false_or]⟩
       case measure=>simp[intOf];omega
      ·have hnot':=lh hnot;clear hnot h1;go_wp2;go_round
       case rel=>exact⟨k+1,by omega,by omega,by rw[<- Hrd.out,hnot'.out,Bool.false_or]⟩
       case measure=>simp[intOf];omega
    ·have hhr:¬ Sg.Dj f n=true:=by rw[<- hrd,List.drop_eq_nil_of_le (by omega)];simp[Sg.Dj]
     have e1:=Hms.out;rw[if_neg hhr] at e1;have E1:=lh e1;clear e1 hhr hrd;go_wp2;go_roundw
     case rel=>exact⟨n+1,A',c',by omega,by go_num,by rw[E1.out],by rw[E1.out];exact hown,hext,hbox,hne⟩
     case measure=>simp[intOf];omega
  ·obtain rfl:n=10:=by omega
   go_wp2;go_ret;exact⟨A',c',rfl,hown,hext⟩
set_option maxRecDepth 100000 in
set_option maxHeartbeats 2000000 in
theorem Qu (A:Option Addr)(c i:Nat)(g:Sg.Ae)(w:World)(h:Eg w A g)(hi:i<g.length) :
  Calls Tryz.prog 71 #[.agg #[.slice A g.length c],.int .i64 i] w fun e w'=>e= .returned (.bool (Sg.Du g i))/\Aa w w':=by
 have hgl:=h.1;obtain⟨n,b,o,Ap,cp,hn,rfl,hk,hs,hf,hfl⟩:=h.at_ hi;have hbw:=AA hk;have hd:Sg.Du g i=(Sg.AX n.f).all (Sg.Ci g i):=by unfold Sg.Du;simp[hn]
 have Hd:=lh hd;have hr:∀ x ∈ Sg.AX n.f,0<=x/\x<=9:=fun x hx=>Sg.Ek hx;have Hr:=lh hr;clear hd hn hr;go_enter Tryz.func71,Tryz.ntmps71;go_wp2_with fail
 have e0:=(Aa.rfl' w).al (.cells #[.slice (some ⟨b,o,none⟩) g.length c] 35);refine(Oj _ _ _ _ (hf.ext e0) hfl).mono ?_;rintro e w1 ⟨A1,c1,rfl,ho1,he1⟩;have e1:=e0.tr he1;have hbox:w1.cell? ⟨w.heap.size,0,none⟩=some (.slice (some ⟨b,o,none⟩) g.length c):=he1.cellE (by simp[go_sem]);generalize Sg.AX n.f=L at *;go_wp2_with fail
 go_loopw [6] (fun k wr=>∃ j:Nat,j<=L.length/\k= .int .i64 j/\Aa w1 wr/\(L.drop j).all (Sg.Ci g i)=L.all (Sg.Ci g i)) (fun k _=>L.length - (intOf k).toNat)
 case atStart=>exact⟨0,Nat.zero_le _,rfl,Aa.rfl' _,rfl⟩
 case round =>
  obtain⟨j,hj,rfl,he,hall⟩:=hrel;have hbx:=he.cellE hbox;clear hbox;have hLm:L.length<=9223372036854775807:=ho1.rd.big;by_cases hlt:j<L.length
  ·obtain⟨bl,ol,x,rfl,hx,hcx⟩:=(ho1.rd.ext he).at1 hlt;have hxr:=Hr.out x (List.mem_of_getElem? hx);rw[DO L j hx,List.all_cons] at hall;have Hall:=lh hall;clear hall hx;obtain⟨X,rfl⟩:=Int.eq_ofNat_of_zero_le hxr.1;by_cases hge:(i:Int)<=(X:Int)
   ·have hge':i<=X:=by omega
    go_wp2;go_quiet (fail)
    go_wp2;go_ret;refine⟨Aj ?_,e1.tr (he.drN _)⟩;rw[Hd.out,<- Hall.out];have:Sg.Ci g i X=false:=by unfold Sg.Ci;simp;omega
    rw[this];rfl
   ·have hlt':decide ((i:Int)<=(X:Int))=false:=by simpa using hge
    have hltN:decide (i<=X)=false:=by simp;omega
    have hXg:X<g.length:=by omega
    obtain⟨m,b',o',Ap',cp',hm,ha,hkx,_,_,_⟩:=(h.ext (e1.tr he)).at_ hXg;simp only[Option.some.injEq,Addr.mk.injEq,and_true] at ha;obtain⟨rfl,rfl⟩:=ha;have hka:Sg.CU g X=m.kind:=by unfold Sg.CU;simp[hm]
    have Hka:=lh hka;clear hka hm;by_cases h2:m.kind=2
    ·have h2':(m.kind == 2)=true:=by simp[h2]
     have H2:=lh h2;clear h2;go_wp2;go_quiet (fail)
     go_wp2;go_ret;refine⟨Aj ?_,e1.tr (he.drN _)⟩;rw[Hd.out,<- Hall.out];have:Sg.Ci g i X=false:=by unfold Sg.Ci;rw[Hka.out,H2.out];simp
     rw[this];rfl
    ·have h2':(m.kind == 2)=false:=by simp[h2]
     have H2:=lh h2;clear h2;go_wp2;go_quiet (fail)
     go_wp2;go_roundw
     case rel =>
      refine⟨j+1,by omega,by go_num,he.drN _,?_⟩;have:Sg.Ci g i X=true:=by unfold Sg.Ci;rw[Hka.out];simp;exact⟨by omega,H2.out⟩
      rw[<- Hall.out,this,Bool.true_and]
     case measure=>simp[intOf];omega
  ·have Hall:=lh hall;clear hall;go_wp2;go_ret;refine⟨Aj ?_,e1.tr he⟩;rw[Hd.out,<- Hall.out,List.drop_eq_nil_of_le (by omega)];rfl
def DF (a b:List Int)(k:Nat):List Int:=((List.range k).filter fun i=>a.getD i 0 != b.getD i 0).map Int.ofNat
theorem Wi (a b:List Int)(k:Nat){x y:Int}(hx:a[k]? = some x)(hy:b[k]? = some y):DF a b (k+1)=if x=y then DF a b k else DF a b k++[(k:Int)]:=by
 unfold DF;rw[List.range_succ,List.filter_append,List.map_append];by_cases h:x=y
 ·rw[if_pos h];simp[hx,hy,h]
 ·rw[if_neg h];simp[hx,hy,h]
theorem Xx (a b:List Int)(k:Nat):(DF a b k).length<=k:=by
 unfold DF;have:=List.length_filter_le (fun i=>a.getD i 0 != b.getD i 0) (List.range k);simpa using this
set_option maxHeartbeats 1000000 in
theorem Qv (A B:Option Addr)(ca cb nb:Nat)(a b:List Int)(w:World)(h:Rd w 1 A a.length (Ah a))(k:Rd w 1 B nb (Ah b))(hab:a.length<=nb)(hb:a.length<=4194304) :
  Calls Tryz.prog 171 #[.slice A a.length ca,.slice B nb cb] w fun e w'=>∃ A' c',e= .returned (.slice A' (DF a b a.length).length c')/\Au w' w.heap.size 3 1 A' (DF a b a.length).length c' (Ah (DF a b a.length))/\Aa w w':=by
 go_enter Tryz.func171,Tryz.ntmps171;go_wp2;go_loopw [5,6] (fun v i wr=>∃ (n:Nat) (A':Option Addr) (c':Nat),n<=a.length/\i= .int .i64 n/\v= .slice A' (DF a b n).length c'/\Au wr w.heap.size 3 1 A' (DF a b n).length c' (Ah (DF a b n))/\Aa w wr) (fun _ i _=>a.length - (intOf i).toNat)
 case atStart=>exact⟨0,_,_,Nat.zero_le _,rfl,rfl,Au.new w 3 1 #[] 0 (Nat.le_refl _) (by unfold maxLen;omega) rfl,(Aa.rfl' w).al _⟩
 case round =>
  obtain⟨n,A',c',hn,rfl,rfl,hown,hext⟩:=hrel;have hdl:=Xx a b n;by_cases hlt:n<a.length
  ·obtain⟨ba,oa,x,rfl,hx,hcx⟩:=(h.ext hext).at1 hlt;obtain⟨bb,ob,y,rfl,hy,hcy⟩:=(k.ext hext).at1 (Nat.lt_of_lt_of_le hlt hab);have hlt2:n<nb:=Nat.lt_of_lt_of_le hlt hab;have H:=lh (Wi a b n hx hy);clear hx hy;by_cases hxy:x=y
   ·have e1:=H.out;rw[if_pos hxy] at e1;have E1:=lh e1;have hb1:(x != y)=false:=by simp[hxy]
    clear e1 H hxy;go_wp2;go_quiet (fail)
    go_wp2;go_roundw
    case rel=>exact⟨n+1,A',c',by omega,by go_num,by rw[E1.out],by rw[E1.out];exact hown.ext (xr.drN _),hext.drN _⟩
    case measure=>simp[intOf];omega
   ·have e1:=H.out;rw[if_neg hxy] at e1;have E1:=lh e1;have hb1:(x != y)=true:=by simp[hxy]
    clear e1 H hxy;go_wp2;go_quiet (fail)
    have hownD:=hown.ext ((Aa.rfl' wr).drN nq);have hextD:=hext.drN nq;go_wp2_with (at_builtin;refine AB rfl rfl Bc rfl hownD rfl rfl (Bn _ _) (by omega) (by omega) hextD.size ?_;intro A2 c2 w2 hown2 hg2 hat2)
    go_roundw
    case rel=>exact⟨n+1,A2,c2,by omega,by go_num,by rw[E1.out];simp,by rw[E1.out];simpa using hown2,hextD.gr hg2 fun g hg=>(hown.lt hg).1⟩
    case measure=>simp[intOf];omega
  ·obtain rfl:n=a.length:=by omega
   go_wp2;go_ret;exact⟨A',c',rfl,hown,hext⟩
theorem Xy (a b:List Int)(h:a.length=b.length):(DF a b a.length).length=0↔a=b:=by
 rw[List.length_eq_zero_iff];unfold DF;rw[List.map_eq_nil_iff,List.filter_eq_nil_iff];constructor
 ·intro hh;refine List.ext_getElem h fun i h1 h2=>?_;have:=hh i (by rw[List.mem_range];exact h1);simpa[h1,h2] using this
 ·rintro rfl i _;simp
set_option maxHeartbeats 400000 in
theorem Sp (A B:Option Addr)(ca cb:Nat)(a b:List Int)(w:World)(h:Rd w 1 A a.length (Ah a))(k:Rd w 1 B b.length (Ah b))(hb:a.length<=4194304) :
  Calls Tryz.prog 146 #[.slice A a.length ca,.slice B b.length cb] w fun e w'=>e= .returned (.bool (decide (a=b)))/\Aa w w':=by
 have hk:=k.big;by_cases hab:a.length=b.length
 ·have h1:((a.length:Int) != (b.length:Int))=false:=by simp[hab]
  have HN:=lh (Xy a b hab);have Hc:=lh (Qv A B ca cb b.length a b w h k (by omega) hb);have Hab:=lh hab;clear hab;go_enter Tryz.func146,Tryz.ntmps146;go_wp2_with (go_at_call 171;refine Hc.out.mono ?_;rintro e w1 ⟨A1,c1,rfl,ho1,he1⟩)
  go_ret;refine⟨Aj ?_,he1⟩;have:=HN.out;rw[Bool.eq_iff_iff];simp[this]
 ·have h1:((a.length:Int) != (b.length:Int))=true:=by simp;omega
  have hne:¬ a=b:=fun e=>hab (by rw[e]);have Hne:=lh hne;clear hab hne;go_enter Tryz.func146,Tryz.ntmps146;go_wp2;go_ret;exact⟨Aj (by have:=Hne.out;simp[this]),Aa.rfl' w⟩
def VG (g:Sg.Ae)(k:Nat):Bool:=(List.range k).all (Sg.Ck g)
theorem LW (g:Sg.Ae)(k:Nat):VG g (k+1)=(VG g k && Sg.Ck g k):=by unfold VG;rw[List.range_succ,List.all_append];simp
theorem I0 (g:Sg.Ae)(k:Nat)(hk:k<g.length)(h:Sg.Ck g k=false):Sg.AG g=false:=by
 have:(List.range g.length).all (Sg.Ck g)=false:=by
  rw[List.all_eq_false];exact⟨k,by rw[List.mem_range];exact hk,by rw[h];simp⟩
 unfold Sg.AG;rw[this];rfl
theorem JT {g:Sg.Ae}{k:Nat}{n:Sg.BV}(hn:g[k]? = some n)(h:n.kind=0):Sg.Ck g k=decide (n.f.length=0):=by
 unfold Sg.Ck;simp[hn,h];cases n.f <;> rfl
theorem JU {g:Sg.Ae}{k:Nat}{n:Sg.BV}(hn:g[k]? = some n)(h:n.kind=1\/n.kind=2):Sg.Ck g k=(Sg.AR n.f && Sg.Du g k):=by
 unfold Sg.Ck;simp only[g_d,hn,Option.getD_some];rw[if_neg (by omega),if_pos h]
theorem JV {g:Sg.Ae}{k:Nat}{n:Sg.BV}(hn:g[k]? = some n)(h:¬ n.kind=0/\¬ n.kind=1/\¬ n.kind=2):Sg.Ck g k=false:=by
 unfold Sg.Ck;simp only[g_d,hn,Option.getD_some];rw[if_neg h.1,if_neg (by omega)]
set_option maxRecDepth 100000 in
set_option maxHeartbeats 2000000 in
theorem I3 (A:Option Addr)(c:Nat)(g:Sg.Ae)(w:World)(h:Eg w A g) :
  Calls Tryz.prog 29 #[.agg #[.slice A g.length c]] w fun e w'=>e= .returned (.bool (Sg.AG g))/\Aa w w':=by
 have hgl:=h.1;go_enter Tryz.func29,Tryz.ntmps29;go_wp2;go_loopw [3] (fun i wr=>∃ k:Nat,k<=g.length/\i= .int .i64 k/\Aa w wr/\wr.cell? ⟨w.heap.size,0,none⟩=some (.slice A g.length c)/\VG g k=true) (fun i _=>g.length - (intOf i).toNat)
 case atStart=>exact⟨0,Nat.zero_le _,rfl,(Aa.rfl' w).al _,by simp[go_sem],rfl⟩
 case round =>
  obtain⟨k,hk,rfl,he,hbox,hvg⟩:=hrel;have hbw:=AA hbox;have HV:=lh hvg;clear hvg;by_cases hlt:k<g.length
  ·obtain⟨⟨nk,nf⟩,b,o,Ap,cp,hn,rfl,hkc,hs,hf,hfl⟩:=(h.ext he).at_ hlt;dsimp only at *;have hbb:=AA hkc;have cases:nk=0\/(nk=1\/nk=2)\/(¬ nk=0/\¬ nk=1/\¬ nk=2):=by omega
   rcases cases with hz | hz | hz
   ·have hg:=lh (JT hn hz);subst hz;clear hn;by_cases hl:0<nf.length
    ·go_wp2;go_ret;exact⟨Aj (by rw[I0 g k hlt (by rw[hg.out];simp;intro e;simp[e] at hl)]),he.al _⟩
    ·go_wp2;go_roundw
     case rel=>exact⟨k+1,by omega,by go_num,he.al _,(xr.al _).cellE hbox,by rw[LW,HV.out,hg.out];simp;exact List.length_eq_zero_iff.1 (by omega)⟩
     case measure=>simp[intOf];omega
   ·have hg:=lh (JU hn hz);have HG:=lh (Qu (some ⟨b,o,none⟩) c k g);have HF:=lh (Fl Ap cp nf);clear hn;cases hv:Sg.AR nf
    ·have Hv:=lh hv;clear hv;rcases hz with rfl | rfl
     all_goals
      go_wp2_with (go_at_call 70;refine(HF.out _ (hf.ext (xr.al _)) hfl).mono ?_;rintro e w2 ⟨rfl,he2⟩;rw[Hv.out])
      go_ret;exact⟨Aj (by rw[I0 g k hlt (by rw[hg.out,Hv.out];rfl)]),(he.al _).tr he2⟩
    ·have Hv:=lh hv;clear hv;cases hr:Sg.Du g k
     ·have Hr:=lh hr;clear hr;rcases hz with rfl | rfl
      all_goals
       go_wp2_with (first
        | (go_at_call 70;refine(HF.out _ (hf.ext (xr.al _)) hfl).mono ?_;rintro e w2 ⟨rfl,he2⟩;rw[Hv.out];have hbx2:=he2.cellE ((xr.al _).cellE hbox))
        | (go_at_call 71;refine(HG.out _ (h.ext ((he.al _).tr he2)) hlt).mono ?_;rintro e w3 ⟨rfl,he3⟩;rw[Hr.out]))
       go_ret;exact⟨Aj (by rw[I0 g k hlt (by rw[hg.out,Hv.out,Hr.out];rfl)]),((he.al _).tr he2).tr he3⟩
     ·have Hr:=lh hr;clear hr;rcases hz with rfl | rfl
      all_goals
       go_wp2_with (first
        | (go_at_call 70;refine(HF.out _ (hf.ext (xr.al _)) hfl).mono ?_;rintro e w2 ⟨rfl,he2⟩;rw[Hv.out];have hbx2:=he2.cellE ((xr.al _).cellE hbox))
        | (go_at_call 71;refine(HG.out _ (h.ext ((he.al _).tr he2)) hlt).mono ?_;rintro e w3 ⟨rfl,he3⟩;rw[Hr.out]))
       go_roundw
       case rel=>exact⟨k+1,by omega,by go_num,((he.al _).tr he2).tr he3,he3.cellE hbx2,by rw[LW,HV.out,hg.out,Hv.out,Hr.out];rfl⟩
       case measure=>simp[intOf];omega
   ·have hg:=lh (JV hn hz);have z0:(nk == 0)=false:=by rw[beq_eq_false_iff_ne];omega
    have z1:(nk == 1)=false:=by rw[beq_eq_false_iff_ne];omega
    have z2:(nk == 2)=false:=by rw[beq_eq_false_iff_ne];omega
    clear hn hz;go_wp2;go_ret;exact⟨Aj (by rw[I0 g k hlt hg.out]),he.al _⟩
  ·obtain rfl:k=g.length:=by omega
   have hfin:Sg.AG g=decide (g.length<=10):=by
    unfold Sg.AG;have:=HV.out;unfold VG at this;rw[this];rfl
   have Hfin:=lh hfin;clear hfin;go_wp2;go_ret;exact⟨Aj (by rw[Hfin.out];simp;omega),he⟩
theorem Wj {g:Sg.Ae}{v:List Int}{r:List (List Int)}{k:Nat}{n:Sg.BV}{l:List Int}(hn:g[k]? = some n)(hl:r[k]? = some l)(h:n.kind=0):Sg.CL g v r k=decide ([]=l):=by
 unfold Sg.CL;simp[hn,hl,h];cases l <;> rfl
end Go.Proofs.YthibllkleakiiaaGreatDoor
