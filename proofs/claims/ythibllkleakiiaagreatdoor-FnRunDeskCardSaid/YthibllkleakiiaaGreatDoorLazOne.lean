/- Parts of one proof, joined. The program's readers and doubt: contracts, and more. Conditions: in the theorems. -/
import Derived.Maps.OwnSet
import Derived.Laws.EntriesVeiled
import Derived.Test.YthibllkleakiiaaGreatDoorSepP
import Derived.Test.YthibllkleakiiaaGreatDoorPlN
namespace Go.Proofs.YthibllkleakiiaaGreatDoor
open Go.RowKit
set_option maxHeartbeats 1000000 in
theorem Ou (Av Ar Aq:Option Addr)(nv cv cr nq cq:Nat)(r:List (List Int))(n:Nat)(w:World)(h:Lq w Ar r) :
  Calls Tryz.prog 136 #[.agg #[.slice Av nv cv,.slice Ar r.length cr,.slice Aq nq cq],.int .i64 n] w fun e w'=>∃ A' c',e= .returned (.slice A' (Sg.Bt r n).length c') /\
   Au w' w.heap.size 3 1 A' (Sg.Bt r n).length c' (Ah (Sg.Bt r n))/\Aa w w':=by
 have hrl:=h.1;have HC:=lh (fun A len c l w h=>Ez A len c l (n:Int) w h);have e0:=((Aa.rfl' w).al (.cells #[.slice Av nv cv,.slice Ar r.length cr,.slice Aq nq cq] 44));have H:=lh (h.ext e0);have HE:=lh e0
 have hq:∀ (k:Nat) (l:List Int),r[k]? = some l->Sg.Dy r n (k+1)=if decide ((n:Int) ∈ l)=true then Sg.Dy r n k++[(k:Int)] else Sg.Dy r n k:=fun k l hl=>by
  have:=Sg.DC (fun i=>decide ((n:Int) ∈ r.getD i [])) k;simp only[g_d,hl,Option.getD_some] at this;simpa[Sg.Dy] using this
 have hL:∀ k,(Sg.Dy r n k).length<=k:=fun k=>Sg.FI _ k;have h0:Sg.Dy r n 0=[]:=rfl;have hR:Sg.Bt r n=Sg.Dy r n r.length:=rfl;rw[hR];generalize Sg.Dy r n=V at *;have HQ:=lh hq;have HL:=lh hL;have H0:=lh h0;clear h e0 hq hL h0 hR;go_enter Tryz.func136,Tryz.ntmps136;go_wp2;go_loopw [5,11] (fun v i wr=>∃ (k:Nat) (A':Option Addr) (c':Nat),k<=r.length/\i= .int .i64 k/\v= .slice A' (V k).length c'/\Au wr (w.heap.size+1) 3 1 A' (V k).length c' (Ah (V k))/\Aa (w.alloc (.cells #[.slice Av nv cv,.slice Ar r.length cr,.slice Aq nq cq] 44)) wr) (fun _ i _=>r.length - (intOf i).toNat)
 case atStart=>exact⟨0,none,0,Nat.zero_le _,rfl,by rw[H0.out];rfl,by rw[H0.out];exact Au.nil _ _ _ _,Aa.rfl' _⟩
 case round =>
  obtain⟨k,A',c',hk,rfl,rfl,hown,he⟩:=hrel;have hl:=HL.out k;have He:=lh he;have Ho:=lh hown;have hcm:=And.intro hown.2.1 hown.2.2.1;by_cases hlt:k<r.length
  ·obtain⟨l,b,o,Al,cl,hlk,rfl,hcell,hrd,_⟩:=(H.out.ext he).at_ hlt;have hq:=HQ.out k l hlk;have Hr:=lh hrd;clear he hown hlk hrd;cases hp:decide ((n:Int) ∈ l)
   ·rw[hp] at hq;simp only[Bool.false_eq_true,if_false] at hq;have Hq:=lh hq;have Hp:=lh hp;clear hp hq;go_wp2_with fail
    refine(HC.out Al l.length cl l _ Hr.out).mono ?_;rw[Hp.out];rintro e w1 ⟨rfl,he1⟩;go_wp2;go_roundw
    case rel=>exact⟨k+1,A',c',by omega,by go_num,by rw[Hq.out],by rw[Hq.out];exact Ho.out.ext he1,He.out.tr he1⟩
    case measure=>simp[intOf];omega
   ·rw[hp] at hq;simp only[if_true] at hq;have Hq:=lh hq;have Hp:=lh hp;clear hp hq;go_wp2_with fail
    refine(HC.out Al l.length cl l _ Hr.out).mono ?_;rw[Hp.out];rintro e w1 ⟨rfl,he1⟩;have Ho1:=lh (Ho.out.ext he1);have s1:=(He.out.tr he1).size;simp only[World.size_alloc] at s1;go_wp2_with (at_builtin;refine AB rfl rfl Bc rfl Ho1.out rfl rfl (Bn _ _) (by omega) (by omega) (by omega) ?_;intro A2 c2 w9 hown2 hg2 hat2)
    go_roundw
    case rel=>exact⟨k+1,A2,c2,by omega,by go_num,by rw[Hq.out];simp,by rw[Hq.out];simpa using hown2,(He.out.tr he1).gr hg2 fun x hx=>(by have:=(Ho1.out.lt hx).1;simpa using this)⟩
    case measure=>simp[intOf];omega
  ·obtain rfl:k=r.length:=by omega
   clear he hown;go_wp2;go_ret;exact⟨A',c',rfl,Ho.out.mono (by omega),HE.out.tr He.out⟩
noncomputable def Yh (L:Nat)(M:Nat->Prop):Nat:=open Classical in ((List.range L).filter fun i=>decide (¬ M i)).length
theorem VO (L:Nat){M:Nat->Prop}(p:Nat->Bool)(h:∀ i,p i=true↔¬ M i):Yh L M=((List.range L).filter p).length:=by
 unfold Yh;congr 1
 refine List.filter_congr fun j _=>?_;rw[Bool.eq_iff_iff,h j];simp
theorem WT {L i:Nat}{M:Nat->Prop}(hi:i<L)(h:¬ M i):Yh L (fun j=>M j\/j=i)+1<=Yh L M:=by
 classical
 rw[VO L (fun j=>decide (¬ M j) && decide (j≠i)) (fun j=>by simp[not_or]),VO L (fun j=>decide (¬ M j)) (fun j=>by simp)];rw[show (fun j=>decide (¬ M j) && decide (j≠i))=fun j=>(fun j=>decide (¬ M j)) j && (fun j=>decide (j≠i)) j from rfl]
 have hlt:(((List.range L).filter (fun j=>decide (¬ M j))).filter (fun j=>decide (j≠i))).length<((List.range L).filter (fun j=>decide (¬ M j))).length:=by
  rw[List.length_filter_lt_length_iff_exists];exact⟨i,List.mem_filter.2 ⟨List.mem_range.2 hi,by simpa using h⟩,by simp⟩
 rw[List.filter_filter] at hlt;simp only[Bool.and_comm] at hlt ⊢;exact hlt
theorem Yi (L:Nat)(M:Nat->Prop):Yh L M<=L:=by
 unfold Yh;have:=List.length_filter_le (fun i=>open Classical in decide (¬ M i)) (List.range L);simpa using this
def Jx (w:World)(b L:Nat)(M:Nat->Prop):Prop:=∃ (D:DataW Unit) (k:Nat),w.ownsMap Tryz.prog 3 (plainElem Tryz.prog 4) b k D/\k+Yh L M<=L /\
 ∀ i:Nat,i<L->∃ c:Bool,(c=true↔M i)/\D.atKey (.int .i64 (i:Int)) (.lit (.bool false))= .lit (.bool c)
theorem Ov:Maps.Keyed Tryz.prog 3:=Maps.int_keyed Tryz.underlying3
theorem Uw (w:World):(zeroValue 4).run Tryz.prog w= .ok (.bool false) w:=by kernel_rfl
theorem QT {L i:Nat}(hL:L<=1000000)(hi:i<L):(Lit.int .i64 (i:Int)).wf=true:=by
 have h1:IntKind.i64.min<=(i:Int):=by show -9223372036854775808<=(i:Int);omega
 have h2:(i:Int)<=IntKind.i64.max:=by show (i:Int)<=9223372036854775807;omega
 show (decide (IntKind.i64.min<=(i:Int)) && decide ((i:Int)<=IntKind.i64.max))=true;rw[decide_eq_true h1,decide_eq_true h2];rfl
theorem Jx.made (w:World)(L:Nat):Jx (w.alloc (.map #[] 0)) w.heap.size L (fun _=>False) :=
 ⟨.map [],0,World.ownsMap_made _ _ _ _,by have:=Yi L (fun _=>False);omega,fun i _=>⟨false,by simp,rfl⟩⟩
theorem Jx.fr {w w':World}{b L:Nat}{M:Nat->Prop}(h:Jx w b L M)(hk:w'.heap[b]? = w.heap[b]?):Jx w' b L M:=by
 obtain⟨D,k,⟨es,clock,hb,r⟩,hc,hd⟩:=h;exact⟨D,k,⟨es,clock,hk.trans hb,r⟩,hc,hd⟩
theorem Jx.lt {w:World}{b L:Nat}{M:Nat->Prop}(h:Jx w b L M):b<w.heap.size:=by
 obtain⟨D,k,ho,_⟩:=h;exact ho.lt
theorem Jx.cong {w:World}{b L:Nat}{M M':Nat->Prop}(h:Jx w b L M)(e:∀ i,M i↔M' i):Jx w b L M':=by
 have:M=M':=funext fun i=>propext (e i);rw[<- this];exact h
theorem Kb {P:Program}{e:TypeId}(he:P.underlying e=some .bool){v:Value}{z:DataW Unit × List MemPlace}(h:plainElem P e v=some z):∃ x,v= .bool x/\z=(.lit (.bool x),[]):=by
 unfold plainElem at h;rw[he] at h;cases v <;> simp at h;exact⟨_,rfl,h.symm⟩
theorem Fo {w:World}{ops:Array Oper}{rest:List Oper}{o:Oper}{a:Act}{Q:Exit->Act->World->Prop}(hg:o.guard=none)(m x:Operand)(hop:o.op=Op.lookup 185 m x false){b L i:Nat}{M:Nat->Prop}(hm:a.eval m= .map (some b))(hown:Jx w b L M)(hx:a.eval x= .int .i64 (i:Int))(hL:L<=1000000)(hi:i<L)(c:Bool)(hc:c=true↔M i)(hK:wpList Tryz.prog ops Q rest (a.put o.dst (.bool c)) w):wpList Tryz.prog ops Q (o :: rest) a w:=by
 obtain⟨D,k,ho,_,hd⟩:=hown;obtain⟨c',hc',hat⟩:=hd i hi;have hcc:c'=c:=by rw[Bool.eq_iff_iff,hc',hc]
 subst hcc;refine wpList_plain hg fun K' hK'=>?_;obtain⟨v,ps,hrun,hv⟩:=ho.lookup Ov Tryz.underlying185 (Uw w) (plainElem_bool Tryz.underlying4 false) (Maps.keyOf_int_mk Tryz.underlying3 (QT hL hi));rw[hat] at hv;obtain⟨x',rfl,hx'⟩:=Kb Tryz.underlying4 hv;simp only[Prod.mk.injEq,DataW.lit.injEq,Lit.bool.injEq] at hx';obtain⟨rfl,_⟩:=hx';unfold Oper.wp;simp[execOp,hop,hm,hx,hrun,Result.andThen]
 exact hK' _ _ hK
theorem Ih {w:World}{ops:Array Oper}{rest:List Oper}{o:Oper}{a:Act}{Q:Exit->Act->World->Prop}(hg:o.guard=none)(m x:Operand)(hop:o.op=Op.mapUpdate 185 m x (.const (.bool true))){b L i:Nat}{M:Nat->Prop}(hm:a.eval m= .map (some b))(hown:Jx w b L M)(hx:a.eval x= .int .i64 (i:Int))(hL:L<=1000000)(hi:i<L)(hn:¬ M i)(hK:∀ w',Jx w' b L (fun j=>M j\/j=i)->w.grownBy w' (some b)->wpList Tryz.prog ops Q rest (a.put o.dst undef) w'):wpList Tryz.prog ops Q (o :: rest) a w:=by
 obtain⟨D,k,ho,hk,hd⟩:=hown;have hu:=WT hi hn;refine wpList_mapUpdate_own w hg m x _ _ hop 3 4 Ov Tryz.underlying185 _ b k D hm ho (by unfold maxLen;omega) _ _ (.int .i64 (i:Int)) hx rfl (Maps.keyOf_int_mk Tryz.underlying3 (QT hL hi)) (.lit (.bool true)) [] (plainElem_bool Tryz.underlying4 true) (fun w' ho' hg'=>hK w' ⟨_,k+1,ho',by omega,fun j hj=>?_⟩ hg');by_cases e:j=i
 ·subst e;exact⟨true,by simp,Maps.atKey_put_same ho.isMap (show WideAt.IsKeyLit (.int .i64 (j:Int)) from trivial) _ _⟩
 ·obtain⟨c,hc,hat⟩:=hd j hj;refine⟨c,by rw[hc];exact⟨.inl,fun h=>h.elim id (fun h=>absurd h e)⟩,?_⟩;rw[Maps.atKey_put_other (fun h=>e (by injection h with _ h;omega))];exact hat
structure DI (B bm L:Nat) (Aq:Option Addr) (cq:Nat) (q:List Int) (w0 W:World) (M:Nat->Prop):Prop where
 m:AF (fun b=>b=bm\/AE Aq=some b) w0 W
 s:Jx W bm L M
 q:Au W B 3 1 Aq q.length cq (Ah (Sg.Ft M q))
theorem DI.ext {B bm L:Nat}{Aq:Option Addr}{cq:Nat}{q:List Int}{w0 W W':World}{M:Nat->Prop}(h:DI B bm L Aq cq q w0 W M)(e:Aa W W'):DI B bm L Aq cq q w0 W' M :=
 ⟨h.m.tr' (AF.of e),h.s.fr (e.block _ h.s.lt),h.q.ext e⟩
theorem AF.grl {F:Nat->Prop}{w w':World}{row:Option Nat}(hg:w.grownBy w' row)(h:∀ b,row=some b->F b):AF F w w' :=
 ⟨hg.os,hg.tape,hg.output,hg.size,fun b hb hn=>hg.block b hb (fun e=>hn (h b e.symm))⟩
theorem DI.cong {B bm L:Nat}{Aq:Option Addr}{cq:Nat}{q:List Int}{w0 W:World}{M M':Nat->Prop}(h:DI B bm L Aq cq q w0 W M)(e:M=M'):DI B bm L Aq cq q w0 W M':=e ▸ h
set_option maxRecDepth 100000 in
set_option maxHeartbeats 4000000 in
theorem WU (B bm L Bs Bm Bw gq:Nat)(Av Ar:Option Addr)(nv cv cr cq:Nat)(q:List Int)(r:List (List Int))(w0:World)(hA:Sg.EH r)(hrl:r.length=L)(hql:q.length=L)(hL:L<=1000000)(hr:∀ W,AF (fun b=>b=bm\/AE (some ⟨gq,0,none⟩)=some b) w0 W->Lq W Ar r)(bs:Bx w0 Bs [.slice Av nv cv,.slice Ar r.length cr,.slice (some ⟨gq,0,none⟩) q.length cq])(bx:Bx w0 Bm [.map (some bm)])(bw:Bx w0 Bw [.func (.func 169) #[] #[.pointer (some ⟨Bs,0,none⟩),.pointer (some ⟨Bm,0,none⟩),.pointer (some ⟨Bw,0,none⟩)]])(hF:∀ b,b=Bs\/b=Bm\/b=Bw->b≠bm/\b≠gq)(hqm:gq≠bm) :
  ∀ (d n:Nat) (M:Nat->Prop) (W:World),L<=n+d->n<L->Sg.Jm r n M->DI B bm L (some ⟨gq,0,none⟩) cq q w0 W M ->
   Calls Tryz.prog 169 #[.int .i64 n,.pointer (some ⟨Bs,0,none⟩),.pointer (some ⟨Bm,0,none⟩),.pointer (some ⟨Bw,0,none⟩)] W fun e w' =>
    e= .returned (.tuple #[])/\DI B bm L (some ⟨gq,0,none⟩) cq q w0 w' (fun i=>M i\/Sg.Fp r n i)/\AF (fun b=>b=bm\/AE (some ⟨gq,0,none⟩)=some b) W w':=by
 have hoff:∀ b,b=Bs\/b=Bm\/b=Bw->¬ (b=bm\/AE (some ⟨gq,0,none⟩)=some b):=fun b hb e=>by
  have:=hF b hb;rcases e with e | e
  ·exact this.1 e
  ·simp[AE] at e;exact this.2 e.symm
 have nBs:Bs≠gq:=(hF Bs (.inl rfl)).2;have nBw:Bw≠gq:=(hF Bw (.inr (.inr rfl))).2;have BS:=lh (fun (W:World) (m:AF (fun b=>b=bm\/AE (some ⟨gq,0,none⟩)=some b) w0 W)=>bs.mod m (hoff Bs (.inl rfl)));have BM:=lh (fun (W:World) (m:AF (fun b=>b=bm\/AE (some ⟨gq,0,none⟩)=some b) w0 W)=>bx.mod m (hoff Bm (.inr (.inl rfl))));have BW:=lh (fun (W:World) (m:AF (fun b=>b=bm\/AE (some ⟨gq,0,none⟩)=some b) w0 W)=>bw.mod m (hoff Bw (.inr (.inr rfl))));have HR:=lh hr;have HA:=lh hA;have HQL:=lh hql;have HRL:=lh hrl;have hent:=GZ (P:=Tryz.prog) Tryz.func169 rfl (by kernel_rfl);have hqb:q.length<=1000000:=by omega
 have hrb:r.length<=1000000:=by omega
 clear hA hr bs bx bw hF hoff hql hrl;intro d;induction d with
 | zero=>intro n M W hd hn;omega
 | succ d ih =>
  intro n M W hd hn hC hDI;have IH:=lh ih;have HC:=lh hC;have D0:=lh hDI;have s0:=(BS.out W hDI.m).cell (j:=0) rfl;have s1:=(BS.out W hDI.m).cell (j:=1) rfl;have s2:=(BS.out W hDI.m).cell (j:=2) rfl;have b0:=AA s0;have hbm:bm<W.heap.size:=hDI.s.lt;have hgq:gq<W.heap.size:=(hDI.q.lt (g:=gq) rfl).2;clear ih hC hDI;go_enter Tryz.func169,Tryz.ntmps169;go_wp2_with fail
  refine(Ou Av Ar (some ⟨gq,0,none⟩) nv cv cr q.length cq r n _ (HR.out W D0.out.m)).mono ?_;rintro e w1 ⟨A1,c1,rfl,ho1,he1⟩;have D1:=lh (D0.out.ext he1);have O1:=lh ho1;have E1:=lh he1;have HAT:=lh (fun (k:Nat) (x:Int) (h:(Sg.Bt r n)[k]? = some x)=>Sg.Kr h);have HLEN:(Sg.Bt r n).length<=1000000:=by have:=Sg.FI (fun i=>decide ((n:Int) ∈ r.getD i [])) r.length;unfold Sg.Bt Sg.Dy;omega
  have HALL:=lh (Sg.V8 (r:=r) (n:=n) (M:=M));have HTK:=lh (fun (k:Nat) (x:Int) (h:(Sg.Bt r n)[k]? = some x)=>show (Sg.Bt r n).take (k+1)=(Sg.Bt r n).take k++[x] by obtain⟨hk,he⟩:=ge_.1 h;rw[List.take_succ_eq_append_getElem hk,he]);have HEN:=lh (List.take_length (l:=Sg.Bt r n));generalize Sg.Bt r n=rd at *;have F1:=lh (show ∀ b,AE A1=some b->¬ (b=bm\/AE (some ⟨gq,0,none⟩)=some b) from fun b hb e=>by have:=(O1.out.lt hb).1;simp[AE] at e;omega);clear ho1 he1 s0 s1 s2 b0 D0;go_wp2_with fail
  go_loopw [11] (fun i wr=>∃ k:Nat,k<=rd.length/\i= .int .i64 k/\Hid (DI B bm L (some ⟨gq,0,none⟩) cq q w0 wr (Sg.Ps r (rd.take k) M))/\Hid (AF (fun b=>b=bm\/AE (some ⟨gq,0,none⟩)=some b) w1 wr)) (fun i _=>rd.length - (intOf i).toNat)
  case atStart=>exact⟨0,Nat.zero_le _,rfl,lh (by rw[List.take_zero,Sg.V5];exact D1.out),lh (AF.rfl' _ _)⟩
  case round =>
   obtain⟨k,hk,rfl,hD,hM1⟩:=hrel;by_cases hlt:k<rd.length
   ·obtain⟨b,o,x,rfl,hx,hcx⟩:=(O1.out.mod hM1.out F1.out).rd.at1 hlt;obtain⟨m,rfl,hm⟩:=HAT.out k _ hx;have hmn:=(HA.out m _ hm).2;have hmr:=Sg.DE hm;have hmL:m<L:=by rw[<- HRL.out];exact hmr
    have hnm:n<m:=by omega
    have HT:=lh (HTK.out k _ hx);have bcx:=AA hcx;have s2:=(BS.out wr hD.out.m).cell (j:=2) rfl;have bs2:=AA s2;have cm:=(BM.out wr hD.out.m).cell (j:=0) rfl;have bcm:=AA cm;have cw:=(BW.out wr hD.out.m).cell (j:=0) rfl;have bcw:=AA cw;clear hx hm hmr;by_cases hMm:Sg.Ps r (rd.take k) M m
    ·have HN:=lh (show Sg.Ps r (rd.take (k+1)) M=Sg.Ps r (rd.take k) M by rw[HT.out];exact Sg.V6 HA.out HC.out hnm hMm);have HMM:=lh hMm;clear hMm;go_wp2_with (at_lookup;refine Fo rfl _ _ rfl rfl hD.out.s rfl hL hmL true ⟨fun _=>HMM.out,fun _=>rfl⟩ ?_)
     go_roundw
     case rel=>exact⟨k+1,by omega,by go_num,lh (by rw[HN.out];exact hD.out),hM1⟩
     case measure=>simp[intOf];omega
    ·have HN:=lh (show Sg.Ps r (rd.take (k+1)) M=fun i=>(Sg.Ps r (rd.take k) M i\/i=m)\/Sg.Fp r m i by rw[HT.out];exact Sg.V7);have HMM:=lh hMm;have HCL:=lh (Sg.Nr (Sg.Mz (l:=rd.take k) HC.out) hnm);clear hMm;have hmq:m<(Sg.Ft (Sg.Ps r (rd.take k) M) q).length:=by rw[Sg.length_markC,HQL.out];exact hmL
     obtain⟨z,hz⟩:∃ z,(Sg.Ft (Sg.Ps r (rd.take k) M) q)[m]? = some z:=⟨_,gg hmq⟩;have HZ:=lh hz;have hmq2:m<q.length:=by rw[HQL.out];exact hmL
     clear hz hmq;by_cases hz0:z=0
     ·have z1:(z == 0)=true:=by simp[hz0]
      have HZ0:=lh hz0;clear hz0
      go_wp2_with (first
       | (at_lookup;refine Fo rfl _ _ rfl rfl hD.out.s rfl hL hmL false ⟨fun h=>(by cases h),fun h=>absurd h HMM.out⟩ ?_)
       | (at_mapUpdate;refine Ih rfl _ _ rfl rfl hD.out.s rfl hL hmL HMM.out ?_;intro w2 hs2 hg2;have S2:=lh hs2;have M2:=lh (AF.grl (F:=fun b=>b=bm) hg2 (fun b e=>by injection e with e;exact e.symm));have Q2:=lh (hD.out.q.mod M2.out (fun b hb e=>by simp[AE] at hb;omega));have MM2:=lh (hD.out.m.tr M2.out (fun b e=>.inl (.inl e)));have c2:=(BS.out w2 MM2.out).cell (j:=2) rfl;have cw2:=(BW.out w2 MM2.out).cell (j:=0) rfl;have cz:=Q2.out.cell (j:=m) (u := .int .i64 z) (by rw[CB,HZ.out];rfl);have fz:=Q2.out.free m;have bc2:=AA c2;have bcw2:=AA cw2;have bcz:=AA cz;clear hs2 hg2))
      have hs3:Jx (World.setCell w2 ⟨gq,m,none⟩ (.int .i64 1)) bm L (fun j=>Sg.Ps r (rd.take k) M j\/j=m):=S2.out.fr (Below.heap_setCell _ _ _ _ (fun e=>hqm e.symm));have hq3:=Q2.out.st m (.int .i64 1);rw[Dz,<- Sg.RS HZ.out HZ0.out] at hq3;have hm3:=AF.set MM2.out (p:=⟨gq,m,none⟩) (.inl (.inr rfl)) (.int .i64 1);refine(IH.out m _ _ (by omega) hmL HCL.out ⟨hm3,hs3,by simpa using hq3⟩).mono ?_;rintro e w4 ⟨rfl,hD4,hM4⟩;have D4:=lh (hD4.cong HN.out.symm);have M4:=lh ((hM1.out.tr (AF.set (M2.out.mono (F':=fun b=>b=bm\/AE (some ⟨gq,0,none⟩)=some b) (fun b _ e=>.inl e)) (p:=⟨gq,m,none⟩) (.inl (.inr rfl)) (.int .i64 1)) (fun b e=>.inl e)).tr' hM4);clear hD4 hM4 hm3 hs3 hq3 c2 cw2 cz fz bc2 bcw2 bcz S2 M2 Q2 MM2;go_wp2;go_roundw
      case rel=>exact⟨k+1,by omega,by go_num,D4,M4⟩
      case measure=>simp[intOf];omega
     ·have z1:(z == 0)=false:=by simp[hz0]
      have HZ0:=lh hz0;clear hz0
      go_wp2_with (first
       | (at_lookup;refine Fo rfl _ _ rfl rfl hD.out.s rfl hL hmL false ⟨fun h=>(by cases h),fun h=>absurd h HMM.out⟩ ?_)
       | (at_mapUpdate;refine Ih rfl _ _ rfl rfl hD.out.s rfl hL hmL HMM.out ?_;intro w2 hs2 hg2;have S2:=lh hs2;have M2:=lh (AF.grl (F:=fun b=>b=bm) hg2 (fun b e=>by injection e with e;exact e.symm));have Q2:=lh (hD.out.q.mod M2.out (fun b hb e=>by simp[AE] at hb;omega));have MM2:=lh (hD.out.m.tr M2.out (fun b e=>.inl (.inl e)));have c2:=(BS.out w2 MM2.out).cell (j:=2) rfl;have cw2:=(BW.out w2 MM2.out).cell (j:=0) rfl;have cz:=Q2.out.cell (j:=m) (u := .int .i64 z) (by rw[CB,HZ.out];rfl);have fz:=Q2.out.free m;have bc2:=AA c2;have bcw2:=AA cw2;have bcz:=AA cz;clear hs2 hg2))
      have hs3:=S2.out;have hq3:=Q2.out;rw[<- Sg.RU HZ.out HZ0.out] at hq3;have hm3:=MM2.out;refine(IH.out m _ _ (by omega) hmL HCL.out ⟨hm3,hs3,by simpa using hq3⟩).mono ?_;rintro e w4 ⟨rfl,hD4,hM4⟩;have D4:=lh (hD4.cong HN.out.symm);have M4:=lh ((hM1.out.tr (M2.out.mono (F':=fun b=>b=bm\/AE (some ⟨gq,0,none⟩)=some b) (fun b _ e=>.inl e)) (fun b e=>.inl e)).tr' hM4);clear hD4 hM4 hm3 hs3 hq3 c2 cw2 cz fz bc2 bcw2 bcz S2 M2 Q2 MM2;go_wp2;go_roundw
      case rel=>exact⟨k+1,by omega,by go_num,D4,M4⟩
      case measure=>simp[intOf];omega
   ·obtain rfl:k=rd.length:=by omega
    go_wp2;go_end0;exact⟨rfl,hD.out.cong (by rw[HEN.out];exact HALL.out),(AF.of E1.out).tr' hM1.out⟩
set_option maxRecDepth 100000 in
set_option maxHeartbeats 4000000 in
theorem WV (B n gq:Nat)(Av Ar:Option Addr)(nv cv cr cq:Nat)(q:List Int)(r:List (List Int))(w:World)(hA:Sg.EH r)(hrl:r.length=q.length)(hL:q.length<=1000000)(hn:n<q.length)(hr:∀ W,AF (fun b=>b=gq) w W->Lq W Ar r)(hq:Au w B 3 1 (some ⟨gq,0,none⟩) q.length cq (Ah q)) :
  Calls Tryz.prog 137 #[.agg #[.slice Av nv cv,.slice Ar r.length cr,.slice (some ⟨gq,0,none⟩) q.length cq],.int .i64 n] w fun e w' =>
   e= .returned (.tuple #[])/\Au w' B 3 1 (some ⟨gq,0,none⟩) q.length cq (Ah (Sg.MA r q n))/\AF (fun b=>b=gq) w w':=by
 have hmm:=@run_makeMap Tryz.prog;have hent:=GZ (P:=Tryz.prog) Tryz.func169 rfl (by kernel_rfl);obtain⟨W0,hW0⟩:∃ W0,W0=((((w.alloc (.cells #[.slice Av nv cv,.slice Ar r.length cr,.slice (some ⟨gq,0,none⟩) q.length cq] 44)).alloc (.map #[] 0)).alloc (.cells #[.map (some (w.heap.size+1))] 185)).alloc (.cells #[(.func (.func 169) #[] #[.pointer (some ⟨w.heap.size,0,none⟩),.pointer (some ⟨w.heap.size+1+1,0,none⟩),.pointer (some ⟨w.heap.size+1+1+1,0,none⟩)])] 139)):=⟨_,rfl⟩;have e0:Aa w W0:=by rw[hW0];exact((((Aa.rfl' w).al _).al _).al _).al _
 have hs:Jx W0 (w.heap.size+1) q.length (fun _=>False):=by
  have h1:=Jx.made (w.alloc (.cells #[.slice Av nv cv,.slice Ar r.length cr,.slice (some ⟨gq,0,none⟩) q.length cq] 44)) q.length;rw[World.size_alloc] at h1;rw[hW0];exact h1.fr (((xr.al _).al _).block _ (by simp))
 have bs:Bx W0 w.heap.size [.slice Av nv cv,.slice Ar r.length cr,.slice (some ⟨gq,0,none⟩) q.length cq]:=by
  rw[hW0];exact(((Bx.new w #[.slice Av nv cv,.slice Ar r.length cr,.slice (some ⟨gq,0,none⟩) q.length cq] 44).al _).al _).al _
 have bx:Bx W0 (w.heap.size+1+1) [.map (some (w.heap.size+1))]:=by
  have h1:=(Bx.new ((w.alloc (.cells #[.slice Av nv cv,.slice Ar r.length cr,.slice (some ⟨gq,0,none⟩) q.length cq] 44)).alloc (.map #[] 0)) #[.map (some (w.heap.size+1))] 185).al (.cells #[(.func (.func 169) #[] #[.pointer (some ⟨w.heap.size,0,none⟩),.pointer (some ⟨w.heap.size+1+1,0,none⟩),.pointer (some ⟨w.heap.size+1+1+1,0,none⟩)])] 139);simp only[World.size_alloc] at h1;rw[hW0];exact h1
 have bw:Bx W0 (w.heap.size+1+1+1) [(.func (.func 169) #[] #[.pointer (some ⟨w.heap.size,0,none⟩),.pointer (some ⟨w.heap.size+1+1,0,none⟩),.pointer (some ⟨w.heap.size+1+1+1,0,none⟩)])]:=by
  have h1:=Bx.new (((w.alloc (.cells #[.slice Av nv cv,.slice Ar r.length cr,.slice (some ⟨gq,0,none⟩) q.length cq] 44)).alloc (.map #[] 0)).alloc (.cells #[.map (some (w.heap.size+1))] 185)) #[(.func (.func 169) #[] #[.pointer (some ⟨w.heap.size,0,none⟩),.pointer (some ⟨w.heap.size+1+1,0,none⟩),.pointer (some ⟨w.heap.size+1+1+1,0,none⟩)])] 139;simp only[World.size_alloc] at h1;rw[hW0];exact h1
 have hgq:gq<w.heap.size:=(hq.lt (g:=gq) rfl).2
 have HC:=lh (WU B (w.heap.size+1) q.length w.heap.size (w.heap.size+1+1) (w.heap.size+1+1+1) gq Av Ar nv cv cr cq q r W0 hA hrl rfl hL
  (fun W m=>hr W ⟨m.os.trans e0.os,m.tape.trans e0.tape,m.output.trans e0.output,Nat.le_trans e0.size m.size,fun b hb hn=>(m.block b (by have:=e0.size;omega) (fun e=>by simp[AE] at e;omega)).trans (e0.block b hb)⟩)
  bs bx bw (fun b hb=>by omega) (by omega) q.length n (fun _=>False) W0 (by omega) hn (fun _ _ h=>h.elim) ⟨AF.rfl' _ _,hs,by rw[Sg.RQ];exact hq.ext e0⟩)
 have HE:=lh e0;clear hr hq hA hrl hs bs bx bw e0;go_enter Tryz.func137,Tryz.ntmps137;go_wp2_with fail
 rw[<- hW0];refine HC.out.mono ?_;rintro e w1 ⟨rfl,hD,hM⟩;have D1:=lh hD;have M1:=lh hM;clear hD hM hW0;go_wp2;go_end0;refine⟨rfl,?_,?_⟩
 ·have:=D1.out.q;rwa [Sg.P6 (M':=Sg.Fp r n) q (fun i=>by simp)] at this
 ·exact⟨M1.out.os.trans HE.out.os,M1.out.tape.trans HE.out.tape,M1.out.output.trans HE.out.output,Nat.le_trans HE.out.size M1.out.size,fun b hb hn=>(M1.out.block b (by have:=HE.out.size;omega) (fun e=>by simp[AE] at e;omega)).trans (HE.out.block b hb)⟩
set_option maxRecDepth 100000 in
set_option maxHeartbeats 4000000 in
theorem VD (B n gq:Nat)(Av Ar:Option Addr)(nv cv cr cq:Nat)(q:List Int)(r:List (List Int))(w:World)(hA:Sg.EH r)(hrl:r.length=q.length)(hL:q.length<=1000000)(hn:n<q.length)(hr:∀ W,AF (fun b=>b=gq) w W->Lq W Ar r)(hq:Au w B 3 1 (some ⟨gq,0,none⟩) q.length cq (Ah q)) :
  Calls Tryz.prog 99 #[.agg #[.slice Av nv cv,.slice Ar r.length cr,.slice (some ⟨gq,0,none⟩) q.length cq],.int .i64 n] w fun e w' =>
   e= .returned (.tuple #[])/\Au w' B 3 1 (some ⟨gq,0,none⟩) q.length cq (Ah (Sg.CA r q n))/\AF (fun b=>b=gq) w w':=by
 have hgq:gq<w.heap.size:=(hq.lt (g:=gq) rfl).2;have HR:=lh hr;have HA:=lh hA;have HRL:=lh hrl;have e0:=(Aa.rfl' w).al (.cells #[.slice Av nv cv,.slice Ar r.length cr,.slice (some ⟨gq,0,none⟩) q.length cq] 44);have E0:=lh e0;have Q0:=lh (hq.ext e0);have BS:=lh (Bx.new w #[.slice Av nv cv,.slice Ar r.length cr,.slice (some ⟨gq,0,none⟩) q.length cq] 44);have hrb:r.length<=1000000:=by omega
 clear hr hA hrl hq e0;go_enter Tryz.func99,Tryz.ntmps99;go_wp2_with fail
 refine(Ou Av Ar (some ⟨gq,0,none⟩) nv cv cr q.length cq r n _ (HR.out _ (AF.of E0.out))).mono ?_;rintro e w1 ⟨A1,c1,rfl,ho1,he1⟩;have E1:=lh (E0.out.tr he1);have Q1:=lh (Q0.out.ext he1);have O1:=lh ho1;have B1:=lh (BS.out.ext he1);have HAT:=lh (fun (k:Nat) (x:Int) (h:(Sg.Bt r n)[k]? = some x)=>Sg.Kr h);have HLEN:(Sg.Bt r n).length<=1000000:=by have:=Sg.FI (fun i=>decide ((n:Int) ∈ r.getD i [])) r.length;unfold Sg.Bt Sg.Dy;omega
 have HTK:=lh (fun (k:Nat) (x:Int) (h:(Sg.Bt r n)[k]? = some x)=>show (Sg.Bt r n).take (k+1)=(Sg.Bt r n).take k++[x] by obtain⟨hk,he⟩:=ge_.1 h;rw[List.take_succ_eq_append_getElem hk,he]);have HEN:=lh (List.take_length (l:=Sg.Bt r n));have HT:=lh (Sg.RW r q n);generalize Sg.Bt r n=rd at *;have hs1:=he1.size;simp only[World.size_alloc] at hs1;have F1:=lh (show ∀ b,AE A1=some b->¬ (b=gq) from fun b hb e=>by have:=(O1.out.lt hb).1;simp at this;omega);have hnB:w.heap.size≠gq:=by omega
 clear ho1 he1 Q0 BS;go_wp2_with fail
 go_loopw [10] (fun i wr=>∃ k:Nat,k<=rd.length/\i= .int .i64 k/\Hid (Au wr B 3 1 (some ⟨gq,0,none⟩) q.length cq (Ah (Sg.FJ (rd.take k) q)))/\Hid (AF (fun b=>b=gq) w1 wr)) (fun i _=>rd.length - (intOf i).toNat)
 case atStart=>exact⟨0,Nat.zero_le _,rfl,lh (by rw[List.take_zero,Sg.RV];exact Q1.out),lh (AF.rfl' _ _)⟩
 case round =>
  obtain⟨k,hk,rfl,hQ,hM1⟩:=hrel;have s2:=(B1.out.mod hM1.out hnB).cell (j:=2) rfl;have bs2:=AA s2;by_cases hlt:k<rd.length
  ·obtain⟨b,o,x,rfl,hx,hcx⟩:=(O1.out.mod hM1.out F1.out).rd.at1 hlt;obtain⟨m,rfl,hm⟩:=HAT.out k _ hx;have hmr:=Sg.DE hm;have hmq2:m<q.length:=by rw[<- HRL.out];exact hmr
   have HS:=lh (show Sg.FJ (rd.take (k+1)) q=(Sg.FJ (rd.take k) q).set m 2 by rw[HTK.out k _ hx];exact Sg.P8 _ _ _);have bcx:=AA hcx;obtain⟨z,hz⟩:∃ z,(Sg.FJ (rd.take k) q)[m]? = some z:=⟨_,gg (by simpa using hmq2)⟩;have cz:=hQ.out.cell (j:=m) (u := .int .i64 z) (by rw[CB,hz];rfl);have fz:=hQ.out.free m;have bz:=AA cz;clear hx hm hmr hz;go_wp2;go_roundw
   case rel=>exact⟨k+1,by omega,by go_num,lh (by have:=hQ.out.st m (.int .i64 2);rw[Dz] at this;rw[HS.out];exact this),lh (AF.set hM1.out (p:=⟨gq,m,none⟩) (.inl rfl) (.int .i64 2))⟩
   case measure=>simp[intOf];omega
  ·obtain rfl:k=rd.length:=by omega
   have s0:=(B1.out.mod hM1.out hnB).cell (j:=0) rfl;have s1:=(B1.out.mod hM1.out hnB).cell (j:=1) rfl;have MW:=lh ((AF.of (F:=fun b=>b=gq) E1.out).tr' hM1.out);have HD:=lh (WV B n gq Av Ar nv cv cr cq (Sg.FJ rd q) r wr HA.out (by simpa using HRL.out) (by simpa using hL) (by simpa using hn) (fun W m=>HR.out W (MW.out.tr' m)) (by have:=hQ.out;rw[HEN.out] at this;simpa using this));have HD2:=HD.out;simp only[Sg.length_dirtyL] at HD2;rw[HT.out] at HD2;have HD3:=lh HD2;clear HD HD2;go_wp2_with fail
   refine HD3.out.mono ?_;rintro e w2 ⟨rfl,hq2,hm2⟩;have Q2:=lh hq2;have M2:=lh hm2;clear hq2 hm2;go_wp2;go_end0;exact⟨rfl,Q2.out,MW.out.tr' M2.out⟩
set_option maxRecDepth 100000 in
set_option maxHeartbeats 4000000 in
theorem Va (B n gv gq:Nat)(x:Int)(Ar:Option Addr)(cv cr cq:Nat)(v q:List Int)(r:List (List Int))(w:World)(hA:Sg.EH r)(hvl:v.length=q.length)(hrl:r.length=q.length)(hL:q.length<=1000000)(hn:n<q.length)(hne:gv≠gq)(hr:∀ W,AF (fun b=>b=gv\/b=gq) w W->Lq W Ar r)(hv:Au w B 3 1 (some ⟨gv,0,none⟩) v.length cv (Ah v))(hq:Au w B 3 1 (some ⟨gq,0,none⟩) q.length cq (Ah q)) :
  Calls Tryz.prog 59 #[.agg #[.slice (some ⟨gv,0,none⟩) v.length cv,.slice Ar r.length cr,.slice (some ⟨gq,0,none⟩) q.length cq],.int .i64 n,.int .i64 x] w fun e w' =>
   e= .returned (.tuple #[])/\Au w' B 3 1 (some ⟨gv,0,none⟩) v.length cv (Ah (Sg.Ca ⟨v,r,q⟩ n x).vals)/\Au w' B 3 1 (some ⟨gq,0,none⟩) q.length cq (Ah (Sg.Ca ⟨v,r,q⟩ n x).cols)/\AF (fun b=>b=gv\/b=gq) w w':=by
 have hgq:gq<w.heap.size:=(hq.lt (g:=gq) rfl).2;have hgv:gv<w.heap.size:=(hv.lt (g:=gv) rfl).2;obtain⟨y,hy⟩:∃ y,v[n]? = some y:=⟨_,gg (by omega)⟩;have hyd:v.getD n 0=y:=by simp[hy]
 have e0:=(Aa.rfl' w).al (.cells #[.slice (some ⟨gv,0,none⟩) v.length cv,.slice Ar r.length cr,.slice (some ⟨gq,0,none⟩) q.length cq] 44);have E0:=lh e0;have V0:=lh (hv.ext e0);have Q0:=lh (hq.ext e0);have BS:=lh (Bx.new w #[.slice (some ⟨gv,0,none⟩) v.length cv,.slice Ar r.length cr,.slice (some ⟨gq,0,none⟩) q.length cq] 44);have cy:=(hv.ext e0).cell (j:=n) (u := .int .i64 y) (by rw[CB,hy];rfl);have fy:=(hv.ext e0).free n;have hnv:n<v.length:=by omega
 have hvb:v.length<=1000000:=by omega
 have HR:=lh hr;have HA:=lh hA;have HRL:=lh hrl;by_cases hxy:y=x
 ·have z1:(y != x)=false:=by simp[hxy]
  have HS:=lh (show Sg.Ca ⟨v,r,q⟩ n x=⟨v,r,q⟩ by unfold Sg.Ca;rw[if_pos (by show v.getD n 0=x;rw[hyd,hxy])]);clear hr hv hq hy hyd hxy e0 hA hrl hvl;go_enter Tryz.func59,Tryz.ntmps59;go_wp2;go_end0;rw[HS.out];exact⟨rfl,V0.out,Q0.out,AF.of E0.out⟩
 ·have z1:(y != x)=true:=by simp[hxy]
  have HS:=lh (show Sg.Ca ⟨v,r,q⟩ n x=⟨v.set n x,r,Sg.CA r q n⟩ by unfold Sg.Ca;rw[if_neg (by show ¬ v.getD n 0=x;rw[hyd];exact hxy)]);have hm1:=AF.set (AF.of (F:=fun b=>b=gv) (Aa.rfl' (World.alloc w (.cells #[.slice (some ⟨gv,0,none⟩) v.length cv,.slice Ar r.length cr,.slice (some ⟨gq,0,none⟩) q.length cq] 44)))) (p:=⟨gv,n,none⟩) (.inl rfl) (.int .i64 x);have hs:=BS.out.oth (p:=⟨gv,n,none⟩) (show gv≠w.heap.size by omega) (.int .i64 x);have M1:=lh ((AF.of (F:=fun b=>b=gv\/b=gq) E0.out).tr hm1 (fun b e=>.inl (.inl e)));have V1:=lh (V0.out.st n (.int .i64 x));have Q1:=lh (Q0.out.mod hm1 (fun b hb e=>by simp[AE] at hb;omega));have s0:=hs.cell (j:=0) rfl;have s1:=hs.cell (j:=1) rfl;have s2:=hs.cell (j:=2) rfl;have hcm:World.setCell (World.alloc w (.cells #[.slice (some ⟨gv,0,none⟩) v.length cv,.slice Ar r.length cr,.slice (some ⟨gq,0,none⟩) q.length cq] 44)) ⟨gv,n,none⟩ (.int .i64 x)=World.alloc (World.setCell w ⟨gv,n,none⟩ (.int .i64 x)) (.cells #[.slice (some ⟨gv,0,none⟩) v.length cv,.slice Ar r.length cr,.slice (some ⟨gq,0,none⟩) q.length cq] 44):=World.setCell_alloc_past _ _ _ _ hgv;rw[hcm] at M1 V1 Q1 s0 s1 s2;clear hr hv hq hy hyd hxy e0 hA hrl hvl hm1 hs hcm;go_enter Tryz.func59,Tryz.ntmps59;go_wp2_with fail
  generalize World.alloc (World.setCell w ⟨gv,n,none⟩ (.int .i64 x)) (.cells #[.slice (some ⟨gv,0,none⟩) v.length cv,.slice Ar r.length cr,.slice (some ⟨gq,0,none⟩) q.length cq] 44)=W1 at *;refine(VD B n gq (some ⟨gv,0,none⟩) Ar v.length cv cr cq q r W1 HA.out HRL.out hL hn (fun W m=>HR.out W (M1.out.tr m (fun b e=>.inl (.inr e)))) Q1.out).mono ?_;rintro e w2 ⟨rfl,hq2,hm2⟩;have Q2:=lh hq2;have M2:=lh hm2;clear hq2 hm2;go_wp2;go_end0;rw[HS.out];refine⟨rfl,?_,Q2.out,M1.out.tr M2.out (fun b e=>.inl (.inr e))⟩;have:=V1.out.mod M2.out (fun b hb e=>by simp[AE] at hb;omega);rwa [Dz] at this
end Go.Proofs.YthibllkleakiiaaGreatDoor
