/- Parts of one proof, joined. Parts of one proof, joined. The program's nodeValid, with its function value: contracts, and more. Conditions: in the theorems. -/
import Derived.Test.YthibllkleakiiaaGreatDoorImplTwo
import Derived.Test.YthibllkleakiiaaGreatDoorSpecTO
namespace Go.Proofs.YthibllkleakiiaaGreatDoor
open Go.RowKit
theorem Ob (A:Option Addr)(n c:Nat)(k:Int)(w:World)(hn:n<=1048576):Calls Tryz.prog 60 #[.agg #[.slice A n c],.int .i64 k] w fun e w'=>e= .returned (.bool (Sg.Cb k 0 ((n:Int) - 1)))/\Aa w w':=by
 go_enter Tryz.func60,Tryz.ntmps60;go_wp2_with (go_at_call 57;refine(I_ _ _ _ _).mono ?_;rintro e w' ⟨rfl,rfl⟩)
 go_ret;exact⟨rfl,(Aa.rfl' w).al _⟩
theorem zn0{p:Prop}(h:p:=by
 have Hz:=lh hz;clear hz;go_enter Tryz.func52,Tryz.ntmps52;go_wp2_with (go_at_call 60;refine(Ob _ _ _ _ _ hgl).mono ?_;rintro e w1 ⟨rfl,he1⟩;rw[Hin.out];have k1:=he1.cellE Hk.out;have k2:=he1.cellE Q0.out;have kb:=AA k1)
 go_ret;exact⟨Aj (by simp[Hz.out]),HE.out.tr he1⟩):p:=h
set_option maxHeartbeats 1000000 in
theorem Jt (A:Option Addr)(c:Nat)(g:Sg.Ae)(k:Nat)(n:Sg.BV)(w:World)(h:Eg w A g)(hn:g[k]? = some n):Calls Tryz.prog 52 #[.agg #[.slice A g.length c],.int .i64 k] w fun e w'=>e= .returned (.bool (decide (n.kind=0)))/\Aa w w':=by
 have hk:k<g.length:=(ge_.1 hn).1;have hgl:=h.1;have e0:=(Aa.rfl' w).al (.cells #[.slice A g.length c] 35);obtain⟨n',b,o,Ap,cp,hn',rfl,hkc,hs,hf,hfl⟩:=(h.ext e0).at_ hk;rw[hn] at hn';injection hn' with hn';subst hn';have hin:Sg.Cb (k:Int) 0 ((g.length:Int) - 1)=true:=by simp[Sg.Cb];omega
 have Hin:=lh hin;have HE:=lh e0;have q0:(w.alloc (.cells #[.slice (some ⟨b,o,none⟩) g.length c] 35)).cell? ⟨w.heap.size,0,none⟩=some (.slice (some ⟨b,o,none⟩) g.length c):=by simp[go_sem]
 have Q0:=lh q0;have Hk:=lh hkc;clear hin hn e0 q0 hkc;by_cases hz:n.kind=0
 ·have z:(n.kind == 0)=true:=by simp[hz]
  exact zn0
 ·have z:(n.kind == 0)=false:=by simp[hz]
  exact zn0
theorem Ud (A:Option Addr)(c:Nat)(g:Sg.Ae)(k:Int)(w:World)(h:Eg w A g)(hk:k<0\/(g.length:Int)<=k):Calls Tryz.prog 52 #[.agg #[.slice A g.length c],.int .i64 k] w fun e w'=>e= .returned (.bool false)/\Aa w w':=by
 have hgl:=h.1;have hin:Sg.Cb k 0 ((g.length:Int) - 1)=false:=by simp[Sg.Cb];omega
 have Hin:=lh hin;clear hin hk;go_enter Tryz.func52,Tryz.ntmps52;go_wp2_with (go_at_call 60;refine(Ob _ _ _ _ _ hgl).mono ?_;rintro e w1 ⟨rfl,he1⟩;rw[Hin.out])
 go_ret;exact⟨rfl,((Aa.rfl' w).al _).tr he1⟩
set_option maxRecDepth 100000 in
set_option maxHeartbeats 2000000 in
theorem Gu (A Ac:Option Addr)(c cc:Nat)(g:Sg.Ae)(l:List Int)(w:World)(h:Eg w A g)(hc:Rd w 1 Ac l.length (Ah l)) :
  Calls Tryz.prog 45 #[.agg #[.slice A g.length c],.slice Ac l.length cc] w fun e w'=>e= .returned (.bool (Sg.AG g && Sg.AT g l))/\Aa w w':=by
 have hgl:=h.1;have hll:=hc.big;have e0:=(Aa.rfl' w).al (.cells #[.slice A g.length c] 35);have hbox:(w.alloc (.cells #[.slice A g.length c] 35)).cell? ⟨w.heap.size,0,none⟩=some (.slice A g.length c):=by simp[go_sem]
 have HVG:=lh (Kw A c g);have HSZ:=lh (Ef A g.length c);have H:=lh h;have Hc:=lh hc;have HE:=lh e0;have HB:=lh hbox;clear h hc e0 hbox;cases hG:Sg.AG g
 ·have HG:=lh hG;clear hG;go_enter Tryz.func45,Tryz.ntmps45;go_wp2_with (go_at_call 86;refine(HVG.out _ (H.out.ext HE.out)).mono ?_;rintro e w1 ⟨rfl,he1⟩;rw[HG.out])
  go_ret;exact⟨rfl,HE.out.tr he1⟩
 have HG:=lh hG;clear hG;by_cases hlen:l.length=g.length
 case neg =>
  have b1:((l.length:Int) != (g.length:Int))=true:=by simp;omega
  have Hb:=lh hlen;clear hlen;go_enter Tryz.func45,Tryz.ntmps45
  go_wp2_with (first
   | (go_at_call 86;refine(HVG.out _ (H.out.ext HE.out)).mono ?_;rintro e w1 ⟨rfl,he1⟩;rw[HG.out];have k1:=he1.cellE HB.out)
   | (go_at_call 51;refine(HSZ.out _).mono ?_;rintro e w2 ⟨rfl,he2⟩))
  go_ret;exact⟨Aj (by unfold Sg.AT;simp[Hb.out]),(HE.out.tr he1).tr he2⟩
 have b1:((l.length:Int) != (g.length:Int))=false:=by simp;omega
 have Hlen:=lh hlen;clear hlen;go_enter Tryz.func45,Tryz.ntmps45
 go_wp2_with (first
   | (go_at_call 86;refine(HVG.out _ (H.out.ext HE.out)).mono ?_;rintro e w1 ⟨rfl,he1⟩;rw[HG.out];have k1:=he1.cellE HB.out)
   | (go_at_call 51;refine(HSZ.out _).mono ?_;rintro e w2 ⟨rfl,he2⟩))
 have k2:=he2.cellE k1;have E2:=lh ((HE.out.tr he1).tr he2);clear k1 he1 he2;go_loopw [19] (fun i wr=>∃ k:Nat,k<=l.length/\i= .int .i64 k/\CO g l k=true/\Aa w2 wr) (fun i _=>l.length - (intOf i).toNat)
 case atStart=>exact⟨0,Nat.zero_le _,rfl,rfl,Aa.rfl' _⟩
 case round =>
  obtain⟨k,hk,rfl,hco,he⟩:=hrel;have q0:=he.cellE k2;have HC:=lh hco;have Er:=lh (E2.out.tr he);have Ew:=lh he;have hbN:=AA q0;clear hco he k2;by_cases hlt:k<l.length
  ·have hkg:k<g.length:=by have:=Hlen.out;omega
   obtain⟨n,hn⟩:∃ n,g[k]? = some n:=⟨_,gg hkg⟩;obtain⟨bc,oc,x,rfl,hx,hxc⟩:=(Hc.out.ext Er.out).at1 hlt;have hok:=lh (Od hn hx);have HCE:=lh (fun w h=>Jt A c g k n w h hn);have hb2:=AA hxc;clear hn hx;cases hin:Sg.Cb x 0 999
   ·have Hin:=lh hin;clear hin;go_wp2_with (go_at_call 57;refine(I_ _ _ _ _).mono ?_;rintro e w' ⟨rfl,rfl⟩;rw[Hin.out])
    go_ret;exact⟨Aj (by rw[OR g l k hlt (by rw[hok.out,Hin.out];rfl)];simp),Er.out⟩
   ·have Hin:=lh hin;clear hin;by_cases hx0:x=0
    ·have z2:(x != 0)=false:=by simp[hx0]
     have Hx:=lh hx0;clear hx0;go_wp2_with (go_at_call 57;refine(I_ _ _ _ _).mono ?_;rintro e w' ⟨rfl,rfl⟩;rw[Hin.out])
     go_roundw
     case rel=>exact⟨k+1,by omega,by go_num,by rw[LU,HC.out,hok.out,Hin.out,Hx.out];simp,Ew.out⟩
     case measure=>simp[intOf];omega
    ·have z2:(x != 0)=true:=by simp[hx0]
     have Hx:=lh hx0;clear hx0;by_cases hz:n.kind=0
     ·have hd:decide (n.kind=0)=true:=by simp[hz]
      have Hd:=lh hd;clear hz hd
      go_wp2_with (first
       | (go_at_call 57;refine(I_ _ _ _ _).mono ?_;rintro e w' ⟨rfl,rfl⟩;rw[Hin.out])
       | (go_at_call 52;refine(HCE.out _ (H.out.ext Er.out)).mono ?_;rintro e w3 ⟨rfl,he3⟩;rw[Hd.out]))
      go_roundw
      case rel=>exact⟨k+1,by omega,by go_num,by rw[LU,HC.out,hok.out,Hin.out,Hd.out];rfl,Ew.out.tr he3⟩
      case measure=>simp[intOf];omega
     ·have hd:decide (n.kind=0)=false:=by simp[hz]
      have Hd:=lh hd;clear hz hd
      go_wp2_with (first
       | (go_at_call 57;refine(I_ _ _ _ _).mono ?_;rintro e w' ⟨rfl,rfl⟩;rw[Hin.out])
       | (go_at_call 52;refine(HCE.out _ (H.out.ext Er.out)).mono ?_;rintro e w3 ⟨rfl,he3⟩;rw[Hd.out]))
      go_ret;exact⟨Aj (by rw[OR g l k hlt (by rw[hok.out,Hd.out];simp[Hx.out])];simp),Er.out.tr he3⟩
  ·obtain rfl:k=l.length:=by omega
   go_wp2;go_ret;exact⟨Aj (by unfold Sg.AT;have:=HC.out;unfold CO at this;rw[this];simp[Hlen.out]),Er.out⟩
theorem Na {w:World}{B e size n:Nat}{v:Value}{xs:List Value}(h:w.ownsRow B e size v n xs):∃ A c,v= .slice A n c/\Au w B e size A n c xs:=by
 obtain⟨h1,⟨rfl,rfl⟩ | ⟨g,cap,cur,rfl,hb,hh,hn,hm,hs,ht⟩⟩:=h
 ·exact⟨none,0,rfl,h1,Nat.le_refl _,by unfold maxLen;omega,.inl ⟨rfl,rfl⟩⟩
 ·exact⟨_,_,rfl,h1,hn,hm,.inr ⟨g,cur,rfl,hb,hh,by omega,ht⟩⟩
theorem WE (A:Option Addr)(n c:Nat)(l:List Int)(w:World)(h:Rd w 1 A n (Ah l))(hb:n<=4194304) :
  Calls Tryz.prog 89 #[.slice A n c] w fun e w'=>∃ A' c',e= .returned (.slice A' n c')/\Au w' w.heap.size 3 1 A' n c' (Ah l)/\Aa w w':=by
 have hl:=h.len;by_cases h0:n=0
 ·subst h0;obtain rfl:l=[]:=List.eq_nil_of_length_eq_zero hl;cases A with
  | none=>exact(Tryz.slices_Clone_int_nil 0 c w).mono fun e w' hh=>⟨none,0,hh.1,Au.nil _ _ _ _,by have:=hh.2;subst this;exact Aa.rfl' _⟩
  | some a =>
   refine(Tryz.slices_Clone_int_zero a c w).mono fun e w' hh=>?_;obtain⟨v',rfl,ho,_,hbl⟩:=hh;obtain⟨A',c',rfl,ho2⟩:=Na ho;exact⟨A',c',rfl,ho2,hbl⟩
 ·obtain⟨b,o,rfl,hc⟩:=h.2.2 (by omega);refine(Tryz.slices_Clone_int b o n c l w (by omega) (by omega) (fun j hj=>hc j _ ?_)).mono fun e w' hh=>?_
  ·rw[CB,g_d,gg hj];rfl
  ·obtain⟨v',rfl,ho,_,hbl⟩:=hh;obtain⟨A',c',rfl,ho2⟩:=Na ho;have e1:l.take n=l:=by rw[<- hl,List.take_length]
   rw[e1] at ho2;exact⟨A',c',rfl,ho2,hbl⟩
theorem Kv (A:Option Addr)(n c:Nat)(l:List Int)(w:World)(h:Rd w 1 A n (Ah l))(hb:n<=4194304) :
  Calls Tryz.prog 50 #[.slice A n c] w fun e w'=>∃ A',e= .returned (.slice A' n n)/\Au w' w.heap.size 3 1 A' n n (Ah l)/\Aa w w':=by
 have HC:=lh (WE A n c l w h hb);clear h;go_enter Tryz.func50,Tryz.ntmps50;go_wp2_with fail
 refine HC.out.mono ?_;rintro e w1 ⟨A1,c1,rfl,ho,he⟩;have h1:=ho.2.1;have h2:=ho.2.2.1;have Ho:=lh ho;clear ho;go_wp2_with fail
 refine(J9 A1 n c1 w1 h1 h2).mono ?_;rintro e w' ⟨rfl,rfl⟩;go_wp2;go_ret;exact⟨A1,rfl,Ho.out.clip,he⟩
open Go.RowKit
section
variable {g:Sg.Ae} {v q:List Int} {r:List (List Int)} {k:Nat} {nk x qk:Int} {nf:List Sg.At} {l:List Int}
theorem Sz (hn:g[k]? = some ⟨nk,nf⟩)(hl:r[k]? = some l)(hq:q[k]? = some qk)(h0:nk=0):Sg.Df g ⟨v,r,q⟩ k=(decide (qk=0) && l.isEmpty):=by
 unfold Sg.Df;simp[hn,hl,hq,h0]
theorem QM (hn:g[k]? = some ⟨nk,nf⟩)(hl:r[k]? = some l)(hq:q[k]? = some qk)(h0:nk≠0)(h2:qk=2):Sg.Df g ⟨v,r,q⟩ k=(l.all (fun x=>decide (x ∈ Sg.AX nf)) && Sg.FZ l):=by
 unfold Sg.Df;simp[hn,hl,hq,h0,h2]
theorem Ly (hn:g[k]? = some ⟨nk,nf⟩)(hl:r[k]? = some l)(hx:v[k]? = some x)(h0:nk≠0):Sg.CL g v r k=(decide ((Sg.AJ nf v).1=x) && decide ((Sg.AJ nf v).2=l)):=by
 unfold Sg.CL;simp[hn,hl,hx,h0]
theorem QN (hn:g[k]? = some ⟨nk,nf⟩)(hl:r[k]? = some l)(hq:q[k]? = some qk)(hx:v[k]? = some x)(h0:nk≠0)(h1:qk=1):Sg.Df g ⟨v,r,q⟩ k=(decide ((Sg.AJ nf v).1=x) && decide ((Sg.AJ nf v).2=l)):=by
 rw[<- Ly hn hl hx h0];unfold Sg.Df;simp[hn,hq,h0,h1]
theorem QO (hn:g[k]? = some ⟨nk,nf⟩)(hl:r[k]? = some l)(hq:q[k]? = some qk)(hx:v[k]? = some x)(h0:nk≠0)(h1:qk=0) :
  Sg.Df g ⟨v,r,q⟩ k=((decide ((Sg.AJ nf v).1=x) && decide ((Sg.AJ nf v).2=l)) && l.all fun x=>Sg.rd q x == 0):=by
 rw[<- Ly hn hl hx h0];unfold Sg.Df;simp[hn,hl,hq,h0,h1]
theorem Uo (hn:g[k]? = some ⟨nk,nf⟩)(hq:q[k]? = some qk)(h0:nk≠0)(h2:qk≠2)(h1:qk≠1)(h3:qk≠0):Sg.Df g ⟨v,r,q⟩ k=false:=by
 unfold Sg.Df;simp[hn,hq,h0,h1,h2,h3]
end
def DQ (l M:List Int)(j:Nat):Bool:=(List.range j).all fun i=>decide (l.getD i 0 ∈ M) && decide (l.getD i 0 ∉ l.take i)
theorem WG (l M:List Int)(j:Nat){x:Int}(h:l[j]? = some x):DQ l M (j+1)=(DQ l M j && (decide (x ∈ M) && decide (x ∉ l.take j))):=by
 unfold DQ;rw[List.range_succ,List.all_append];simp[h]
theorem XU (l M:List Int)(j:Nat)(hj:j<l.length)(h:DQ l M (j+1)=false):DQ l M l.length=false:=by
 unfold DQ at *;rw[List.all_eq_false] at *;obtain⟨i,hi,h⟩:=h;exact⟨i,List.mem_range.2 (by have:=List.mem_range.1 hi;omega),h⟩
theorem XV (l M:List Int):(l.all (fun x=>decide (x ∈ M)) && Sg.FZ l)=DQ l M l.length:=by
 unfold DQ Sg.FZ;rw[Bool.eq_iff_iff,Bool.and_eq_true,List.all_eq_true,List.all_eq_true,List.all_eq_true];constructor
 ·rintro ⟨h1,h2⟩ i hi;rw[Bool.and_eq_true];refine⟨?_,h2 i hi⟩;have hi':=List.mem_range.1 hi;have:=h1 (l[i]) (List.getElem_mem hi');simpa[hi'] using this
 ·intro h;refine⟨fun x hx=>?_,fun i hi=>?_⟩
  ·obtain⟨i,hi⟩:=List.getElem?_of_mem hx;have:=h i (List.mem_range.2 (ge_.1 hi).1);rw[Bool.and_eq_true] at this;have:=this.1;simpa[hi] using this
  ·have:=h i hi;rw[Bool.and_eq_true] at this;exact this.2
theorem Nb (B:Nat)(Aq:Option Addr)(cq n:Nat)(q:List Int):Xv Tryz.prog 165 [.pointer (some ⟨B,0,none⟩)] (fun w=>w.cell? ⟨B,2,none⟩=some (.slice Aq n cq)/\Rd w 1 Aq n (Ah q)) (fun k=>Sg.rd q k != 0) (fun k=>0<=k/\k<n) where
 ent:=GZ Tryz.func165 rfl (by kernel_rfl)
 call:=fun w k h hk=>by
  obtain⟨h1,h3⟩:=h;obtain⟨j,rfl⟩:=Int.eq_ofNat_of_zero_le hk.1;have hj:j<n:=by omega
  have hb:=h3.big;obtain⟨ba,oa,x,rfl,hx,hcx⟩:=h3.at1 hj;have HP:=lh (show (Sg.rd q j != 0)=(x != 0) by simp[Sg.rd,hx]);have hb1:=AA h1;clear hx h3 hk;go_enter Tryz.func165,Tryz.ntmps165;go_wp2;go_ret;exact⟨Aj (by rw[HP.out]),Aa.rfl' _⟩
 ext:=fun _ _ h e=>⟨e.cellE h.1,h.2.ext e⟩
theorem Rd.take {w:World}{A:Option Addr}{n:Nat}{l:List Int}(h:Rd w 1 A n (Ah l))(j:Nat)(hj:j<=n):Rd w 1 A j (Ah (l.take j)):=by
 have hl:=h.len;refine⟨by simp;omega,Nat.le_trans hj h.2.1,fun hn=>?_⟩;obtain⟨b,o,ha,hc⟩:=h.2.2 (by omega);refine⟨b,o,ha,fun i u hu=>hc i u ?_⟩;rw[<- Oe,List.getElem?_take] at hu;split at hu
 ·exact hu
 ·cases hu
theorem Nc {g:Sg.Ae}(h:Sg.AG g=true):g.length<=10:=by
 unfold Sg.AG at h;simp only[Bool.and_eq_true,decide_eq_true_eq] at h;exact h.2
theorem SA (q l:List Int):(!(l.any fun k=>Sg.rd q k != 0))=l.all fun x=>Sg.rd q x == 0:=by
 induction l with
 | nil=>rfl
 | cons a l ih =>
  rw[List.any_cons,List.all_cons,<- ih,Bool.not_or];cases h:(Sg.rd q a == 0) <;> simp_all [bne]
set_option maxRecDepth 100000 in
set_option maxHeartbeats 4000000 in
theorem WH (A Av Ar Aq:Option Addr)(c cv cr cq:Nat)(g:Sg.Ae)(v q:List Int)(r:List (List Int))(k:Nat)(w:World)(h:Eg w A g)(hv:Rd w 1 Av g.length (Ah v))(hr:Ex w Ar r)(hq:Rd w 1 Aq g.length (Ah q))(hrg:r.length=g.length)(hk:k<g.length)(hG:Sg.AG g=true)(_hI:Sg.Bq v){nk qk:Int}{nf:List Sg.At}(hn:g[k]? = some ⟨nk,nf⟩)(hqk:q[k]? = some qk)(h0:nk=0) :
  Calls Tryz.prog 130 #[.agg #[.slice Av g.length cv,.slice Ar r.length cr,.slice Aq g.length cq],.agg #[.slice A g.length c],.int .i64 k] w fun e w'=>e= .returned (.bool (Sg.Df g ⟨v,r,q⟩ k))/\Aa w w':=by
 have hgl:=h.1;have hg10:=Nc hG;have hvl:v.length=g.length:=hv.len;have hql:q.length=g.length:=hq.len;obtain⟨n',b,o,Ap,cp,hn',rfl,hkc,hs,hf,hfl⟩:=h.at_ hk;rw[hn] at hn';injection hn' with hn';subst hn';dsimp only at hkc hs hf hfl;obtain⟨bq,oq,qk',rfl,hqk',hcq⟩:=hq.at1 hk;rw[hqk] at hqk';injection hqk' with hqk';subst hqk';obtain⟨l,br,oR,Al,cl,hl,rfl,hcl,hrl,hl1,hlc,hcm⟩:=hr.at_ (show k<r.length by omega);obtain⟨bv,ov,x,rfl,hx,hcv⟩:=hv.at1 hk;have hkr:k<r.length:=by omega
 have HCL:=lh (fun w h=>Jt (some ⟨b,o,none⟩) c g k ⟨nk,nf⟩ w h hn);have HS:=lh (Sz (v:=v) hn hl hqk h0);have bl1:=AA hcl;have bl2:=AA hcq;have bl3:=AA hkc;have HZ:=lh (show decide (nk=0)=true by simp[h0]);have Hcq:=lh hcq;have H:=lh h;have Hv:=lh hv;have Hr:=lh hr;have Hq:=lh hq;have Hl:=lh hrl;have Hf:=lh hf;have Hs:=lh hs;have E0:=lh ((((Aa.rfl' w).al (.cells #[.slice (some ⟨bv,ov,none⟩) g.length cv,.slice (some ⟨br,oR,none⟩) r.length cr,.slice (some ⟨bq,oq,none⟩) g.length cq] 44)).al (.cells #[.slice (some ⟨b,o,none⟩) g.length c] 35)):Aa w (World.alloc (World.alloc w (.cells #[.slice (some ⟨bv,ov,none⟩) g.length cv,.slice (some ⟨br,oR,none⟩) r.length cr,.slice (some ⟨bq,oq,none⟩) g.length cq] 44)) (.cells #[.slice (some ⟨b,o,none⟩) g.length c] 35)));have qlv:World.cell? (World.alloc (World.alloc w (.cells #[.slice (some ⟨bv,ov,none⟩) g.length cv,.slice (some ⟨br,oR,none⟩) r.length cr,.slice (some ⟨bq,oq,none⟩) g.length cq] 44)) (.cells #[.slice (some ⟨b,o,none⟩) g.length c] 35)) ⟨w.heap.size,0,none⟩=some (.slice (some ⟨bv,ov,none⟩) g.length cv):=by simp[go_sem]
 have Qlv:=lh qlv;clear qlv;have qlr:World.cell? (World.alloc (World.alloc w (.cells #[.slice (some ⟨bv,ov,none⟩) g.length cv,.slice (some ⟨br,oR,none⟩) r.length cr,.slice (some ⟨bq,oq,none⟩) g.length cq] 44)) (.cells #[.slice (some ⟨b,o,none⟩) g.length c] 35)) ⟨w.heap.size,1,none⟩=some (.slice (some ⟨br,oR,none⟩) r.length cr):=by simp[go_sem]
 have Qlr:=lh qlr;clear qlr;have qlq:World.cell? (World.alloc (World.alloc w (.cells #[.slice (some ⟨bv,ov,none⟩) g.length cv,.slice (some ⟨br,oR,none⟩) r.length cr,.slice (some ⟨bq,oq,none⟩) g.length cq] 44)) (.cells #[.slice (some ⟨b,o,none⟩) g.length c] 35)) ⟨w.heap.size,2,none⟩=some (.slice (some ⟨bq,oq,none⟩) g.length cq):=by simp[go_sem]
 have Qlq:=lh qlq;clear qlq;have qlg:World.cell? (World.alloc (World.alloc w (.cells #[.slice (some ⟨bv,ov,none⟩) g.length cv,.slice (some ⟨br,oR,none⟩) r.length cr,.slice (some ⟨bq,oq,none⟩) g.length cq] 44)) (.cells #[.slice (some ⟨b,o,none⟩) g.length c] 35)) ⟨w.heap.size+1,0,none⟩=some (.slice (some ⟨b,o,none⟩) g.length c):=by simp[go_sem]
 have Qlg:=lh qlg;clear qlg;clear hn hqk hl hx hv hr hq h hG _hI hf hs hrl h0 hkc hcv hvl hql hrg hcq;by_cases hq0:qk=0
 ·have z1:(qk == 0)=true:=by simp[hq0]
  have HQ:=lh hq0;clear hq0;go_enter Tryz.func130,Tryz.ntmps130;go_wp2_with fail
  refine(HCL.out _ (H.out.ext E0.out)).mono ?_;rintro e w1 ⟨rfl,he1⟩;rw[HZ.out];have U1:=lh ((Aa.rfl' (World.alloc (World.alloc w (.cells #[.slice (some ⟨bv,ov,none⟩) g.length cv,.slice (some ⟨br,oR,none⟩) r.length cr,.slice (some ⟨bq,oq,none⟩) g.length cq] 44)) (.cells #[.slice (some ⟨b,o,none⟩) g.length c] 35))).tr he1);have E1:=lh (E0.out.tr U1.out);have lv_1:=U1.out.cellE Qlv.out;have lr_1:=U1.out.cellE Qlr.out;have lq_1:=U1.out.cellE Qlq.out;have lg_1:=U1.out.cellE Qlg.out;have cq_1:=U1.out.cellE (E0.out.cellE Hcq.out);clear he1 ;have blv_1:=AA lv_1;have blr_1:=AA lr_1;have blq_1:=AA lq_1;have blg_1:=AA lg_1;have bcq_1:=AA cq_1;go_wp2;go_ret;exact⟨Aj (by rw[HS.out,HQ.out];cases l <;> rfl),E1.out⟩
 ·have z1:(qk == 0)=false:=by simp[hq0]
  have HQ:=lh hq0;clear hq0;go_enter Tryz.func130,Tryz.ntmps130;go_wp2_with fail
  refine(HCL.out _ (H.out.ext E0.out)).mono ?_;rintro e w1 ⟨rfl,he1⟩;rw[HZ.out];have U1:=lh ((Aa.rfl' (World.alloc (World.alloc w (.cells #[.slice (some ⟨bv,ov,none⟩) g.length cv,.slice (some ⟨br,oR,none⟩) r.length cr,.slice (some ⟨bq,oq,none⟩) g.length cq] 44)) (.cells #[.slice (some ⟨b,o,none⟩) g.length c] 35))).tr he1);have E1:=lh (E0.out.tr U1.out);have lv_1:=U1.out.cellE Qlv.out;have lr_1:=U1.out.cellE Qlr.out;have lq_1:=U1.out.cellE Qlq.out;have lg_1:=U1.out.cellE Qlg.out;have cq_1:=U1.out.cellE (E0.out.cellE Hcq.out);clear he1 ;have blv_1:=AA lv_1;have blr_1:=AA lr_1;have blq_1:=AA lq_1;have blg_1:=AA lg_1;have bcq_1:=AA cq_1;go_wp2;go_ret;exact⟨Aj (by rw[HS.out];simp[HQ.out]),E1.out⟩
set_option maxRecDepth 100000 in
set_option maxHeartbeats 4000000 in
theorem XX (A Av Ar Aq:Option Addr)(c cv cr cq:Nat)(g:Sg.Ae)(v q:List Int)(r:List (List Int))(k:Nat)(w:World)(h:Eg w A g)(hv:Rd w 1 Av g.length (Ah v))(hr:Ex w Ar r)(hq:Rd w 1 Aq g.length (Ah q))(hrg:r.length=g.length)(hk:k<g.length)(hG:Sg.AG g=true)(_hI:Sg.Bq v){nk qk:Int}{nf:List Sg.At}(hn:g[k]? = some ⟨nk,nf⟩)(hqk:q[k]? = some qk)(h0:nk≠0)(hb2:qk≠2)(hb1:qk≠1)(hb0:qk≠0) :
  Calls Tryz.prog 130 #[.agg #[.slice Av g.length cv,.slice Ar r.length cr,.slice Aq g.length cq],.agg #[.slice A g.length c],.int .i64 k] w fun e w'=>e= .returned (.bool (Sg.Df g ⟨v,r,q⟩ k))/\Aa w w':=by
 have hgl:=h.1;have hg10:=Nc hG;have hvl:v.length=g.length:=hv.len;have hql:q.length=g.length:=hq.len;obtain⟨n',b,o,Ap,cp,hn',rfl,hkc,hs,hf,hfl⟩:=h.at_ hk;rw[hn] at hn';injection hn' with hn';subst hn';dsimp only at hkc hs hf hfl;obtain⟨bq,oq,qk',rfl,hqk',hcq⟩:=hq.at1 hk;rw[hqk] at hqk';injection hqk' with hqk';subst hqk';obtain⟨l,br,oR,Al,cl,hl,rfl,hcl,hrl,hl1,hlc,hcm⟩:=hr.at_ (show k<r.length by omega);obtain⟨bv,ov,x,rfl,hx,hcv⟩:=hv.at1 hk;have hkr:k<r.length:=by omega
 have HCL:=lh (fun w h=>Jt (some ⟨b,o,none⟩) c g k ⟨nk,nf⟩ w h hn);have HS:=lh (Uo (v:=v) (r:=r) hn hqk h0 hb2 hb1 hb0);have bl1:=AA hcl;have bl2:=AA hcq;have bl3:=AA hkc;have HZ:=lh (show decide (nk=0)=false by simp[h0]);have Hcq:=lh hcq;have z2:(qk == 2)=false:=by simp[hb2]
 have z1:(qk == 1)=false:=by simp[hb1]
 have z0:(qk == 0)=false:=by simp[hb0]
 have H:=lh h;have Hv:=lh hv;have Hr:=lh hr;have Hq:=lh hq;have Hl:=lh hrl;have Hf:=lh hf;have Hs:=lh hs;have E0:=lh ((((Aa.rfl' w).al (.cells #[.slice (some ⟨bv,ov,none⟩) g.length cv,.slice (some ⟨br,oR,none⟩) r.length cr,.slice (some ⟨bq,oq,none⟩) g.length cq] 44)).al (.cells #[.slice (some ⟨b,o,none⟩) g.length c] 35)):Aa w (World.alloc (World.alloc w (.cells #[.slice (some ⟨bv,ov,none⟩) g.length cv,.slice (some ⟨br,oR,none⟩) r.length cr,.slice (some ⟨bq,oq,none⟩) g.length cq] 44)) (.cells #[.slice (some ⟨b,o,none⟩) g.length c] 35)));have qlv:World.cell? (World.alloc (World.alloc w (.cells #[.slice (some ⟨bv,ov,none⟩) g.length cv,.slice (some ⟨br,oR,none⟩) r.length cr,.slice (some ⟨bq,oq,none⟩) g.length cq] 44)) (.cells #[.slice (some ⟨b,o,none⟩) g.length c] 35)) ⟨w.heap.size,0,none⟩=some (.slice (some ⟨bv,ov,none⟩) g.length cv):=by simp[go_sem]
 have Qlv:=lh qlv;clear qlv;have qlr:World.cell? (World.alloc (World.alloc w (.cells #[.slice (some ⟨bv,ov,none⟩) g.length cv,.slice (some ⟨br,oR,none⟩) r.length cr,.slice (some ⟨bq,oq,none⟩) g.length cq] 44)) (.cells #[.slice (some ⟨b,o,none⟩) g.length c] 35)) ⟨w.heap.size,1,none⟩=some (.slice (some ⟨br,oR,none⟩) r.length cr):=by simp[go_sem]
 have Qlr:=lh qlr;clear qlr;have qlq:World.cell? (World.alloc (World.alloc w (.cells #[.slice (some ⟨bv,ov,none⟩) g.length cv,.slice (some ⟨br,oR,none⟩) r.length cr,.slice (some ⟨bq,oq,none⟩) g.length cq] 44)) (.cells #[.slice (some ⟨b,o,none⟩) g.length c] 35)) ⟨w.heap.size,2,none⟩=some (.slice (some ⟨bq,oq,none⟩) g.length cq):=by simp[go_sem]
 have Qlq:=lh qlq;clear qlq;have qlg:World.cell? (World.alloc (World.alloc w (.cells #[.slice (some ⟨bv,ov,none⟩) g.length cv,.slice (some ⟨br,oR,none⟩) r.length cr,.slice (some ⟨bq,oq,none⟩) g.length cq] 44)) (.cells #[.slice (some ⟨b,o,none⟩) g.length c] 35)) ⟨w.heap.size+1,0,none⟩=some (.slice (some ⟨b,o,none⟩) g.length c):=by simp[go_sem]
 have Qlg:=lh qlg;clear qlg;clear hn hqk hl hx hv hr hq h hG _hI hf hs hrl h0 hkc hcv hvl hql hrg hcq hb2 hb1 hb0;go_enter Tryz.func130,Tryz.ntmps130;go_wp2_with fail
 refine(HCL.out _ (H.out.ext E0.out)).mono ?_;rintro e w1 ⟨rfl,he1⟩;rw[HZ.out];have U1:=lh ((Aa.rfl' (World.alloc (World.alloc w (.cells #[.slice (some ⟨bv,ov,none⟩) g.length cv,.slice (some ⟨br,oR,none⟩) r.length cr,.slice (some ⟨bq,oq,none⟩) g.length cq] 44)) (.cells #[.slice (some ⟨b,o,none⟩) g.length c] 35))).tr he1);have E1:=lh (E0.out.tr U1.out);have lv_1:=U1.out.cellE Qlv.out;have lr_1:=U1.out.cellE Qlr.out;have lq_1:=U1.out.cellE Qlq.out;have lg_1:=U1.out.cellE Qlg.out;have cq_1:=U1.out.cellE (E0.out.cellE Hcq.out);clear he1 ;have blv_1:=AA lv_1;have blr_1:=AA lr_1;have blq_1:=AA lq_1;have blg_1:=AA lg_1;have bcq_1:=AA cq_1;go_wp2;go_ret;exact⟨Aj (by rw[HS.out]),E1.out⟩
set_option maxRecDepth 100000 in
set_option maxHeartbeats 4000000 in
theorem Vy (A Av Ar Aq:Option Addr)(c cv cr cq:Nat)(g:Sg.Ae)(v q:List Int)(r:List (List Int))(k:Nat)(w:World)(h:Eg w A g)(hv:Rd w 1 Av g.length (Ah v))(hr:Ex w Ar r)(hq:Rd w 1 Aq g.length (Ah q))(hrg:r.length=g.length)(hk:k<g.length)(hG:Sg.AG g=true)(hI:Sg.Bq v){nk qk:Int}{nf:List Sg.At}(hn:g[k]? = some ⟨nk,nf⟩)(hqk:q[k]? = some qk)(h0:nk≠0)(hq2:qk=1) :
  Calls Tryz.prog 130 #[.agg #[.slice Av g.length cv,.slice Ar r.length cr,.slice Aq g.length cq],.agg #[.slice A g.length c],.int .i64 k] w fun e w'=>e= .returned (.bool (Sg.Df g ⟨v,r,q⟩ k))/\Aa w w':=by
 have hgl:=h.1;have hg10:=Nc hG;have hvl:v.length=g.length:=hv.len;have hql:q.length=g.length:=hq.len;obtain⟨n',b,o,Ap,cp,hn',rfl,hkc,hs,hf,hfl⟩:=h.at_ hk;rw[hn] at hn';injection hn' with hn';subst hn';dsimp only at hkc hs hf hfl;obtain⟨bq,oq,qk',rfl,hqk',hcq⟩:=hq.at1 hk;rw[hqk] at hqk';injection hqk' with hqk';subst hqk';obtain⟨l,br,oR,Al,cl,hl,rfl,hcl,hrl,hl1,hlc,hcm⟩:=hr.at_ (show k<r.length by omega);obtain⟨bv,ov,x,rfl,hx,hcv⟩:=hv.at1 hk;have hkr:k<r.length:=by omega
 have HCL:=lh (fun w h=>Jt (some ⟨b,o,none⟩) c g k ⟨nk,nf⟩ w h hn);have HS:=lh (QN hn hl hqk hx h0 hq2);have bl1:=AA hcl;have bl2:=AA hcq;have bl3:=AA hkc;have HZ:=lh (show decide (nk=0)=false by simp[h0]);have Hcq:=lh hcq;have z2:(qk == 2)=false:=by simp[hq2]
 have z1:(qk == 1)=true:=by simp[hq2]
 have z0:(qk == 0)=false:=by simp[hq2]
 have H:=lh h;have Hv:=lh hv;have Hr:=lh hr;have Hq:=lh hq;have Hl:=lh hrl;have Hf:=lh hf;have Hs:=lh hs
 have HR:=lh (show ∀ (w:World),Eg w (some ⟨b,o,none⟩) g->Rd w 1 (some ⟨bv,ov,none⟩) g.length (Ah v)->Rd w 1 Al l.length (Ah l)->Calls Tryz.prog 164 #[.agg #[.slice (some ⟨b,o,none⟩) g.length c],.int .i64 k,.slice (some ⟨bv,ov,none⟩) g.length cv,.slice Al l.length cl] w fun e w'=>e= .returned (.bool (decide ((Sg.AJ nf v).1=x) && decide ((Sg.AJ nf v).2=l)))/\Aa w w' from fun w h1 h2 h3=>by
  have:=Te (some ⟨b,o,none⟩) (some ⟨bv,ov,none⟩) Al c cv cl g v l k ⟨nk,nf⟩ x w h1 (by rw[hvl];exact h2) h3 hn hx (Sg.Bo hG k hn h0) hI;rw[hvl] at this;exact this)
 have E0:=lh ((((Aa.rfl' w).al (.cells #[.slice (some ⟨bv,ov,none⟩) g.length cv,.slice (some ⟨br,oR,none⟩) r.length cr,.slice (some ⟨bq,oq,none⟩) g.length cq] 44)).al (.cells #[.slice (some ⟨b,o,none⟩) g.length c] 35)):Aa w (World.alloc (World.alloc w (.cells #[.slice (some ⟨bv,ov,none⟩) g.length cv,.slice (some ⟨br,oR,none⟩) r.length cr,.slice (some ⟨bq,oq,none⟩) g.length cq] 44)) (.cells #[.slice (some ⟨b,o,none⟩) g.length c] 35)));have qlv:World.cell? (World.alloc (World.alloc w (.cells #[.slice (some ⟨bv,ov,none⟩) g.length cv,.slice (some ⟨br,oR,none⟩) r.length cr,.slice (some ⟨bq,oq,none⟩) g.length cq] 44)) (.cells #[.slice (some ⟨b,o,none⟩) g.length c] 35)) ⟨w.heap.size,0,none⟩=some (.slice (some ⟨bv,ov,none⟩) g.length cv):=by simp[go_sem]
 have Qlv:=lh qlv;clear qlv;have qlr:World.cell? (World.alloc (World.alloc w (.cells #[.slice (some ⟨bv,ov,none⟩) g.length cv,.slice (some ⟨br,oR,none⟩) r.length cr,.slice (some ⟨bq,oq,none⟩) g.length cq] 44)) (.cells #[.slice (some ⟨b,o,none⟩) g.length c] 35)) ⟨w.heap.size,1,none⟩=some (.slice (some ⟨br,oR,none⟩) r.length cr):=by simp[go_sem]
 have Qlr:=lh qlr;clear qlr;have qlq:World.cell? (World.alloc (World.alloc w (.cells #[.slice (some ⟨bv,ov,none⟩) g.length cv,.slice (some ⟨br,oR,none⟩) r.length cr,.slice (some ⟨bq,oq,none⟩) g.length cq] 44)) (.cells #[.slice (some ⟨b,o,none⟩) g.length c] 35)) ⟨w.heap.size,2,none⟩=some (.slice (some ⟨bq,oq,none⟩) g.length cq):=by simp[go_sem]
 have Qlq:=lh qlq;clear qlq;have qlg:World.cell? (World.alloc (World.alloc w (.cells #[.slice (some ⟨bv,ov,none⟩) g.length cv,.slice (some ⟨br,oR,none⟩) r.length cr,.slice (some ⟨bq,oq,none⟩) g.length cq] 44)) (.cells #[.slice (some ⟨b,o,none⟩) g.length c] 35)) ⟨w.heap.size+1,0,none⟩=some (.slice (some ⟨b,o,none⟩) g.length c):=by simp[go_sem]
 have Qlg:=lh qlg;clear qlg;clear hn hqk hl hx hv hr hq h hG hI hf hs hrl h0 hkc hcv hvl hql hrg hcq hq2;go_enter Tryz.func130,Tryz.ntmps130;go_wp2_with fail
 refine(HCL.out _ (H.out.ext E0.out)).mono ?_;rintro e w1 ⟨rfl,he1⟩;rw[HZ.out];have U1:=lh ((Aa.rfl' (World.alloc (World.alloc w (.cells #[.slice (some ⟨bv,ov,none⟩) g.length cv,.slice (some ⟨br,oR,none⟩) r.length cr,.slice (some ⟨bq,oq,none⟩) g.length cq] 44)) (.cells #[.slice (some ⟨b,o,none⟩) g.length c] 35))).tr he1);have E1:=lh (E0.out.tr U1.out);have lv_1:=U1.out.cellE Qlv.out;have lr_1:=U1.out.cellE Qlr.out;have lq_1:=U1.out.cellE Qlq.out;have lg_1:=U1.out.cellE Qlg.out;have cq_1:=U1.out.cellE (E0.out.cellE Hcq.out);clear he1 ;have blv_1:=AA lv_1;have blr_1:=AA lr_1;have blq_1:=AA lq_1;have blg_1:=AA lg_1;have bcq_1:=AA cq_1;go_wp2_with fail
 refine(HR.out _ (H.out.ext E1.out) (Hv.out.ext E1.out) (Hl.out.ext E1.out)).mono ?_;rintro e w2 ⟨rfl,he2⟩;have U2:=lh ((Aa.rfl' w1).tr he2);have E2:=lh (E1.out.tr U2.out);have lv_2:=U2.out.cellE lv_1;have lr_2:=U2.out.cellE lr_1;have lq_2:=U2.out.cellE lq_1;have lg_2:=U2.out.cellE lg_1;have cq_2:=U2.out.cellE cq_1;clear he2 lv_1 lr_1 lq_1 lg_1 cq_1 blv_1 blr_1 blq_1 blg_1 bcq_1;have blv_2:=AA lv_2;have blr_2:=AA lr_2;have blq_2:=AA lq_2;have blg_2:=AA lg_2;have bcq_2:=AA cq_2;go_wp2;go_ret;exact⟨Aj (by rw[HS.out]),E2.out⟩
set_option maxRecDepth 100000 in
set_option maxHeartbeats 4000000 in
theorem Vz (A Av Ar Aq:Option Addr)(c cv cr cq:Nat)(g:Sg.Ae)(v q:List Int)(r:List (List Int))(k:Nat)(w:World)(h:Eg w A g)(hv:Rd w 1 Av g.length (Ah v))(hr:Ex w Ar r)(hq:Rd w 1 Aq g.length (Ah q))(hrg:r.length=g.length)(hk:k<g.length)(hG:Sg.AG g=true)(hI:Sg.Bq v){nk qk:Int}{nf:List Sg.At}(hn:g[k]? = some ⟨nk,nf⟩)(hqk:q[k]? = some qk)(h0:nk≠0)(hq2:qk=0) :
  Calls Tryz.prog 130 #[.agg #[.slice Av g.length cv,.slice Ar r.length cr,.slice Aq g.length cq],.agg #[.slice A g.length c],.int .i64 k] w fun e w'=>e= .returned (.bool (Sg.Df g ⟨v,r,q⟩ k))/\Aa w w':=by
 have hgl:=h.1;have hg10:=Nc hG;have hvl:v.length=g.length:=hv.len;have hql:q.length=g.length:=hq.len;obtain⟨n',b,o,Ap,cp,hn',rfl,hkc,hs,hf,hfl⟩:=h.at_ hk;rw[hn] at hn';injection hn' with hn';subst hn';dsimp only at hkc hs hf hfl;obtain⟨bq,oq,qk',rfl,hqk',hcq⟩:=hq.at1 hk;rw[hqk] at hqk';injection hqk' with hqk';subst hqk';obtain⟨l,br,oR,Al,cl,hl,rfl,hcl,hrl,hl1,hlc,hcm⟩:=hr.at_ (show k<r.length by omega);obtain⟨bv,ov,x,rfl,hx,hcv⟩:=hv.at1 hk;have hkr:k<r.length:=by omega
 have HCL:=lh (fun w h=>Jt (some ⟨b,o,none⟩) c g k ⟨nk,nf⟩ w h hn);have HS:=lh (QO hn hl hqk hx h0 hq2);have bl1:=AA hcl;have bl2:=AA hcq;have bl3:=AA hkc;have HZ:=lh (show decide (nk=0)=false by simp[h0]);have Hcq:=lh hcq;have z2:(qk == 2)=false:=by simp[hq2]
 have z1:(qk == 1)=false:=by simp[hq2]
 have z0:(qk == 0)=true:=by simp[hq2]
 have H:=lh h;have Hv:=lh hv;have Hr:=lh hr;have Hq:=lh hq;have Hl:=lh hrl;have Hf:=lh hf;have Hs:=lh hs
 have HR:=lh (show ∀ (w:World),Eg w (some ⟨b,o,none⟩) g->Rd w 1 (some ⟨bv,ov,none⟩) g.length (Ah v)->Rd w 1 Al l.length (Ah l)->Calls Tryz.prog 164 #[.agg #[.slice (some ⟨b,o,none⟩) g.length c],.int .i64 k,.slice (some ⟨bv,ov,none⟩) g.length cv,.slice Al l.length cl] w fun e w'=>e= .returned (.bool (decide ((Sg.AJ nf v).1=x) && decide ((Sg.AJ nf v).2=l)))/\Aa w w' from fun w h1 h2 h3=>by
  have:=Te (some ⟨b,o,none⟩) (some ⟨bv,ov,none⟩) Al c cv cl g v l k ⟨nk,nf⟩ x w h1 (by rw[hvl];exact h2) h3 hn hx (Sg.Bo hG k hn h0) hI;rw[hvl] at this;exact this)
 have E0:=lh ((((Aa.rfl' w).al (.cells #[.slice (some ⟨bv,ov,none⟩) g.length cv,.slice (some ⟨br,oR,none⟩) r.length cr,.slice (some ⟨bq,oq,none⟩) g.length cq] 44)).al (.cells #[.slice (some ⟨b,o,none⟩) g.length c] 35)):Aa w (World.alloc (World.alloc w (.cells #[.slice (some ⟨bv,ov,none⟩) g.length cv,.slice (some ⟨br,oR,none⟩) r.length cr,.slice (some ⟨bq,oq,none⟩) g.length cq] 44)) (.cells #[.slice (some ⟨b,o,none⟩) g.length c] 35)));have qlv:World.cell? (World.alloc (World.alloc w (.cells #[.slice (some ⟨bv,ov,none⟩) g.length cv,.slice (some ⟨br,oR,none⟩) r.length cr,.slice (some ⟨bq,oq,none⟩) g.length cq] 44)) (.cells #[.slice (some ⟨b,o,none⟩) g.length c] 35)) ⟨w.heap.size,0,none⟩=some (.slice (some ⟨bv,ov,none⟩) g.length cv):=by simp[go_sem]
 have Qlv:=lh qlv;clear qlv;have qlr:World.cell? (World.alloc (World.alloc w (.cells #[.slice (some ⟨bv,ov,none⟩) g.length cv,.slice (some ⟨br,oR,none⟩) r.length cr,.slice (some ⟨bq,oq,none⟩) g.length cq] 44)) (.cells #[.slice (some ⟨b,o,none⟩) g.length c] 35)) ⟨w.heap.size,1,none⟩=some (.slice (some ⟨br,oR,none⟩) r.length cr):=by simp[go_sem]
 have Qlr:=lh qlr;clear qlr;have qlq:World.cell? (World.alloc (World.alloc w (.cells #[.slice (some ⟨bv,ov,none⟩) g.length cv,.slice (some ⟨br,oR,none⟩) r.length cr,.slice (some ⟨bq,oq,none⟩) g.length cq] 44)) (.cells #[.slice (some ⟨b,o,none⟩) g.length c] 35)) ⟨w.heap.size,2,none⟩=some (.slice (some ⟨bq,oq,none⟩) g.length cq):=by simp[go_sem]
 have Qlq:=lh qlq;clear qlq;have qlg:World.cell? (World.alloc (World.alloc w (.cells #[.slice (some ⟨bv,ov,none⟩) g.length cv,.slice (some ⟨br,oR,none⟩) r.length cr,.slice (some ⟨bq,oq,none⟩) g.length cq] 44)) (.cells #[.slice (some ⟨b,o,none⟩) g.length c] 35)) ⟨w.heap.size+1,0,none⟩=some (.slice (some ⟨b,o,none⟩) g.length c):=by simp[go_sem]
 have Qlg:=lh qlg;clear qlg
 have HDM:=lh (show (Sg.AJ nf v).2=l->∀ x ∈ l,0<=x/\x<(g.length:Int) from fun e x hx=>by
  have:=Sg.GB hG (v:=v) hk (x:=x) (by rw[IY hn h0];dsimp only;rw[e];exact hx);omega)
 clear hn hqk hl hx hv hr hq h hG hI hf hs hrl h0 hkc hcv hvl hql hrg hcq hq2;cases hR:(decide ((Sg.AJ nf v).1=x) && decide ((Sg.AJ nf v).2=l))
 ·have HRR:=lh hR;clear hR;go_enter Tryz.func130,Tryz.ntmps130;go_wp2_with fail
  refine(HCL.out _ (H.out.ext E0.out)).mono ?_;rintro e w1 ⟨rfl,he1⟩;rw[HZ.out];have U1:=lh ((Aa.rfl' (World.alloc (World.alloc w (.cells #[.slice (some ⟨bv,ov,none⟩) g.length cv,.slice (some ⟨br,oR,none⟩) r.length cr,.slice (some ⟨bq,oq,none⟩) g.length cq] 44)) (.cells #[.slice (some ⟨b,o,none⟩) g.length c] 35))).tr he1);have E1:=lh (E0.out.tr U1.out);have lv_1:=U1.out.cellE Qlv.out;have lr_1:=U1.out.cellE Qlr.out;have lq_1:=U1.out.cellE Qlq.out;have lg_1:=U1.out.cellE Qlg.out;have cq_1:=U1.out.cellE (E0.out.cellE Hcq.out);clear he1 ;have blv_1:=AA lv_1;have blr_1:=AA lr_1;have blq_1:=AA lq_1;have blg_1:=AA lg_1;have bcq_1:=AA cq_1;go_wp2_with fail
  refine(HR.out _ (H.out.ext E1.out) (Hv.out.ext E1.out) (Hl.out.ext E1.out)).mono ?_;rintro e w2 ⟨rfl,he2⟩;rw[HRR.out];have U2:=lh ((Aa.rfl' w1).tr he2);have E2:=lh (E1.out.tr U2.out);have lv_2:=U2.out.cellE lv_1;have lr_2:=U2.out.cellE lr_1;have lq_2:=U2.out.cellE lq_1;have lg_2:=U2.out.cellE lg_1;have cq_2:=U2.out.cellE cq_1;clear he2 lv_1 lr_1 lq_1 lg_1 cq_1 blv_1 blr_1 blq_1 blg_1 bcq_1;have blv_2:=AA lv_2;have blr_2:=AA lr_2;have blq_2:=AA lq_2;have blg_2:=AA lg_2;have bcq_2:=AA cq_2;go_wp2;go_ret;exact⟨Aj (by rw[HS.out,HRR.out];rfl),E2.out⟩
 ·have HRR:=lh hR;have HD2:=lh (HDM.out (by simp only[Bool.and_eq_true,decide_eq_true_eq] at hR;exact hR.2));clear hR;go_enter Tryz.func130,Tryz.ntmps130;go_wp2_with fail
  refine(HCL.out _ (H.out.ext E0.out)).mono ?_;rintro e w1 ⟨rfl,he1⟩;rw[HZ.out];have U1:=lh ((Aa.rfl' (World.alloc (World.alloc w (.cells #[.slice (some ⟨bv,ov,none⟩) g.length cv,.slice (some ⟨br,oR,none⟩) r.length cr,.slice (some ⟨bq,oq,none⟩) g.length cq] 44)) (.cells #[.slice (some ⟨b,o,none⟩) g.length c] 35))).tr he1);have E1:=lh (E0.out.tr U1.out);have lv_1:=U1.out.cellE Qlv.out;have lr_1:=U1.out.cellE Qlr.out;have lq_1:=U1.out.cellE Qlq.out;have lg_1:=U1.out.cellE Qlg.out;have cq_1:=U1.out.cellE (E0.out.cellE Hcq.out);clear he1 ;have blv_1:=AA lv_1;have blr_1:=AA lr_1;have blq_1:=AA lq_1;have blg_1:=AA lg_1;have bcq_1:=AA cq_1;go_wp2_with fail
  refine(HR.out _ (H.out.ext E1.out) (Hv.out.ext E1.out) (Hl.out.ext E1.out)).mono ?_;rintro e w2 ⟨rfl,he2⟩;rw[HRR.out];have U2:=lh ((Aa.rfl' w1).tr he2);have E2:=lh (E1.out.tr U2.out);have lv_2:=U2.out.cellE lv_1;have lr_2:=U2.out.cellE lr_1;have lq_2:=U2.out.cellE lq_1;have lg_2:=U2.out.cellE lg_1;have cq_2:=U2.out.cellE cq_1;clear he2 lv_1 lr_1 lq_1 lg_1 cq_1 blv_1 blr_1 blq_1 blg_1 bcq_1;have blv_2:=AA lv_2;have blr_2:=AA lr_2;have blq_2:=AA lq_2;have blg_2:=AA lg_2;have bcq_2:=AA cq_2;go_wp2_with fail
  refine(Ha (Nb w.heap.size (some ⟨bq,oq,none⟩) cq g.length q) Al l.length cl l _ (Hl.out.ext E2.out) ⟨lq_2,Hq.out.ext E2.out⟩ HD2.out).mono ?_;rintro e w3 ⟨rfl,he3⟩;have U3:=lh ((Aa.rfl' w2).tr he3);have E3:=lh (E2.out.tr U3.out);have lv_3:=U3.out.cellE lv_2;have lr_3:=U3.out.cellE lr_2;have lq_3:=U3.out.cellE lq_2;have lg_3:=U3.out.cellE lg_2;have cq_3:=U3.out.cellE cq_2;clear he3 lv_2 lr_2 lq_2 lg_2 cq_2 blv_2 blr_2 blq_2 blg_2 bcq_2;have blv_3:=AA lv_3;have blr_3:=AA lr_3;have blq_3:=AA lq_3;have blg_3:=AA lg_3;have bcq_3:=AA cq_3;go_wp2;go_ret;exact⟨Aj (by rw[HS.out,HRR.out,Bool.true_and];exact SA q l),E3.out⟩
set_option maxRecDepth 100000 in
set_option maxHeartbeats 4000000 in
theorem VA (A Av Ar Aq:Option Addr)(c cv cr cq:Nat)(g:Sg.Ae)(v q:List Int)(r:List (List Int))(k:Nat)(w:World)(h:Eg w A g)(hv:Rd w 1 Av g.length (Ah v))(hr:Ex w Ar r)(hq:Rd w 1 Aq g.length (Ah q))(hrg:r.length=g.length)(hk:k<g.length)(hG:Sg.AG g=true)(_hI:Sg.Bq v){nk qk:Int}{nf:List Sg.At}(hn:g[k]? = some ⟨nk,nf⟩)(hqk:q[k]? = some qk)(h0:nk≠0)(hq2:qk=2) :
  Calls Tryz.prog 130 #[.agg #[.slice Av g.length cv,.slice Ar r.length cr,.slice Aq g.length cq],.agg #[.slice A g.length c],.int .i64 k] w fun e w'=>e= .returned (.bool (Sg.Df g ⟨v,r,q⟩ k))/\Aa w w':=by
 have hgl:=h.1;have hg10:=Nc hG;have hvl:v.length=g.length:=hv.len;have hql:q.length=g.length:=hq.len;obtain⟨n',b,o,Ap,cp,hn',rfl,hkc,hs,hf,hfl⟩:=h.at_ hk;rw[hn] at hn';injection hn' with hn';subst hn';dsimp only at hkc hs hf hfl;obtain⟨bq,oq,qk',rfl,hqk',hcq⟩:=hq.at1 hk;rw[hqk] at hqk';injection hqk' with hqk';subst hqk';obtain⟨l,br,oR,Al,cl,hl,rfl,hcl,hrl,hl1,hlc,hcm⟩:=hr.at_ (show k<r.length by omega);obtain⟨bv,ov,x,rfl,hx,hcv⟩:=hv.at1 hk;have hkr:k<r.length:=by omega
 have HCL:=lh (fun w h=>Jt (some ⟨b,o,none⟩) c g k ⟨nk,nf⟩ w h hn);have HS:=lh (QM (v:=v) hn hl hqk h0 hq2);have bl1:=AA hcl;have bl2:=AA hcq;have bl3:=AA hkc;have HZ:=lh (show decide (nk=0)=false by simp[h0]);have Hcq:=lh hcq;have z2:(qk == 2)=true:=by simp[hq2]
 have z1:(qk == 1)=false:=by simp[hq2]
 have z0:(qk == 0)=false:=by simp[hq2]
 have HM:=lh (fun w h=>Oh Ap cp nf w h hfl (fun p hp h1=>by have:=(Sg.Bo hG k hn h0).read0 p hp h1;omega));have H:=lh h;have Hv:=lh hv;have Hr:=lh hr;have Hq:=lh hq;have Hl:=lh hrl;have Hf:=lh hf;have Hs:=lh hs;have E0:=lh ((((Aa.rfl' w).al (.cells #[.slice (some ⟨bv,ov,none⟩) g.length cv,.slice (some ⟨br,oR,none⟩) r.length cr,.slice (some ⟨bq,oq,none⟩) g.length cq] 44)).al (.cells #[.slice (some ⟨b,o,none⟩) g.length c] 35)):Aa w (World.alloc (World.alloc w (.cells #[.slice (some ⟨bv,ov,none⟩) g.length cv,.slice (some ⟨br,oR,none⟩) r.length cr,.slice (some ⟨bq,oq,none⟩) g.length cq] 44)) (.cells #[.slice (some ⟨b,o,none⟩) g.length c] 35)));have qlv:World.cell? (World.alloc (World.alloc w (.cells #[.slice (some ⟨bv,ov,none⟩) g.length cv,.slice (some ⟨br,oR,none⟩) r.length cr,.slice (some ⟨bq,oq,none⟩) g.length cq] 44)) (.cells #[.slice (some ⟨b,o,none⟩) g.length c] 35)) ⟨w.heap.size,0,none⟩=some (.slice (some ⟨bv,ov,none⟩) g.length cv):=by simp[go_sem]
 have Qlv:=lh qlv;clear qlv;have qlr:World.cell? (World.alloc (World.alloc w (.cells #[.slice (some ⟨bv,ov,none⟩) g.length cv,.slice (some ⟨br,oR,none⟩) r.length cr,.slice (some ⟨bq,oq,none⟩) g.length cq] 44)) (.cells #[.slice (some ⟨b,o,none⟩) g.length c] 35)) ⟨w.heap.size,1,none⟩=some (.slice (some ⟨br,oR,none⟩) r.length cr):=by simp[go_sem]
 have Qlr:=lh qlr;clear qlr;have qlq:World.cell? (World.alloc (World.alloc w (.cells #[.slice (some ⟨bv,ov,none⟩) g.length cv,.slice (some ⟨br,oR,none⟩) r.length cr,.slice (some ⟨bq,oq,none⟩) g.length cq] 44)) (.cells #[.slice (some ⟨b,o,none⟩) g.length c] 35)) ⟨w.heap.size,2,none⟩=some (.slice (some ⟨bq,oq,none⟩) g.length cq):=by simp[go_sem]
 have Qlq:=lh qlq;clear qlq;have qlg:World.cell? (World.alloc (World.alloc w (.cells #[.slice (some ⟨bv,ov,none⟩) g.length cv,.slice (some ⟨br,oR,none⟩) r.length cr,.slice (some ⟨bq,oq,none⟩) g.length cq] 44)) (.cells #[.slice (some ⟨b,o,none⟩) g.length c] 35)) ⟨w.heap.size+1,0,none⟩=some (.slice (some ⟨b,o,none⟩) g.length c):=by simp[go_sem]
 have Qlg:=lh qlg;clear qlg;clear hn hqk hl hx hv hr hq h hG _hI hf hs hrl h0 hkc hcv hvl hql hrg hcq hq2 hfl;rw[XV] at HS;generalize Sg.AX nf=M at *;go_enter Tryz.func130,Tryz.ntmps130;go_wp2_with fail
 refine(HCL.out _ (H.out.ext E0.out)).mono ?_;rintro e w1 ⟨rfl,he1⟩;rw[HZ.out];have U1:=lh ((Aa.rfl' (World.alloc (World.alloc w (.cells #[.slice (some ⟨bv,ov,none⟩) g.length cv,.slice (some ⟨br,oR,none⟩) r.length cr,.slice (some ⟨bq,oq,none⟩) g.length cq] 44)) (.cells #[.slice (some ⟨b,o,none⟩) g.length c] 35))).tr he1);have E1:=lh (E0.out.tr U1.out);have lv_1:=U1.out.cellE Qlv.out;have lr_1:=U1.out.cellE Qlr.out;have lq_1:=U1.out.cellE Qlq.out;have lg_1:=U1.out.cellE Qlg.out;have cq_1:=U1.out.cellE (E0.out.cellE Hcq.out);have fs_1:=U1.out.cellE (E0.out.cellE Hs.out);clear he1 ;have blv_1:=AA lv_1;have blr_1:=AA lr_1;have blq_1:=AA lq_1;have blg_1:=AA lg_1;have bcq_1:=AA cq_1;have bfs_1:=AA fs_1;go_wp2_with fail
 refine(HM.out _ (Hf.out.ext E1.out)).mono ?_;rintro e w2 ⟨Am,cm,rfl,hom,he2⟩;have Hom:=lh hom.rd;clear hom;have U2:=lh ((Aa.rfl' w1).tr he2);have E2:=lh (E1.out.tr U2.out);clear he2 lv_1 lr_1 lq_1 lg_1 cq_1 fs_1 blv_1 blr_1 blq_1 blg_1 bcq_1 bfs_1;go_wp2;go_loopw [47] (fun i wr=>∃ j:Nat,j<=l.length/\i= .int .i64 j/\Aa w2 wr/\DQ l M j=true) (fun i _=>l.length - (intOf i).toNat)
 case atStart=>exact⟨0,Nat.zero_le _,rfl,Aa.rfl' _,rfl⟩
 case round =>
  obtain⟨j,hj,rfl,he,hdq⟩:=hrel;have Hdq:=lh hdq;have EE:=lh (E2.out.tr he);have HE:=lh he;clear hdq he;by_cases hlt:j<l.length
  ·obtain⟨ba,oa,y,rfl,hy,hcy⟩:=(Hl.out.ext EE.out).at1 hlt;have HT:=lh ((Hl.out.ext EE.out).take j (by omega));have HN:=lh (WG l M j hy);have HB:=lh (XU l M j hlt);have by1:=AA hcy;have hjc:j<=cl:=by omega
   clear hy;cases hm:decide (y ∈ M)
   ·have Hm:=lh hm;clear hm;go_wp2_with fail
    refine(Ez Am M.length cm M y _ (Hom.out.ext HE.out)).mono ?_;rintro e wa ⟨rfl,hea⟩;rw[Hm.out];go_wp2;go_ret;exact⟨Aj (by rw[HS.out,HB.out (by rw[HN.out,Hm.out];simp)]),(EE.out.tr hea)⟩
   ·cases hm2:decide (y ∈ l.take j)
    ·have Hm:=lh hm;have Hm2:=lh hm2;clear hm hm2;go_wp2_with fail
     refine(Ez Am M.length cm M y _ (Hom.out.ext HE.out)).mono ?_;rintro e wa ⟨rfl,hea⟩;rw[Hm.out];go_wp2_with fail
     refine(Ez (some ⟨ba,oa,none⟩) j cl (l.take j) y _ (HT.out.ext hea)).mono ?_;rintro e wb ⟨rfl,heb⟩;rw[Hm2.out];go_wp2;go_roundw
     case rel=>exact⟨j+1,by omega,by go_num,(HE.out.tr hea).tr heb,by rw[HN.out,Hdq.out,Hm.out,decide_not,Hm2.out];rfl⟩
     case measure=>simp[intOf];omega
    ·have Hm:=lh hm;have Hm2:=lh hm2;clear hm hm2;go_wp2_with fail
     refine(Ez Am M.length cm M y _ (Hom.out.ext HE.out)).mono ?_;rintro e wa ⟨rfl,hea⟩;rw[Hm.out];go_wp2_with fail
     refine(Ez (some ⟨ba,oa,none⟩) j cl (l.take j) y _ (HT.out.ext hea)).mono ?_;rintro e wb ⟨rfl,heb⟩;rw[Hm2.out];go_wp2;go_ret;exact⟨Aj (by rw[HS.out,HB.out (by rw[HN.out,Hm.out,decide_not,Hm2.out];simp)]),((EE.out.tr hea).tr heb)⟩
  ·obtain rfl:j=l.length:=by omega
   go_wp2;go_ret;exact⟨Aj (by rw[HS.out,Hdq.out]),EE.out⟩
theorem QP (A Av Ar Aq:Option Addr)(c cv cr cq:Nat)(g:Sg.Ae)(v q:List Int)(r:List (List Int))(k:Nat)(w:World)(h:Eg w A g)(hv:Rd w 1 Av g.length (Ah v))(hr:Ex w Ar r)(hq:Rd w 1 Aq g.length (Ah q))(hrg:r.length=g.length)(hk:k<g.length)(hG:Sg.AG g=true)(hI:Sg.Bq v) :
  Calls Tryz.prog 130 #[.agg #[.slice Av g.length cv,.slice Ar r.length cr,.slice Aq g.length cq],.agg #[.slice A g.length c],.int .i64 k] w fun e w'=>e= .returned (.bool (Sg.Df g ⟨v,r,q⟩ k))/\Aa w w':=by
 have hql:q.length=g.length:=hq.len;obtain⟨⟨nk,nf⟩,hn⟩:∃ n,g[k]? = some n:=⟨_,gg hk⟩;obtain⟨qk,hqk⟩:∃ x,q[k]? = some x:=⟨_,gg (by omega)⟩;by_cases h0:nk=0
 ·exact WH A Av Ar Aq c cv cr cq g v q r k w h hv hr hq hrg hk hG hI hn hqk h0
 ·by_cases h2:qk=2
  ·exact VA A Av Ar Aq c cv cr cq g v q r k w h hv hr hq hrg hk hG hI hn hqk h0 h2
  ·by_cases h1:qk=1
   ·exact Vy A Av Ar Aq c cv cr cq g v q r k w h hv hr hq hrg hk hG hI hn hqk h0 h1
   ·by_cases h3:qk=0
    ·exact Vz A Av Ar Aq c cv cr cq g v q r k w h hv hr hq hrg hk hG hI hn hqk h0 h3
    ·exact XX A Av Ar Aq c cv cr cq g v q r k w h hv hr hq hrg hk hG hI hn hqk h0 h2 h1 h3
def CV (g:Sg.Ae)(st:Sg.BC)(k:Nat):Bool:=(List.range k).all (Sg.Df g st)
theorem WI (g:Sg.Ae)(st:Sg.BC)(k:Nat):CV g st (k+1)=(CV g st k && Sg.Df g st k):=by unfold CV;rw[List.range_succ,List.all_append];simp
theorem XY (g:Sg.Ae)(st:Sg.BC)(k:Nat)(hk:k<g.length)(h:Sg.Df g st k=false):Sg.AM g st=false:=by
 unfold Sg.AM
 have:(List.range g.length).all (Sg.Df g st)=false:=by
  rw[List.all_eq_false];exact⟨k,List.mem_range.2 hk,by rw[h];simp⟩
 rw[this,Bool.and_false]
theorem zm0{p:Prop}(h:p:=by
 refine(HSZ.out _).mono ?_;rintro e w1 ⟨rfl,he1⟩;have U1:=lh ((Aa.rfl' (World.alloc (World.alloc w (.cells #[.slice A g.length c] 35)) (.cells #[.slice Av v.length cv,.slice Ar r.length cr,.slice Aq q.length cq] 44))).tr he1);have E1:=lh (E0.out.tr U1.out);have lg_1:=U1.out.cellE Qlg.out;have lv_1:=U1.out.cellE Qlv.out;have lr_1:=U1.out.cellE Qlr.out;have lq_1:=U1.out.cellE Qlq.out;clear he1 ;have blg_1:=AA lg_1;have blv_1:=AA lv_1;have blr_1:=AA lr_1;have blq_1:=AA lq_1;go_wp2_with fail
 refine(HVG.out _ (H.out.ext E1.out)).mono ?_;rintro e w2 ⟨rfl,he2⟩;rw[HG.out];have U2:=lh ((Aa.rfl' w1).tr he2);have E2:=lh (E1.out.tr U2.out);have lg_2:=U2.out.cellE lg_1;have lv_2:=U2.out.cellE lv_1;have lr_2:=U2.out.cellE lr_1;have lq_2:=U2.out.cellE lq_1;clear he2 lg_1 lv_1 lr_1 lq_1 blg_1 blv_1 blr_1 blq_1;have blg_2:=AA lg_2;have blv_2:=AA lv_2;have blr_2:=AA lr_2;have blq_2:=AA lq_2;go_wp2;go_ret;exact⟨Aj (by unfold Sg.AM Sg.Dq;simp[Hb.out]),E2.out⟩):p:=h
set_option maxRecDepth 100000 in
set_option maxHeartbeats 4000000 in
theorem Lw (A Av Ar Aq:Option Addr)(c cv cr cq:Nat)(g:Sg.Ae)(v q:List Int)(r:List (List Int))(w:World)(h:Eg w A g)(hv:Rd w 1 Av v.length (Ah v))(hr:Ex w Ar r)(hq:Rd w 1 Aq q.length (Ah q))(_hvl:v.length<=1048576)(_hql:q.length<=1048576) :
  Calls Tryz.prog 92 #[.agg #[.slice A g.length c],.agg #[.slice Av v.length cv,.slice Ar r.length cr,.slice Aq q.length cq]] w fun e w'=>e= .returned (.bool (Sg.AM g ⟨v,r,q⟩))/\Aa w w':=by
 have hgl:=h.1;have hrl:=hr.1;have HSZ:=lh (Ef A g.length c);have HVG:=lh (Kw A c g);have HAI:=lh (Uc Av v.length cv v);have H:=lh h;have Hv:=lh hv;have Hr:=lh hr;have Hq:=lh hq;clear h hv hr hq;have E0:=lh ((((Aa.rfl' w).al (.cells #[.slice A g.length c] 35)).al (.cells #[.slice Av v.length cv,.slice Ar r.length cr,.slice Aq q.length cq] 44)):Aa w (World.alloc (World.alloc w (.cells #[.slice A g.length c] 35)) (.cells #[.slice Av v.length cv,.slice Ar r.length cr,.slice Aq q.length cq] 44)));have qlg:World.cell? (World.alloc (World.alloc w (.cells #[.slice A g.length c] 35)) (.cells #[.slice Av v.length cv,.slice Ar r.length cr,.slice Aq q.length cq] 44)) ⟨w.heap.size,0,none⟩=some (.slice A g.length c):=by simp[go_sem]
 have Qlg:=lh qlg;clear qlg;have qlv:World.cell? (World.alloc (World.alloc w (.cells #[.slice A g.length c] 35)) (.cells #[.slice Av v.length cv,.slice Ar r.length cr,.slice Aq q.length cq] 44)) ⟨w.heap.size+1,0,none⟩=some (.slice Av v.length cv):=by simp[go_sem]
 have Qlv:=lh qlv;clear qlv;have qlr:World.cell? (World.alloc (World.alloc w (.cells #[.slice A g.length c] 35)) (.cells #[.slice Av v.length cv,.slice Ar r.length cr,.slice Aq q.length cq] 44)) ⟨w.heap.size+1,1,none⟩=some (.slice Ar r.length cr):=by simp[go_sem]
 have Qlr:=lh qlr;clear qlr;have qlq:World.cell? (World.alloc (World.alloc w (.cells #[.slice A g.length c] 35)) (.cells #[.slice Av v.length cv,.slice Ar r.length cr,.slice Aq q.length cq] 44)) ⟨w.heap.size+1,2,none⟩=some (.slice Aq q.length cq):=by simp[go_sem]
 have Qlq:=lh qlq;clear qlq;cases hG:Sg.AG g
 ·have HG:=lh hG;clear hG;go_enter Tryz.func92,Tryz.ntmps92;go_wp2_with fail
  refine(HSZ.out _).mono ?_;rintro e w1 ⟨rfl,he1⟩;have U1:=lh ((Aa.rfl' (World.alloc (World.alloc w (.cells #[.slice A g.length c] 35)) (.cells #[.slice Av v.length cv,.slice Ar r.length cr,.slice Aq q.length cq] 44))).tr he1);have E1:=lh (E0.out.tr U1.out);have lg_1:=U1.out.cellE Qlg.out;have lv_1:=U1.out.cellE Qlv.out;have lr_1:=U1.out.cellE Qlr.out;have lq_1:=U1.out.cellE Qlq.out;clear he1 ;have blg_1:=AA lg_1;have blv_1:=AA lv_1;have blr_1:=AA lr_1;have blq_1:=AA lq_1;go_wp2_with fail
  refine(HVG.out _ (H.out.ext E1.out)).mono ?_;rintro e w2 ⟨rfl,he2⟩;rw[HG.out];have U2:=lh ((Aa.rfl' w1).tr he2);have E2:=lh (E1.out.tr U2.out);have lg_2:=U2.out.cellE lg_1;have lv_2:=U2.out.cellE lv_1;have lr_2:=U2.out.cellE lr_1;have lq_2:=U2.out.cellE lq_1;clear he2 lg_1 lv_1 lr_1 lq_1 blg_1 blv_1 blr_1 blq_1;have blg_2:=AA lg_2;have blv_2:=AA lv_2;have blr_2:=AA lr_2;have blq_2:=AA lq_2;go_wp2;go_ret;exact⟨Aj (by unfold Sg.AM Sg.Dq;rw[HG.out];rfl),E2.out⟩
 have HG:=lh hG;clear hG;by_cases hvg:v.length=g.length
 case neg =>
  have b2:((v.length:Int) != (g.length:Int))=true:=by simp;omega
  have Hb:=lh hvg;clear hvg;go_enter Tryz.func92,Tryz.ntmps92;go_wp2_with fail
  exact zm0
 have b2:((v.length:Int) != (g.length:Int))=false:=by simp;omega
 have Hvg:=lh hvg;clear hvg;by_cases hrg:r.length=g.length
 case neg =>
  have b3:((r.length:Int) != (g.length:Int))=true:=by simp;omega
  have Hb:=lh hrg;clear hrg;go_enter Tryz.func92,Tryz.ntmps92;go_wp2_with fail
  exact zm0
 have b3:((r.length:Int) != (g.length:Int))=false:=by simp;omega
 have Hrg:=lh hrg;clear hrg;by_cases hqg:q.length=g.length
 case neg =>
  have b4:((q.length:Int) != (g.length:Int))=true:=by simp;omega
  have Hb:=lh hqg;clear hqg;go_enter Tryz.func92,Tryz.ntmps92;go_wp2_with fail
  exact zm0
 have b4:((q.length:Int) != (g.length:Int))=false:=by simp;omega
 have Hqg:=lh hqg;clear hqg;cases hI:(v.all fun x=>Sg.Cb x 0 999)
 ·have HI:=lh hI;clear hI;go_enter Tryz.func92,Tryz.ntmps92;go_wp2_with fail
  refine(HSZ.out _).mono ?_;rintro e w1 ⟨rfl,he1⟩;have U1:=lh ((Aa.rfl' (World.alloc (World.alloc w (.cells #[.slice A g.length c] 35)) (.cells #[.slice Av v.length cv,.slice Ar r.length cr,.slice Aq q.length cq] 44))).tr he1);have E1:=lh (E0.out.tr U1.out);have lg_1:=U1.out.cellE Qlg.out;have lv_1:=U1.out.cellE Qlv.out;have lr_1:=U1.out.cellE Qlr.out;have lq_1:=U1.out.cellE Qlq.out;clear he1 ;have blg_1:=AA lg_1;have blv_1:=AA lv_1;have blr_1:=AA lr_1;have blq_1:=AA lq_1;go_wp2_with fail
  refine(HVG.out _ (H.out.ext E1.out)).mono ?_;rintro e w2 ⟨rfl,he2⟩;rw[HG.out];have U2:=lh ((Aa.rfl' w1).tr he2);have E2:=lh (E1.out.tr U2.out);have lg_2:=U2.out.cellE lg_1;have lv_2:=U2.out.cellE lv_1;have lr_2:=U2.out.cellE lr_1;have lq_2:=U2.out.cellE lq_1;clear he2 lg_1 lv_1 lr_1 lq_1 blg_1 blv_1 blr_1 blq_1;have blg_2:=AA lg_2;have blv_2:=AA lv_2;have blr_2:=AA lr_2;have blq_2:=AA lq_2;go_wp2_with fail
  refine(HAI.out _ (Hv.out.ext E2.out)).mono ?_;rintro e w3 ⟨rfl,he3⟩;rw[HI.out];have U3:=lh ((Aa.rfl' w2).tr he3);have E3:=lh (E2.out.tr U3.out);have lg_3:=U3.out.cellE lg_2;have lv_3:=U3.out.cellE lv_2;have lr_3:=U3.out.cellE lr_2;have lq_3:=U3.out.cellE lq_2;clear he3 lg_2 lv_2 lr_2 lq_2 blg_2 blv_2 blr_2 blq_2;have blg_3:=AA lg_3;have blv_3:=AA lv_3;have blr_3:=AA lr_3;have blq_3:=AA lq_3;go_wp2;go_ret;exact⟨Aj (by unfold Sg.AM Sg.Dq;unfold Sg.C8;rw[HI.out];simp),E3.out⟩
 have HI:=lh hI;clear hI;have HC:=lh (fun (k:Nat) (w:World) (hk:k<g.length) (h:Eg w A g) (hv0:Rd w 1 Av g.length (Ah v)) (hr:Ex w Ar r) (hq0:Rd w 1 Aq g.length (Ah q))=>QP A Av Ar Aq c cv cr cq g v q r k w h hv0 hr hq0 Hrg.out hk HG.out (Sg.Cc HI.out));go_enter Tryz.func92,Tryz.ntmps92;go_wp2_with fail
 refine(HSZ.out _).mono ?_;rintro e w1 ⟨rfl,he1⟩;have U1:=lh ((Aa.rfl' (World.alloc (World.alloc w (.cells #[.slice A g.length c] 35)) (.cells #[.slice Av v.length cv,.slice Ar r.length cr,.slice Aq q.length cq] 44))).tr he1);have E1:=lh (E0.out.tr U1.out);have lg_1:=U1.out.cellE Qlg.out;have lv_1:=U1.out.cellE Qlv.out;have lr_1:=U1.out.cellE Qlr.out;have lq_1:=U1.out.cellE Qlq.out;clear he1 ;have blg_1:=AA lg_1;have blv_1:=AA lv_1;have blr_1:=AA lr_1;have blq_1:=AA lq_1;go_wp2_with fail
 refine(HVG.out _ (H.out.ext E1.out)).mono ?_;rintro e w2 ⟨rfl,he2⟩;rw[HG.out];have U2:=lh ((Aa.rfl' w1).tr he2);have E2:=lh (E1.out.tr U2.out);have lg_2:=U2.out.cellE lg_1;have lv_2:=U2.out.cellE lv_1;have lr_2:=U2.out.cellE lr_1;have lq_2:=U2.out.cellE lq_1;clear he2 lg_1 lv_1 lr_1 lq_1 blg_1 blv_1 blr_1 blq_1;have blg_2:=AA lg_2;have blv_2:=AA lv_2;have blr_2:=AA lr_2;have blq_2:=AA lq_2;go_wp2_with fail
 refine(HAI.out _ (Hv.out.ext E2.out)).mono ?_;rintro e w3 ⟨rfl,he3⟩;rw[HI.out];have U3:=lh ((Aa.rfl' w2).tr he3);have E3:=lh (E2.out.tr U3.out);have lg_3:=U3.out.cellE lg_2;have lv_3:=U3.out.cellE lv_2;have lr_3:=U3.out.cellE lr_2;have lq_3:=U3.out.cellE lq_2;clear he3 lg_2 lv_2 lr_2 lq_2 blg_2 blv_2 blr_2 blq_2;have blg_3:=AA lg_3;have blv_3:=AA lv_3;have blr_3:=AA lr_3;have blq_3:=AA lq_3;go_wp2;go_loopw [42] (fun i wr=>∃ k:Nat,k<=g.length/\i= .int .i64 k/\Aa w3 wr/\CV g ⟨v,r,q⟩ k=true) (fun i _=>g.length - (intOf i).toNat)
 case atStart=>exact⟨0,Nat.zero_le _,rfl,Aa.rfl' _,rfl⟩
 case round =>
  obtain⟨k,hk,rfl,he,hra⟩:=hrel;have HR:=lh hra;have lg_r:=he.cellE lg_3;have lv_r:=he.cellE lv_3;have lr_r:=he.cellE lr_3;have lq_r:=he.cellE lq_3;have d1:=AA lg_r;have d2:=AA lv_r;have ee:=lh (E3.out.tr he);have HE:=lh he;clear hra he lg_3 lv_3 lr_3 lq_3;by_cases hlt:k<g.length
  ·have HCk:=HC.out k wr hlt (H.out.ext ee.out) (by have:=Hv.out.ext ee.out;rwa [Hvg.out] at this) (Hr.out.ext ee.out) (by have:=Hq.out.ext ee.out;rwa [Hqg.out] at this);have HCk:Calls Tryz.prog 130 #[.agg #[.slice Av v.length cv,.slice Ar r.length cr,.slice Aq q.length cq],.agg #[.slice A g.length c],.int .i64 k] wr fun e w'=>e= .returned (.bool (Sg.Df g ⟨v,r,q⟩ k))/\Aa wr w':=by rw[Hvg.out,Hqg.out];exact HCk
   have HCK:=lh HCk;clear HCk;cases hg:Sg.Df g ⟨v,r,q⟩ k
   ·have Hg:=lh hg;clear hg;go_wp2_with (go_at_call 130;refine HCK.out.mono ?_;rintro e w9 ⟨rfl,he9⟩;rw[Hg.out])
    go_ret;exact⟨Aj (by rw[XY g _ k hlt Hg.out]),ee.out.tr he9⟩
   ·have Hg:=lh hg;clear hg;go_wp2_with (go_at_call 130;refine HCK.out.mono ?_;rintro e w9 ⟨rfl,he9⟩;rw[Hg.out])
    go_roundw
    case rel=>exact⟨k+1,by omega,by go_num,HE.out.tr he9,by rw[WI,HR.out,Hg.out];rfl⟩
    case measure=>simp[intOf];omega
  ·obtain rfl:k=g.length:=by omega
   have hfin:Sg.AM g ⟨v,r,q⟩=true:=by
    unfold Sg.AM Sg.Dq Sg.C8;have:=HR.out;unfold CV at this;simp only[this,HG.out,HI.out,Hvg.out,Hrg.out,Hqg.out,decide_true,Bool.and_self]
   have Hfin:=lh hfin;clear hfin;go_wp2;go_ret;exact⟨Aj (by rw[Hfin.out]),ee.out⟩
end Go.Proofs.YthibllkleakiiaaGreatDoor
