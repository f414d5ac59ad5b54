/- Parts of one proof, joined. The reference's StaleOf and LazyCells: contracts. Conditions: bounds on lengths. -/
import Derived.Test.YthibllkleakiiaaGreatDoorSpecTO
import Derived.Test.YthibllkleakiiaaGreatDoorSepAll
namespace Go.Proofs.YthibllkleakiiaaGreatDoor
open Go.RowKit
def MS (a b:List Int)(k:Nat):List Int:=Sg.EY (a.take k) b
theorem Vp (a b:List Int)(k:Nat){x:Int}(h:a[k]? = some x):MS a b (k+1)=if x ∈ b then MS a b k else MS a b k++[x]:=by
 unfold MS Sg.EY;rw[CU a k h,List.filter_append];by_cases hx:x ∈ b
 ·rw[if_pos hx];simp[hx]
 ·rw[if_neg hx];simp[hx]
theorem Wq (a b:List Int)(k:Nat):(MS a b k).length<=k:=by
 unfold MS Sg.EY;have h1:=List.length_filter_le (fun x=>decide (x ∉ b)) (a.take k);have h2:(a.take k).length<=k:=by simp;omega
 omega
set_option maxHeartbeats 1000000 in
theorem Tb (A B:Option Addr)(ca cb nb:Nat)(a b:List Int)(w:World)(h:Rd w 1 A a.length (Ah a))(k:Rd w 1 B nb (Ah b))(hb:a.length<=4194304) :
  Calls Tryz.prog 145 #[.slice A a.length ca,.slice B nb cb] w fun e w'=>∃ A' c',e= .returned (.slice A' (Sg.EY a b).length c')/\AA w' w.heap.size 3 1 A' (Sg.EY a b).length c' (Ah (Sg.EY a b))/\Aa w w':=by
 have HN:=lh (fun n=>EK b n);go_enter Tryz.func145,Tryz.ntmps145;go_wp2;go_loopw [5,6] (fun v i wr=>∃ (n:Nat) (A':Option Addr) (c':Nat),n<=a.length/\i= .int .i64 n/\v= .slice A' (MS a b n).length c'/\AA wr w.heap.size 3 1 A' (MS a b n).length c' (Ah (MS a b n))/\Aa w wr) (fun _ i _=>a.length - (intOf i).toNat)
 case atStart=>exact⟨0,_,_,Nat.zero_le _,rfl,rfl,AA.new w 3 1 #[] 0 (Nat.le_refl _) (by unfold maxLen;omega) rfl,(Aa.rfl' w).al _⟩
 case round =>
  obtain⟨n,A',c',hn,rfl,rfl,hown,hext⟩:=hrel;have hdl:=Wq a b n;by_cases hlt:n<a.length
  ·obtain⟨ba,oa,x,rfl,hx,hcx⟩:=(h.ext hext).at1 hlt;have H:=lh (Vp a b n hx);have HP:=lh (Je B nb cb b x wr (k.ext hext));clear hx;by_cases hxy:x ∈ b
   ·have e1:=H.out;rw[if_pos hxy] at e1;have E1:=lh e1;have hp:decide (Db b x<0)=false:=by have:=(HN.out x).1;simp only[decide_eq_false_iff_not];intro h0;exact this h0 hxy
    clear e1 H hxy;go_wp2_with (go_at_call 112;refine HP.out.mono ?_;rintro e w' ⟨rfl,rfl⟩)
    go_roundw
    case rel=>exact⟨n+1,A',c',by omega,by go_num,by rw[E1.out],by rw[E1.out];exact hown,hext⟩
    case measure=>simp[intOf];omega
   ·have e1:=H.out;rw[if_neg hxy] at e1;have E1:=lh e1;have hp:decide (Db b x<0)=true:=by have:=(HN.out x).2 hxy;simpa using this
    clear e1 H hxy
    go_wp2_with (first
     | (go_at_call 112;refine HP.out.mono ?_;rintro e w' ⟨rfl,rfl⟩)
     | (at_builtin;refine AF rfl rfl Bc rfl hown rfl rfl (B_ _ _) (by omega) (by omega) hext.size ?_;intro A2 c2 w2 hown2 hg2 hat2))
    go_roundw
    case rel=>exact⟨n+1,A2,c2,by omega,by go_num,by rw[E1.out];simp,by rw[E1.out];simpa using hown2,hext.gr hg2 fun g hg=>(hown.lt hg).1⟩
    case measure=>simp[intOf];omega
  ·obtain rfl:n=a.length:=by omega
   have e1:MS a b a.length=Sg.EY a b:=by unfold MS;rw[List.take_length]
   rw[e1] at hown ⊢;go_wp2;go_ret;exact⟨A',c',rfl,hown,hext⟩
theorem Lg (a b:Nat):((a:Int) == (b:Int))=decide (a=b):=by
 rw[Bool.eq_iff_iff,beq_iff_eq,decide_eq_true_eq];omega
section
variable {g:Sg.Ae} {v q:List Int} {r:List (List Int)} {k:Nat} {nk x qk:Int} {nf:List Sg.At} {l:List Int}
theorem Tc (hn:g[k]? = some ⟨nk,nf⟩)(hl:r[k]? = some l)(hq:q[k]? = some qk)(h0:nk=0):Sg.Ji g ⟨v,r,q⟩ k=(decide (qk=0) && decide (l.length=0)):=by
 unfold Sg.Ji;simp[hn,hl,hq,h0]
theorem Rh (hn:g[k]? = some ⟨nk,nf⟩)(hl:r[k]? = some l)(hq:q[k]? = some qk)(h0:nk≠0)(h2:qk=2):Sg.Ji g ⟨v,r,q⟩ k=(decide (l.length=(Sg.AV l).length) && decide ((Sg.EY l (Sg.AY nf)).length=0)):=by
 unfold Sg.Ji;simp[hn,hl,hq,h0,h2]
theorem Td (hn:g[k]? = some ⟨nk,nf⟩)(hl:r[k]? = some l)(hq:q[k]? = some qk)(hx:v[k]? = some x)(h0:nk≠0)(h2:qk≠2) :
  Sg.Ji g ⟨v,r,q⟩ k=((if qk=0 then (Sg.AK nf v).2.all fun x=>Sg.rd q x == 0 else true) && decide ((Sg.AK nf v).1=x) && decide ((Sg.AK nf v).2=l)):=by
 unfold Sg.Ji;simp[hn,hl,hq,hx,h0,h2]
end
set_option maxRecDepth 100000 in
set_option maxHeartbeats 4000000 in
theorem NY (A Av Ar Aq:Option Addr)(c cv cr cq:Nat)(g:Sg.Ae)(v qs:List Int)(r:List (List Int))(k:Nat)(w:World)(h:Eg w A g)(hv0:Rd w 1 Av g.length (Ah v))(hr:KO w Ar r)(hq0:Rd w 1 Aq g.length (Ah qs))(hrl:r.length=g.length)(hk:k<g.length)(hG:Sg.AG g=true)(hI:Sg.Bk v) :
  Calls Tryz.prog 111 #[.agg #[.slice A g.length c],.agg #[.slice Av g.length cv,.slice Ar g.length cr,.slice Aq g.length cq],.int .i64 k] w fun e w'=>e= .returned (.bool (Sg.Ji g ⟨v,r,qs⟩ k))/\Aa w w':=by
 have hgl:=h.1;have e0:Aa w ((w.alloc (.cells #[.slice A g.length c] 35)).alloc (.cells #[.slice Av g.length cv,.slice Ar g.length cr,.slice Aq g.length cq] 44)):=((Aa.rfl' w).al _).al _;have m0:((w.alloc (.cells #[.slice A g.length c] 35)).alloc (.cells #[.slice Av g.length cv,.slice Ar g.length cr,.slice Aq g.length cq] 44)).cell? ⟨w.heap.size,0,none⟩=some (.slice A g.length c):=by simp[go_sem]
 have m1:((w.alloc (.cells #[.slice A g.length c] 35)).alloc (.cells #[.slice Av g.length cv,.slice Ar g.length cr,.slice Aq g.length cq] 44)).cell? ⟨w.heap.size+1,0,none⟩=some (.slice Av g.length cv):=by simp[go_sem]
 have m2:((w.alloc (.cells #[.slice A g.length c] 35)).alloc (.cells #[.slice Av g.length cv,.slice Ar g.length cr,.slice Aq g.length cq] 44)).cell? ⟨w.heap.size+1,1,none⟩=some (.slice Ar g.length cr):=by simp[go_sem]
 have m3:((w.alloc (.cells #[.slice A g.length c] 35)).alloc (.cells #[.slice Av g.length cv,.slice Ar g.length cr,.slice Aq g.length cq] 44)).cell? ⟨w.heap.size+1,2,none⟩=some (.slice Aq g.length cq):=by simp[go_sem]
 obtain⟨⟨nk,nf⟩,b,o,Ap,cp,hn,rfl,hkc,hsc,hf,hfl⟩:=(h.ext e0).at_ hk;dsimp only at *;obtain⟨l,bl,ol,Al,cl,hl0,rfl,hlc,hl,hll⟩:=(hr.ext e0).at_ (i:=k) (by omega);have hv:=hv0.ext e0;have hqr:=hq0.ext e0;obtain⟨bv,ov,x,rfl,hx,hxc⟩:=hv.at1 hk;obtain⟨bq,oq,q,rfl,hq,hqc⟩:=hqr.at1 hk;have bw3:=Au hkc;have bw4:=Au hlc;have bw5:=Au hxc;have bw6:=Au hqc;have ed:=(Aa.rfl' ((w.alloc (.cells #[.slice (some ⟨b,o,none⟩) g.length c] 35)).alloc (.cells #[.slice (some ⟨bv,ov,none⟩) g.length cv,.slice (some ⟨bl,ol,none⟩) g.length cr,.slice (some ⟨bq,oq,none⟩) g.length cq] 44))).dr;by_cases hz:nk=0
 ·have HC:=lh (Tc (v:=v) hn hl0 hq hz);have z0:(nk == 0)=true:=by simp[hz]
  clear hn hl0 hq hx hf hv0 hr hq0 h hG hI hz ed;by_cases hq0:q=0
  ·have z1:(q == 0)=true:=by simp[hq0]
   have z2:decide (q=0)=true:=by simp[hq0]
   rw[z2] at HC;clear hq0;go_enter Tryz.func111,Tryz.ntmps111;go_wp2;go_ret;exact⟨Aj (by rw[HC.out,Bool.true_and];exact Lg _ 0),e0⟩
  ·have z1:(q == 0)=false:=by simp[hq0]
   have z2:decide (q=0)=false:=by simp[hq0]
   rw[z2] at HC;clear hq0;go_enter Tryz.func111,Tryz.ntmps111;go_wp2;go_ret;exact⟨Aj (by rw[HC.out,Bool.false_and]),e0⟩
 ·have z0:(nk == 0)=false:=by simp[hz]
  by_cases hq2:q=2
  ·have HC:=lh (Rh (v:=v) hn hl0 hq hz hq2);have z1:(q == 2)=true:=by simp[hq2]
   have HFO:=lh (fun w h=>I0 Al l.length cl l w h (by omega));have HMR:=lh (fun w h=>Nf Ap cp nf w h hfl);have HMI:=lh (fun (A3:Option Addr) (c3:Nat) (w:World) (h:Rd w 1 Al l.length (Ah l)) (kk:Rd w 1 A3 (Sg.AY nf).length (Ah (Sg.AY nf)))=>Tb Al A3 cl c3 _ l (Sg.AY nf) w h kk (by omega));clear hn hl0 hq hx hv0 hr hq0 h hG hI hz hq2;by_cases hd:l.length=(Sg.AV l).length
   ·have z4:((l.length:Int) == ((Sg.AV l).length:Int))=true:=by rw[Lg];simpa using hd
    have Z4:=lh (show decide (l.length=(Sg.AV l).length)=true by simpa using hd);clear hd;go_enter Tryz.func111,Tryz.ntmps111;go_wp2_with fail
    refine wp_region_held_drew (S:=(fun W=>W.cell? ⟨w.heap.size,0,none⟩=some (.slice (some ⟨b,o,none⟩) g.length c)/\W.cell? ⟨b,o+k * 2+1,none⟩=some (.slice Ap nf.length cp)/\W.cell? ⟨w.heap.size+1,1,none⟩=some (.slice (some ⟨bl,ol,none⟩) g.length cr)/\W.cell? ⟨bl,ol+k,none⟩=some (.slice Al l.length cl))) (by kernel_rfl) ?_ (fun hHeld=>?_)
    ·exact⟨ed.cellE m0,ed.cellE hsc,ed.cellE m2,ed.cellE hlc⟩
    refine ty 0 ?_;refine ty 1 ?_;refine ty 2 ?_;refine ty 3 ?_;refine ty 4 ?_;refine ty 5 ?_;refine ty 6 ?_;refine ty 7 ?_;refine ty 8 ?_;refine ty 9 ?_;refine ty 10 ?_;refine Cu 11 rfl fun K hK=>?_;go_simp;refine(HFO.out _ (hl.ext ed)).mono ?_;rintro e w2 ⟨A2,c2,rfl,ho2,he2⟩;try go_wp2_with fail
    clear hHeld;refine hK.out _ _ (by exact⟨(ed.tr he2).cellE m0,(ed.tr he2).cellE hsc,(ed.tr he2).cellE m2,(ed.tr he2).cellE hlc⟩) fun hHeld=>?_;clear hK K;try simp only[Act.put,pu]
    refine ty 12 ?_;refine ty 13 ?_;refine ty 14 ?_;refine ty 15 ?_;refine ty 16 ?_;refine ty 17 ?_;refine ty 18 ?_;refine ty 19 ?_;refine ty 20 ?_;refine ty 21 ?_;refine ty 22 ?_;refine ty 23 ?_;refine ty 24 ?_;refine ty 25 ?_;refine Cu 26 rfl fun K hK=>?_;go_simp;refine(HMR.out _ (hf.ext (ed.tr he2))).mono ?_;rintro e w3 ⟨A3,c3,rfl,ho3,he3⟩;try go_wp2_with fail
    clear hHeld;refine hK.out _ _ (by exact⟨(ed.tr (he2.tr he3)).cellE m0,(ed.tr (he2.tr he3)).cellE hsc,(ed.tr (he2.tr he3)).cellE m2,(ed.tr (he2.tr he3)).cellE hlc⟩) fun hHeld=>?_;clear hK K;try simp only[Act.put,pu]
    refine Cu 27 rfl fun K hK=>?_;go_simp;refine(HMI.out A3 c3 _ (hl.ext (ed.tr (he2.tr he3))) ho3.rd).mono ?_;rintro e w4 ⟨A4,c4,rfl,ho4,he4⟩;try go_wp2_with fail
    clear hHeld;refine hK.out _ _ (by exact⟨(ed.tr ((he2.tr he3).tr he4)).cellE m0,(ed.tr ((he2.tr he3).tr he4)).cellE hsc,(ed.tr ((he2.tr he3).tr he4)).cellE m2,(ed.tr ((he2.tr he3).tr he4)).cellE hlc⟩) fun hHeld=>?_;clear hK K;try simp only[Act.put,pu]
    refine ty 28 ?_;refine ty 29 ?_;refine ty 30 ?_;refine ty 31 ?_;refine dn ?_;go_wp2;go_ret;exact⟨Aj (by rw[HC.out,Z4.out,Bool.true_and];exact Lg _ 0),e0.tr (ed.tr ((he2.tr he3).tr he4))⟩
   ·have z4:((l.length:Int) == ((Sg.AV l).length:Int))=false:=by rw[Lg];simpa using hd
    have Z4:=lh (show decide (l.length=(Sg.AV l).length)=false by simpa using hd);clear hd;go_enter Tryz.func111,Tryz.ntmps111;go_wp2_with fail
    refine wp_region_held_drew (S:=(fun W=>W.cell? ⟨w.heap.size,0,none⟩=some (.slice (some ⟨b,o,none⟩) g.length c)/\W.cell? ⟨b,o+k * 2+1,none⟩=some (.slice Ap nf.length cp)/\W.cell? ⟨w.heap.size+1,1,none⟩=some (.slice (some ⟨bl,ol,none⟩) g.length cr)/\W.cell? ⟨bl,ol+k,none⟩=some (.slice Al l.length cl))) (by kernel_rfl) ?_ (fun hHeld=>?_)
    ·exact⟨ed.cellE m0,ed.cellE hsc,ed.cellE m2,ed.cellE hlc⟩
    refine ty 0 ?_;refine ty 1 ?_;refine ty 2 ?_;refine ty 3 ?_;refine ty 4 ?_;refine ty 5 ?_;refine ty 6 ?_;refine ty 7 ?_;refine ty 8 ?_;refine ty 9 ?_;refine ty 10 ?_;refine Cu 11 rfl fun K hK=>?_;go_simp;refine(HFO.out _ (hl.ext ed)).mono ?_;rintro e w2 ⟨A2,c2,rfl,ho2,he2⟩;try go_wp2_with fail
    clear hHeld;refine hK.out _ _ (by exact⟨(ed.tr he2).cellE m0,(ed.tr he2).cellE hsc,(ed.tr he2).cellE m2,(ed.tr he2).cellE hlc⟩) fun hHeld=>?_;clear hK K;try simp only[Act.put,pu]
    refine ty 12 ?_;refine ty 13 ?_;refine ty 14 ?_;refine tn 15 ?_;refine tn 16 ?_;refine tn 17 ?_;refine tn 18 ?_;refine tn 19 ?_;refine tn 20 ?_;refine tn 21 ?_;refine tn 22 ?_;refine tn 23 ?_;refine tn 24 ?_;refine tn 25 ?_;refine tn 26 ?_;refine tn 27 ?_;refine tn 28 ?_;refine tn 29 ?_;refine ty 30 ?_;refine ty 31 ?_;refine dn ?_;go_wp2;go_ret;exact⟨Aj (by rw[HC.out,Z4.out,Bool.false_and]),e0.tr (ed.tr he2)⟩
  ·have HC:=lh (Td hn hl0 hq hx hz hq2);have z1:(q == 2)=false:=by simp[hq2]
   have hok:=Sg.Bj hG k hn hz;have hvlen:=hv.len
   have hread:(Sg.AK nf v).2.length<=4194304:=by
    have h1:=Jr (Sg.Cj nf v nf.length ((nf.length:Int) - 1)).2;have h2:=Sg.FC nf v nf.length ((nf.length:Int) - 1);have h3:2 ^ nf.length<=2 ^ 12:=Nat.pow_le_pow_right (by omega) hok.len;unfold Sg.AK;dsimp only;omega
   have hdep:∀ z ∈ (Sg.AK nf v).2,0<=z/\z<(g.length:Int):=fun z hz'=>by
    have:=Sg.Gd hG (v:=v) hk (x:=z) (by rw[Iu hn hz];exact hz');omega
   have HRUN:=lh (fun w hf hv=>Rw Ap (some ⟨bv,ov,none⟩) cp cv g.length nf v ⟨hok.good,hok.len,hok.one,fun p hp hpk=>by have:=hok.reads p hp hpk;dsimp only at *;omega⟩ hI w hf hv);have HSI:=lh (fun (A2:Option Addr) (c2:Nat) (w:World) (h:Rd w 1 A2 (Sg.AK nf v).2.length (Ah (Sg.AK nf v).2)) (kk:Rd w 1 Al l.length (Ah l))=>QW A2 Al c2 cl (Sg.AK nf v).2 l w h kk hread);have HD:=lh hdep;generalize Sg.AK nf v=RF at *;clear hn hl0 hq hx hv0 hr hq0 h hG hI hz hok hdep;go_enter Tryz.func111,Tryz.ntmps111;go_wp2_with fail
   refine wp_region_held_drew (S:=(fun W=>W.cell? ⟨w.heap.size,0,none⟩=some (.slice (some ⟨b,o,none⟩) g.length c)/\W.cell? ⟨b,o+k * 2+1,none⟩=some (.slice Ap nf.length cp)/\W.cell? ⟨w.heap.size+1,0,none⟩=some (.slice (some ⟨bv,ov,none⟩) g.length cv))) (by kernel_rfl) ?_ (fun hHeld=>?_)
   ·exact⟨ed.cellE m0,ed.cellE hsc,ed.cellE m1⟩
   refine ty 0 ?_;refine ty 1 ?_;refine ty 2 ?_;refine ty 3 ?_;refine ty 4 ?_;refine ty 5 ?_;refine ty 6 ?_;refine ty 7 ?_;refine Cu 8 rfl fun K hK=>?_;go_simp;refine(HRUN.out _ (hf.ext ed) (hv.ext ed)).mono ?_;rintro e w2 ⟨A2,c2,rfl,ho2,he2,hx0,hx1⟩;try go_wp2_with fail
   clear hHeld;refine hK.out _ _ (by exact⟨(ed.tr he2).cellE m0,(ed.tr he2).cellE hsc,(ed.tr he2).cellE m1⟩) fun hHeld=>?_;clear hK K;try simp only[Act.put,pu]
   refine ty 9 ?_;refine ty 10 ?_;refine ty 11 ?_;refine ty 12 ?_;refine ty 13 ?_;refine dn ?_;have e2:=ed.tr he2;have n0:=e2.cellE m0;have n1:=e2.cellE m1;have n2:=e2.cellE m2;have n3:=e2.cellE m3;have nq:=e2.cellE hqc;have nx:=e2.cellE hxc;have nl:=e2.cellE hlc;have Hl2:=lh (hl.ext e2);have Hq2:=lh (hqr.ext e2);have E2:=lh (e0.tr e2);have HL:=lh ho2.rd;clear hHeld ho2 he2 e2 m0 m1 m2 m3 hsc hlc hxc hqc hkc hf hl hv hqr ed e0;go_wp2;go_loopw [9] (fun i wr=>∃ j:Nat,j<=RF.2.length/\i= .int .i64 j/\Aa w2 wr/\(q=0->((RF.2.drop j).all fun z=>Sg.rd qs z == 0)=(RF.2.all fun z=>Sg.rd qs z == 0))) (fun i _=>RF.2.length - (intOf i).toNat)
   case atStart=>exact⟨0,Nat.zero_le _,rfl,Aa.rfl' _,fun _=>rfl⟩
   case round =>
    obtain⟨j,hj,rfl,he,hall⟩:=hrel;have hrf:=HL.out.big;have n0':=he.cellE n0;have n1':=he.cellE n1;have n2':=he.cellE n2;have n3':=he.cellE n3;have nq':=he.cellE nq;have nx':=he.cellE nx;have nl':=he.cellE nl;have HE:=lh he;clear n0 n1 n2 n3 nq nx nl;have n3:=n3';have nq:=nq';by_cases hlt:j<RF.2.length
    ·obtain⟨bL,oL,z,rfl,hzz,hzc⟩:=(HL.out.ext he).at1 hlt;have hzd:=HD.out z (List.mem_of_getElem? hzz);obtain⟨zn,rfl⟩:=Int.eq_ofNat_of_zero_le hzd.1;have hzn:zn<g.length:=by omega
     obtain⟨bq',oq',y,ha,hy,hyc⟩:=(Hq2.out.ext he).at1 hzn;simp only[Option.some.injEq,Addr.mk.injEq,and_true] at ha;obtain⟨rfl,rfl⟩:=ha;have hb1:=Au nq;have hb2:=Au hzc;have hb3:=Au n3;have ed:=(Aa.rfl' wr).dr
     have hall':q=0->((y == 0) && ((RF.2.drop (j+1)).all fun z=>Sg.rd qs z == 0))=(RF.2.all fun z=>Sg.rd qs z == 0):=fun h0=>by
      rw[<- hall h0,Dy RF.2 j hzz,List.all_cons];simp[Sg.rd,hy]
     have HA:=lh hall';clear hall hall' hy hzz hzd he;by_cases hq0:q=0
     ·have z3:(q == 0)=true:=by simp[hq0]
      have Hq0:=lh hq0;clear hq0;by_cases hy0:y=0
      ·have z5:(y != 0)=false:=by simp[hy0]
       have z6:(y == 0)=true:=by simp[hy0]
       rw[z6] at HA;clear hy0;go_wp2_with fail
       refine wp_region_held_drew (S:=(fun W=>W.cell? ⟨w.heap.size+1,2,none⟩=some (.slice (some ⟨bq,oq,none⟩) g.length cq)/\W.cell? ⟨bq,oq+k,none⟩=some (.int .i64 q)/\W.cell? ⟨bL,oL+j,none⟩=some (.int .i64 (zn:Int))/\W.cell? ⟨bq,oq+zn,none⟩=some (.int .i64 y))) (by kernel_rfl) ?_ (fun hHeld=>?_)
       ·exact⟨ed.cellE n3,ed.cellE nq,ed.cellE hzc,ed.cellE hyc⟩
       refine ty 0 ?_;refine ty 1 ?_;refine ty 2 ?_;refine ty 3 ?_;refine ty 4 ?_;refine ty 5 ?_;refine ty 6 ?_;refine ty 7 ?_;refine ty 8 ?_;refine ty 9 ?_;refine ty 10 ?_;refine ty 11 ?_;refine ty 12 ?_;refine ty 13 ?_;refine ty 14 ?_;refine ty 15 ?_;refine ty 16 ?_;refine dn ?_;go_wp2;go_roundw
       case rel=>exact⟨j+1,by omega,by go_num,HE.out.dr,fun h0=>by rw[<- HA.out h0,Bool.true_and]⟩
       case measure=>simp[intOf];omega
      ·have z5:(y != 0)=true:=by simp[hy0]
       have z6:(y == 0)=false:=by simp[hy0]
       rw[z6] at HA;clear hy0;go_wp2_with fail
       refine wp_region_held_drew (S:=(fun W=>W.cell? ⟨w.heap.size+1,2,none⟩=some (.slice (some ⟨bq,oq,none⟩) g.length cq)/\W.cell? ⟨bq,oq+k,none⟩=some (.int .i64 q)/\W.cell? ⟨bL,oL+j,none⟩=some (.int .i64 (zn:Int))/\W.cell? ⟨bq,oq+zn,none⟩=some (.int .i64 y))) (by kernel_rfl) ?_ (fun hHeld=>?_)
       ·exact⟨ed.cellE n3,ed.cellE nq,ed.cellE hzc,ed.cellE hyc⟩
       refine ty 0 ?_;refine ty 1 ?_;refine ty 2 ?_;refine ty 3 ?_;refine ty 4 ?_;refine ty 5 ?_;refine ty 6 ?_;refine ty 7 ?_;refine ty 8 ?_;refine ty 9 ?_;refine ty 10 ?_;refine ty 11 ?_;refine ty 12 ?_;refine ty 13 ?_;refine ty 14 ?_;refine ty 15 ?_;refine ty 16 ?_;refine dn ?_;go_wp2;go_ret;exact⟨Aj (by rw[HC.out,if_pos Hq0.out,<- HA.out Hq0.out];rfl),E2.out.tr HE.out.dr⟩
     ·have z3:(q == 0)=false:=by simp[hq0]
      have Hq0:=lh hq0;clear hq0;go_wp2_with fail
      refine wp_region_held_drew (S:=(fun W=>W.cell? ⟨w.heap.size+1,2,none⟩=some (.slice (some ⟨bq,oq,none⟩) g.length cq)/\W.cell? ⟨bq,oq+k,none⟩=some (.int .i64 q))) (by kernel_rfl) ?_ (fun hHeld=>?_)
      ·exact⟨ed.cellE n3,ed.cellE nq⟩
      refine ty 0 ?_;refine ty 1 ?_;refine ty 2 ?_;refine ty 3 ?_;refine ty 4 ?_;refine ty 5 ?_;refine ty 6 ?_;refine tn 7 ?_;refine tn 8 ?_;refine tn 9 ?_;refine tn 10 ?_;refine tn 11 ?_;refine tn 12 ?_;refine tn 13 ?_;refine tn 14 ?_;refine tn 15 ?_;refine ty 16 ?_;refine dn ?_;go_wp2;go_roundw
      case rel=>exact⟨j+1,by omega,by go_num,HE.out.dr,fun h0=>absurd h0 Hq0.out⟩
      case measure=>simp[intOf];omega
    ·obtain rfl:j=RF.2.length:=by omega
     have hfin:(if q=0 then RF.2.all fun z=>Sg.rd qs z == 0 else true)=true:=by
      by_cases hq0:q=0
      ·rw[if_pos hq0,<- hall hq0,List.drop_length];rfl
      ·rw[if_neg hq0]
     rw[hfin,Bool.true_and] at HC;have hb1:=Au nx';have hb2:=Au nl';have hb3:=Au n1';clear hall hfin he;by_cases hxx:RF.1=x
     ·have z7:(RF.1 == x)=true:=by simp[hxx]
      have z8:decide (RF.1=x)=true:=by simp[hxx]
      rw[z8,Bool.true_and] at HC;clear hxx;go_wp2_with (go_at_call 146;refine(HSI.out A2 c2 _ (HL.out.ext HE.out) (Hl2.out.ext HE.out)).mono ?_;rintro e w3 ⟨rfl,he3⟩)
      go_ret;exact⟨Aj (by rw[HC.out]),(E2.out.tr HE.out).tr he3⟩
     ·have z7:(RF.1 == x)=false:=by simp[hxx]
      have z8:decide (RF.1=x)=false:=by simp[hxx]
      rw[z8,Bool.false_and] at HC;clear hxx;go_wp2;go_ret;exact⟨Aj (by rw[HC.out]),E2.out.tr HE.out⟩
def CS (g:Sg.Ae)(st:Sg.Bv)(k:Nat):Bool:=(List.range k).all (Sg.Ji g st)
theorem Vq (g:Sg.Ae)(st:Sg.Bv)(k:Nat):CS g st (k+1)=(CS g st k && Sg.Ji g st k):=by unfold CS;rw[List.range_succ,List.all_append];simp
theorem Wr (g:Sg.Ae)(st:Sg.Bv)(k:Nat)(hk:k<g.length)(h:Sg.Ji g st k=false):Sg.DP g st=false:=by
 unfold Sg.DP
 have:(List.range g.length).all (Sg.Ji g st)=false:=by
  rw[List.all_eq_false];exact⟨k,List.mem_range.2 hk,by rw[h];simp⟩
 rw[this,Bool.and_false]
set_option maxRecDepth 100000 in
set_option maxHeartbeats 4000000 in
theorem KU (A Av Ar Aq:Option Addr)(c cv cr cq:Nat)(g:Sg.Ae)(v q:List Int)(r:List (List Int))(w:World)(h:Eg w A g)(hv:Rd w 1 Av v.length (Ah v))(hr:KO w Ar r)(hq:Rd w 1 Aq q.length (Ah q))(_hvl:v.length<=1048576)(_hql:q.length<=1048576) :
  Calls Tryz.prog 73 #[.agg #[.slice A g.length c],.agg #[.slice Av v.length cv,.slice Ar r.length cr,.slice Aq q.length cq]] w fun e w'=>e= .returned (.bool (Sg.DP g ⟨v,r,q⟩))/\Aa w w':=by
 have hgl:=h.1;have hrl:=hr.1;have HVG:=lh (J3 A c g);have HAI:=lh (RL Av v.length cv v 0 999);have HAQ:=lh (RL Aq q.length cq q 0 2);have e0:=((Aa.rfl' w).al (.cells #[.slice A g.length c] 35)).al (.cells #[.slice Av v.length cv,.slice Ar r.length cr,.slice Aq q.length cq] 44);cases hG:Sg.AG g
 ·have HG:=lh hG;clear hG;go_enter Tryz.func73,Tryz.ntmps73;go_wp2_with fail
  refine(HVG.out _ (h.ext e0)).mono ?_;rintro e w1 ⟨rfl,he1⟩;rw[HG.out];obtain⟨bc,bf⟩:=FH he1;go_wp2;go_ret;exact⟨Aj (by unfold Sg.DP Sg.Dc;rw[HG.out];rfl),e0.tr he1⟩
 have HG:=lh hG;clear hG;by_cases hvg:v.length=g.length
 case neg =>
  have b1:((v.length:Int) != (g.length:Int))=true:=by simp;omega
  have Hb:=lh hvg;clear hvg;go_enter Tryz.func73,Tryz.ntmps73;go_wp2_with fail
  refine(HVG.out _ (h.ext e0)).mono ?_;rintro e w1 ⟨rfl,he1⟩;rw[HG.out];obtain⟨bc,bf⟩:=FH he1;go_wp2;go_ret;exact⟨Aj (by unfold Sg.DP Sg.Dc;simp[Hb.out]),e0.tr he1⟩
 have b1:((v.length:Int) != (g.length:Int))=false:=by simp;omega
 have Hvg:=lh hvg;clear hvg;by_cases hrg:r.length=g.length
 case neg =>
  have b2:((r.length:Int) != (g.length:Int))=true:=by simp;omega
  have Hb:=lh hrg;clear hrg;go_enter Tryz.func73,Tryz.ntmps73;go_wp2_with fail
  refine(HVG.out _ (h.ext e0)).mono ?_;rintro e w1 ⟨rfl,he1⟩;rw[HG.out];obtain⟨bc,bf⟩:=FH he1;go_wp2;go_ret;exact⟨Aj (by unfold Sg.DP Sg.Dc;simp[Hb.out]),e0.tr he1⟩
 have b2:((r.length:Int) != (g.length:Int))=false:=by simp;omega
 have Hrg:=lh hrg;clear hrg;by_cases hqg:q.length=g.length
 case neg =>
  have b3:((q.length:Int) != (g.length:Int))=true:=by simp;omega
  have Hb:=lh hqg;clear hqg;go_enter Tryz.func73,Tryz.ntmps73;go_wp2_with fail
  refine(HVG.out _ (h.ext e0)).mono ?_;rintro e w1 ⟨rfl,he1⟩;rw[HG.out];obtain⟨bc,bf⟩:=FH he1;go_wp2;go_ret;exact⟨Aj (by unfold Sg.DP Sg.Dc;simp[Hb.out]),e0.tr he1⟩
 have b3:((q.length:Int) != (g.length:Int))=false:=by simp;omega
 have Hqg:=lh hqg;clear hqg;cases hI:(v.all fun x=>Sg.BZ x 0 999)
 ·have HI:=lh hI;clear hI;go_enter Tryz.func73,Tryz.ntmps73;go_wp2_with fail
  refine(HVG.out _ (h.ext e0)).mono ?_;rintro e w1 ⟨rfl,he1⟩;rw[HG.out];obtain⟨bc,bf⟩:=FH he1;go_wp2_with fail
  refine(HAI.out _ (hv.ext (e0.tr he1))).mono ?_;rintro e w2 ⟨rfl,rfl⟩;rw[HI.out];go_wp2;go_ret;exact⟨Aj (by unfold Sg.DP Sg.Dc;unfold Sg.CX;rw[HI.out];simp),e0.tr he1⟩
 have HI:=lh hI;clear hI;cases hQ:(q.all fun x=>Sg.BZ x 0 2)
 ·have HQ:=lh hQ;clear hQ;go_enter Tryz.func73,Tryz.ntmps73;go_wp2_with fail
  refine(HVG.out _ (h.ext e0)).mono ?_;rintro e w1 ⟨rfl,he1⟩;rw[HG.out];obtain⟨bc,bf⟩:=FH he1;go_wp2_with fail
  refine(HAI.out _ (hv.ext (e0.tr he1))).mono ?_;rintro e w2 ⟨rfl,rfl⟩;rw[HI.out];go_wp2_with fail
  refine(HAQ.out _ (hq.ext (e0.tr he1))).mono ?_;rintro e w3 ⟨rfl,rfl⟩;rw[HQ.out];go_wp2;go_ret;exact⟨Aj (by unfold Sg.DP Sg.Dc;dsimp only;rw[HQ.out];simp),e0.tr he1⟩
 have HQ:=lh hQ;clear hQ;have HC:=lh (fun (k:Nat) (w:World) (hk:k<g.length) (h:Eg w A g) (hv0:Rd w 1 Av g.length (Ah v)) (hr:KO w Ar r) (hq0:Rd w 1 Aq g.length (Ah q))=>NY A Av Ar Aq c cv cr cq g v q r k w h hv0 hr hq0 Hrg.out hk HG.out (Sg.B7 HI.out));go_enter Tryz.func73,Tryz.ntmps73;go_wp2_with fail
 refine(HVG.out _ (h.ext e0)).mono ?_;rintro e w1 ⟨rfl,he1⟩;rw[HG.out];obtain⟨bc,bf⟩:=FH he1;go_wp2_with fail
 refine(HAI.out _ (hv.ext (e0.tr he1))).mono ?_;rintro e w2 ⟨rfl,rfl⟩;rw[HI.out];go_wp2_with fail
 refine(HAQ.out _ (hq.ext (e0.tr he1))).mono ?_;rintro e w3 ⟨rfl,rfl⟩;rw[HQ.out];go_wp2;have e1:=e0.tr he1;have hb1:w1.cell? ⟨w.heap.size,0,none⟩=some (.slice A g.length c):=he1.cellE (by simp[go_sem]);have hb2:w1.cell? ⟨w.heap.size+1,0,none⟩=some (.slice Av v.length cv):=he1.cellE (by simp[go_sem]);have hb3:w1.cell? ⟨w.heap.size+1,1,none⟩=some (.slice Ar r.length cr):=he1.cellE (by simp[go_sem]);have hb4:w1.cell? ⟨w.heap.size+1,2,none⟩=some (.slice Aq q.length cq):=he1.cellE (by simp[go_sem]);clear bc bf he1 e0 b1 b2 b3 HVG HAI HAQ;go_loopw [5] (fun i wr=>∃ k:Nat,k<=g.length/\i= .int .i64 k/\Aa w1 wr/\CS g ⟨v,r,q⟩ k=true) (fun i _=>g.length - (intOf i).toNat)
 case atStart=>exact⟨0,Nat.zero_le _,rfl,Aa.rfl' _,rfl⟩
 case round =>
  obtain⟨k,hk,rfl,he,hra⟩:=hrel;have HR:=lh hra;have c1:=he.cellE hb1;have c2:=he.cellE hb2;have c3:=he.cellE hb3;have c4:=he.cellE hb4;have d1:=Au c1;have d2:=Au c2;have ee:=e1.tr he;clear hra hb1 hb2 hb3 hb4;by_cases hlt:k<g.length
  ·have HCk:=HC.out k wr hlt (h.ext ee) (by have:=hv.ext ee;rwa [Hvg.out] at this) (hr.ext ee) (by have:=hq.ext ee;rwa [Hqg.out] at this);have HCk:Calls Tryz.prog 111 #[.agg #[.slice A g.length c],.agg #[.slice Av v.length cv,.slice Ar r.length cr,.slice Aq q.length cq],.int .i64 k] wr fun e w'=>e= .returned (.bool (Sg.Ji g ⟨v,r,q⟩ k))/\Aa wr w':=by rw[Hvg.out,Hrg.out,Hqg.out];exact HCk
   have HCK:=lh HCk;clear HCk;cases hg:Sg.Ji g ⟨v,r,q⟩ k
   ·have Hg:=lh hg;clear hg;go_wp2_with (go_at_call 111;refine HCK.out.mono ?_;rintro e w3 ⟨rfl,he3⟩;rw[Hg.out])
    go_ret;exact⟨Aj (by rw[Wr g _ k hlt Hg.out]),ee.tr he3⟩
   ·have Hg:=lh hg;clear hg;go_wp2_with (go_at_call 111;refine HCK.out.mono ?_;rintro e w3 ⟨rfl,he3⟩;rw[Hg.out])
    go_roundw
    case rel=>exact⟨k+1,by omega,by go_num,he.tr he3,by rw[Vq,HR.out,Hg.out];rfl⟩
    case measure=>simp[intOf];omega
  ·obtain rfl:k=g.length:=by omega
   have hfin:Sg.DP g ⟨v,r,q⟩=true:=by
    unfold Sg.DP Sg.Dc Sg.CX;have:=HR.out;unfold CS at this;simp only[this,HG.out,HI.out,HQ.out,Hvg.out,Hrg.out,Hqg.out,decide_true,Bool.and_self]
   have Hfin:=lh hfin;clear hfin;go_wp2;go_ret;exact⟨Aj (by rw[Hfin.out]),ee⟩
open Go.RowKit
theorem Ua (A Av Ar Aq:Option Addr)(c cv cr cq:Nat)(g:Sg.Ae)(v q:List Int)(r:List (List Int))(w:World)(h:Eg w A g)(hv:Rd w 1 Av v.length (Ah v))(hr:KO w Ar r)(hq:Rd w 1 Aq q.length (Ah q))(hvl:v.length<=1048576)(hql:q.length<=1048576) :
  Calls Tryz.prog 73 #[.agg #[.slice A g.length c],.agg #[.slice Av v.length cv,.slice Ar r.length cr,.slice Aq q.length cq]] w fun e w'=>e= .returned (.bool (Sg.AO g ⟨v,r,q⟩))/\Aa w w':=by
 have:=KU A Av Ar Aq c cv cr cq g v q r w h hv hr hq hvl hql;rw[Sg.KH] at this;exact this
set_option maxRecDepth 100000 in
set_option maxHeartbeats 2000000 in
theorem SV (A Av Ar Aq:Option Addr)(c cv cr cq:Nat)(g:Sg.Ae)(v q:List Int)(r:List (List Int))(w:World)(h:Eg w A g)(hv:Rd w 1 Av v.length (Ah v))(hr:Em w Ar r)(hq:Rd w 1 Aq q.length (Ah q))(hvl:v.length<=1048576)(hql:q.length<=1048576) :
  Calls Tryz.prog 35 #[.agg #[.slice A g.length c],.agg #[.slice Av v.length cv,.slice Ar r.length cr,.slice Aq q.length cq]] w fun e w'=>∃ A' c',e= .returned (.slice A' (Sg.BF g ⟨v,r,q⟩).length c')/\AA w' w.heap.size 3 1 A' (Sg.BF g ⟨v,r,q⟩).length c' (Ah (Sg.BF g ⟨v,r,q⟩))/\Aa w w':=by
 have hgl:=h.1;have HV:=lh (fun w h hv hr hq=>Ua A Av Ar Aq c cv cr cq g v q r w h hv (Em.rdL hr) hq hvl hql);have H:=lh h;have Hv:=lh hv;have Hr:=lh hr;have Hq:=lh hq;clear h hv hr hq;have E0:=lh ((((Aa.rfl' w).al (.cells #[.slice A g.length c] 35)).al (.cells #[.slice Av v.length cv,.slice Ar r.length cr,.slice Aq q.length cq] 44)):Aa w (World.alloc (World.alloc w (.cells #[.slice A g.length c] 35)) (.cells #[.slice Av v.length cv,.slice Ar r.length cr,.slice Aq q.length cq] 44)));have qlg:World.cell? (World.alloc (World.alloc w (.cells #[.slice A g.length c] 35)) (.cells #[.slice Av v.length cv,.slice Ar r.length cr,.slice Aq q.length cq] 44)) ⟨w.heap.size,0,none⟩=some (.slice A g.length c):=by simp[go_sem]
 have Qlg:=lh qlg;clear qlg;have qlv:World.cell? (World.alloc (World.alloc w (.cells #[.slice A g.length c] 35)) (.cells #[.slice Av v.length cv,.slice Ar r.length cr,.slice Aq q.length cq] 44)) ⟨w.heap.size+1,0,none⟩=some (.slice Av v.length cv):=by simp[go_sem]
 have Qlv:=lh qlv;clear qlv;have qlr:World.cell? (World.alloc (World.alloc w (.cells #[.slice A g.length c] 35)) (.cells #[.slice Av v.length cv,.slice Ar r.length cr,.slice Aq q.length cq] 44)) ⟨w.heap.size+1,1,none⟩=some (.slice Ar r.length cr):=by simp[go_sem]
 have Qlr:=lh qlr;clear qlr;have qlq:World.cell? (World.alloc (World.alloc w (.cells #[.slice A g.length c] 35)) (.cells #[.slice Av v.length cv,.slice Ar r.length cr,.slice Aq q.length cq] 44)) ⟨w.heap.size+1,2,none⟩=some (.slice Aq q.length cq):=by simp[go_sem]
 have Qlq:=lh qlq;clear qlq;cases hE:Sg.AO g ⟨v,r,q⟩
 ·have HE:=lh hE;have HS:=lh (show Sg.BF g ⟨v,r,q⟩=[] by unfold Sg.BF;rw[hE];rfl);clear hE;go_enter Tryz.func35,Tryz.ntmps35;go_wp2_with fail
  refine(HV.out _ (H.out.ext E0.out) (Hv.out.ext E0.out) (Hr.out.ext E0.out) (Hq.out.ext E0.out)).mono ?_;rintro e w1 ⟨rfl,he1⟩;rw[HE.out];have U1:=lh ((Aa.rfl' (World.alloc (World.alloc w (.cells #[.slice A g.length c] 35)) (.cells #[.slice Av v.length cv,.slice Ar r.length cr,.slice Aq q.length cq] 44))).tr he1);have E1:=lh (E0.out.tr U1.out);have lg_1:=U1.out.cellE Qlg.out;have lv_1:=U1.out.cellE Qlv.out;have lr_1:=U1.out.cellE Qlr.out;have lq_1:=U1.out.cellE Qlq.out;clear he1 ;have blg_1:=Au lg_1;have blv_1:=Au lv_1;have blr_1:=Au lr_1;have blq_1:=Au lq_1;go_wp2;go_ret;rw[HS.out];exact⟨none,0,rfl,AA.nil _ _ _ _,E1.out⟩
 have HE:=lh hE;have HS:=lh (show Sg.BF g ⟨v,r,q⟩=Sg.G3 q g.length by unfold Sg.BF;rw[hE];rfl);have hqg:q.length=g.length:=by unfold Sg.AO Sg.Dc at hE;simp only[Bool.and_eq_true,decide_eq_true_eq] at hE;exact hE.1.1.2
 have Hqg:=lh hqg;have HQ:=lh (fun k=>(show Sg.G3 q (k+1)=if (Sg.rd q (k:Int) != 0)=true then Sg.G3 q k++[(k:Int)] else Sg.G3 q k from Sg.Dr _ k));have HL:=lh (fun k=>(show (Sg.G3 q k).length<=k from Sg.Fn _ k));clear hE hqg;go_enter Tryz.func35,Tryz.ntmps35;go_wp2_with fail
 refine(HV.out _ (H.out.ext E0.out) (Hv.out.ext E0.out) (Hr.out.ext E0.out) (Hq.out.ext E0.out)).mono ?_;rintro e w1 ⟨rfl,he1⟩;rw[HE.out];have U1:=lh ((Aa.rfl' (World.alloc (World.alloc w (.cells #[.slice A g.length c] 35)) (.cells #[.slice Av v.length cv,.slice Ar r.length cr,.slice Aq q.length cq] 44))).tr he1);have E1:=lh (E0.out.tr U1.out);have lg_1:=U1.out.cellE Qlg.out;have lv_1:=U1.out.cellE Qlv.out;have lr_1:=U1.out.cellE Qlr.out;have lq_1:=U1.out.cellE Qlq.out;clear he1 ;have blg_1:=Au lg_1;have blv_1:=Au lv_1;have blr_1:=Au lr_1;have blq_1:=Au lq_1;go_wp2;have O0:=lh ((AA.new w1 3 1 #[] 0 (Nat.le_refl _) (by unfold maxLen;omega) rfl));have KG:=lh lg_1;have KQ:=lh lq_1;have EA:=lh (show Aa w1 (World.alloc w1 (.cells #[] 3)) from (Aa.rfl' _).al _);clear lg_1 lv_1 lr_1 lq_1 blg_1 blv_1 blr_1 blq_1;go_loopw [5,6] (fun v i wr=>∃ (k:Nat) (A':Option Addr) (c':Nat),k<=g.length/\i= .int .i64 k/\v= .slice A' (Sg.G3 q k).length c'/\Hid (AA wr w1.heap.size 3 1 A' (Sg.G3 q k).length c' (Ah (Sg.G3 q k)))/\Hid (Aa w1 wr)) (fun _ i _=>g.length - (intOf i).toNat)
 case atStart=>exact⟨0,_,_,Nat.zero_le _,rfl,rfl,lh O0.out,EA⟩
 case round =>
  obtain⟨k,A',c',hk,rfl,rfl,hO,hE⟩:=hrel;have k1:=hE.out.cellE KG.out;have k2:=hE.out.cellE KQ.out;have b1:=Au k1;have b2:=Au k2;have hl:=HL.out k;by_cases hlt:k<g.length
  ·obtain⟨bq,oq,x,rfl,hx,hcx⟩:=(Hq.out.ext (E1.out.tr hE.out)).at1 (show k<q.length by rw[Hqg.out];exact hlt);have b3:=Au hcx;have hkq:k<q.length:=by rw[Hqg.out];exact hlt
   have hrd:Sg.rd q (k:Int)=x:=by simp[Sg.rd,hx]
   have hs:=HQ.out k;rw[hrd] at hs;clear hx hrd;by_cases hz:x=0
   ·have z1:(x != 0)=false:=by simp[hz]
    rw[z1,if_neg (by simp)] at hs;have Hs:=lh hs;clear hs hz;go_wp2;go_roundw
    case rel=>exact⟨k+1,A',c',by omega,by go_num,by rw[Hs.out],lh (by rw[Hs.out];exact hO.out),hE⟩
    case measure=>simp[intOf];omega
   ·have z1:(x != 0)=true:=by simp[hz]
    rw[z1,if_pos rfl] at hs;have Hs:=lh hs;clear hs hz;go_wp2_with (at_builtin;refine AF rfl rfl Bc rfl hO.out rfl rfl (B_ _ _) (by omega) (by omega) hE.out.size ?_;intro A2 c2 w2 ho2 hg2 hat2)
    go_roundw
    case rel=>exact⟨k+1,A2,c2,by omega,by go_num,by rw[Hs.out];simp,lh (by rw[Hs.out];simpa using ho2),lh (hE.out.gr hg2 (fun b hb=>(hO.out.lt hb).1))⟩
    case measure=>simp[intOf];omega
  ·obtain rfl:k=g.length:=by omega
   go_wp2;go_ret;rw[HS.out];exact⟨A',c',rfl,hO.out.mono E1.out.size,E1.out.tr hE.out⟩
end Go.Proofs.YthibllkleakiiaaGreatDoor
