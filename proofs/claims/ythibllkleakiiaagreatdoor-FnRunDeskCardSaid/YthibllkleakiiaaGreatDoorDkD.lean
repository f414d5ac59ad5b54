/- The reference's answer to one line of a desk, in memory: contract. Conditions: a valid desk, a line of at most 2^20 bytes. -/
import Derived.Test.YthibllkleakiiaaGreatDoorDkB
namespace Sg
open Go
noncomputable def RB {σ:Type}(M:Ii σ)(g:Ae)(st:σ)(ls:List AO):σ × AO:=match ls with
  | [w,a,b]=>if w=LF/\BA g (AV a)=true/\0<=AV b then ((M.set st (AV a).toNat (AV b)).1,Cj (M.set st (AV a).toNat (AV b)).2) else (st,Eh)
  | [w,a]=>if w=JK/\0<=AV a/\AV a<(g.length:Int) then ((M.get st (AV a).toNat).1,Cj (M.get st (AV a).toNat).2) else (st,Eh)
  | _=>(st,Eh)
theorem JY (c:UInt8):∀ l:AO,((AC c l).map List.length).sum+(AC c l).length=l.length+1
 | []=>rfl
 | b :: r=>by
  have ih:=JY c r;by_cases h:b=c
  ·rw[AC,if_pos h];simp only[List.map_cons,List.sum_cons,List.length_cons,List.length_nil];omega
  ·cases hr:AC c r with
   | nil=>exact absurd hr (CC c r)
   | cons p t =>
    rw[FU h hr];rw[hr] at ih;simp only[List.map_cons,List.sum_cons,List.length_cons] at ih ⊢;omega
theorem SK {l:List AO}{p:AO}(h:p ∈ l):p.length<=(l.map List.length).sum:=by
 induction l with
 | nil=>cases h
 | cons q t ih =>
  rw[List.map_cons,List.sum_cons];rcases List.mem_cons.1 h with rfl | h
  ·omega
  ·have:=ih h;omega
theorem PT {σ:Type}(M:Ii σ)(g:Ae)(st:σ){line:AO}(h:line=Ds):CZ M g st line=(st,Cj (M.vals st)):=by
 unfold CZ;rw[if_pos h]
theorem RC {σ:Type}(M:Ii σ)(g:Ae)(st:σ){line:AO}(h0:¬ line=Ds)(h:line=Gf):CZ M g st line=(st,Cj (M.stale st)):=by
 unfold CZ;rw[if_neg h0,if_pos h]
theorem RD {σ:Type}(M:Ii σ)(g:Ae)(st:σ){line:AO}(h0:¬ line=Ds)(h:¬ line=Gf):CZ M g st line=RB M g st (AC 32 line):=by
 unfold CZ RB;rw[if_neg h0,if_neg h];rfl
theorem OE {σ:Type}(M:Ii σ)(g:Ae)(st:σ){w:AO}{ls:List AO}(h1:¬ (w=LF/\ls.length=2))(h2:¬ (w=JK/\ls.length=1)):RB M g st (w :: ls)=(st,Eh):=by
 unfold RB;match ls with
 | []=>rfl
 | [x]=>exact if_neg fun h=>h2 ⟨h.1,rfl⟩
 | [x,y]=>exact if_neg fun h=>h1 ⟨h.1,rfl⟩
 | _ :: _ :: _ :: _=>rfl
end Sg
namespace Go.Proofs.YthibllkleakiiaaGreatDoor
open Go.RowKit
theorem Vn (A:Option Addr)(c n:Nat)(l:List Int)(w:World)(hn:l.length=n)(h:Rd w 1 A n (Ah l))(hs:Sg.DW l) :
  Calls Tryz.prog 34 #[.slice A n c] w fun e w'=>e= .returned (.string (ts (Sg.Cj l)))/\Aa w w':=by
 subst hn;exact Ip A c l w h hs
theorem Rd.atK {w:World}{b o n:Nat}{ls:List Sg.AO}(h:Rd w 1 (some ⟨b,o,none⟩) n (Bh (ls.map ts))){k:Nat}{y:Sg.AO}(hk:ls[k]? = some y):w.cell? ⟨b,o+k,none⟩=some (.string (ts y)):=by
 have hl:=h.lenT;have h1:=(ge_.1 hk).1;rw[List.length_map] at hl;obtain⟨b',o',s',e,hs,hc⟩:=h.atT (show k<n by omega);injection e with e;injection e with e1 e2;subst e1;subst e2;rw[List.getElem?_map,hk] at hs;injection hs with hs;rw[hs];exact hc
theorem Ai.drop {B:Nat}{W:World}:∀ (k:Nat) {ts:List (Th B)},Ai ts W->Ai (ts.drop k) W
 | 0,_,h=>h
 | _+1,[],h=>h
 | k+1,_ :: _,h=>Ai.drop k h.2.2
theorem Au.someK {w:World}{B e n c:Nat}{A:Option Addr}{l:List Int}(h:Au w B e 1 A n c (Ah l))(h0:0<n):∃ gb,A=some ⟨gb,0,none⟩:=by
 obtain⟨gb,e1,_⟩:=h.at_ (by omega);exact⟨gb,e1⟩
theorem LT (v:World)(B:Nat)(x:Int)(hB:B<=v.heap.size):Au (v.alloc (.cells #[.int .i64 x] 3)) B 3 1 (some ⟨v.heap.size,0,none⟩) 1 1 (Ah [x]):=by
 have:=Au.new v (B:=B) 3 1 #[.int .i64 x] 1 hB (by unfold maxLen;omega) rfl;simpa[Ah] using this
theorem Tg {B:Nat}{ts:List (Th B)}{v:World}(h:Ai ts v)(hB:B<=v.heap.size)(x:Int):Ai (Th.own B 3 1 (some ⟨v.heap.size,0,none⟩) 1 1 (Ah [x]) :: ts) (v.alloc (.cells #[.int .i64 x] 3)) :=
 Ai.add h (xr.al _) _ (LT v B x hB) (fun b e=>by have e2:some v.heap.size=some b:=e;injection e2;omega)
theorem Ww {B:Nat}{ts:List (Th B)}{v:World}(h:Ai ts v)(hB:B<=v.heap.size)(x y:Int) :
  Ai (Th.own B 3 1 (some ⟨v.heap.size+1,0,none⟩) 1 1 (Ah [y]) :: Th.own B 3 1 (some ⟨v.heap.size,0,none⟩) 1 1 (Ah [x]) :: ts) ((v.alloc (.cells #[.int .i64 x] 3)).alloc (.cells #[.int .i64 y] 3)):=by
 have:=Tg (Tg h hB x) (by simp;omega) y;simpa using this
theorem Ai.cut {B:Nat}{W:World}(a b:Th B)(X Z:List (Th B))(h:Ai (a :: b :: (X++Z)) W):Ai (a :: b :: Z) W:=Ai.sub h (List.Sublist.cons_cons _ (List.Sublist.cons_cons _ (List.sublist_append_right X Z)))
theorem Ai.getK {B:Nat}{W:World}(b:Th B)(N X:List (Th B))(u v:Th B)(O Z:List (Th B))(h:Ai (b :: (N++(X++(u :: v :: (O++Z))))) W):Ai (u :: v :: (N++Z)) W :=
 Ai.mid N [u,v] Z (Ai.sub h.2.2 (List.Sublist.append_left ((List.Sublist.cons_cons _ (List.Sublist.cons_cons _ (List.sublist_append_right O Z))).trans (List.sublist_append_right X _)) N))
theorem zc0{p:Prop}(h:p:=by
 refine zh (hK.out _ _) (⟨(Bd SS.out 4 rfl).1,(Bd SS.out 4 rfl).2.1,(BI SS.out 3 rfl).1,(BI SS.out 3 rfl).2.1,(BI SS.out 3 rfl).2.2.1⟩) fun hHeld=>?_;clear hK K;try simp only[Act.put,pu]
 refine zr 3 rfl fun K hK=>?_;obtain⟨r0,r1,r2,f0,f1,f2,l9⟩:=BI SS.out 1 rfl;go_simp;have SS:=lh (JQ SS.out 1 rfl (.slice Zv g.length kv) (.slice Az g.length kr) (.slice Zq g.length kq));have E0:=lh (JR E0.out LB9 (.slice Zv g.length kv) (.slice Az g.length kr) (.slice Zq g.length kq));clear r0 r1 r2 f0 f1 f2 l9;try simp only[pg]
 refine zh (hK.out _ _) (⟨(Bd SS.out 4 rfl).1,(Bd SS.out 4 rfl).2.1,(BI SS.out 3 rfl).1,(BI SS.out 3 rfl).2.1,(BI SS.out 3 rfl).2.2.1⟩) fun hHeld=>?_;clear hK K;try simp only[Act.put,pu]
 refine zr 4 rfl fun K hK=>?_;go_simp;refine hK.out _ _ (fun e=>absurd rfl e) (fun hh=>?_);clear hK K hHeld hh;try simp only[Act.put,pu]
 refine zn ?_;obtain⟨r80,r81,-⟩:=Bd SS.out 2 rfl;obtain⟨r90,r91,r92,-⟩:=BI SS.out 1 rfl;go_wp2_with fail
 (try simp only[Exit.inBlock,Exit.then])
 refine bodyPost_ret (v := .tuple #[.agg #[.slice Av g.length cv,.slice Ar g.length cr],.agg #[.slice Zv g.length kv,.slice Az g.length kr,.slice Zq g.length kq],.string (⟨#[119,104,97,116]⟩)]) (by simp[results,Tryz.results15,go_sem,r80,r81,r90,r91,r92];try rfl) rfl ?_;exact⟨Zv,kv,Az,kr,Zq,kq,hs,hz,by rw[HR.out];try rfl,E0.out,by rw[HR.out];exact Ai.drop 6 SS.out⟩):p:=h
theorem zd0{p:Prop}(h:p:=by
 have E0:=lh (EE.out.tr xd);have SS:=lh (Ai.ext SS.out xd);clear EE;refine zb 4 (fun W=>W.cell? ⟨b5,0,none⟩=some (.slice Av g.length cv)/\W.cell? ⟨b5,1,none⟩=some (.slice Ar g.length cr)/\W.cell? ⟨b6,0,none⟩=some (.slice Zv g.length kv)/\W.cell? ⟨b6,1,none⟩=some (.slice Az g.length kr)/\W.cell? ⟨b6,2,none⟩=some (.slice Zq g.length kq)) ?_ (fun hHeld=>?_)
 ·exact⟨(Bd SS.out 4 rfl).1,(Bd SS.out 4 rfl).2.1,(BI SS.out 3 rfl).1,(BI SS.out 3 rfl).2.1,(BI SS.out 3 rfl).2.2.1⟩
 generalize World.drew w2=vD at *;refine zy 0 ?_;refine zy 1 ?_;refine zr 2 rfl fun K hK=>?_;obtain⟨r0,r1,f0,f1,l9⟩:=Bd SS.out 2 rfl;go_simp;have SS:=lh (LM SS.out 2 rfl (.slice Av g.length cv) (.slice Ar g.length cr));have E0:=lh (LN E0.out LB8 (.slice Av g.length cv) (.slice Ar g.length cr));clear r0 r1 f0 f1 l9;try simp only[pg]
 exact zc0):p:=h
theorem ze0{p:Prop}(h:p:=by
 have E0:=lh (EE.out.tr xd);have SS:=lh (Ai.ext SS.out xd);clear EE;refine zb 4 (fun W=>W.cell? ⟨b5,0,none⟩=some (.slice Av g.length cv)/\W.cell? ⟨b5,1,none⟩=some (.slice Ar g.length cr)/\W.cell? ⟨b6,0,none⟩=some (.slice Zv g.length kv)/\W.cell? ⟨b6,1,none⟩=some (.slice Az g.length kr)/\W.cell? ⟨b6,2,none⟩=some (.slice Zq g.length kq)) ?_ (fun hHeld=>?_)
 ·exact⟨(Bd SS.out 4 rfl).1,(Bd SS.out 4 rfl).2.1,(BI SS.out 3 rfl).1,(BI SS.out 3 rfl).2.1,(BI SS.out 3 rfl).2.2.1⟩
 generalize World.drew v1=vD at *;refine zy 0 ?_;refine zy 1 ?_;refine zr 2 rfl fun K hK=>?_;obtain⟨r0,r1,f0,f1,l9⟩:=Bd SS.out 2 rfl;go_simp;have SS:=lh (LM SS.out 2 rfl (.slice Av g.length cv) (.slice Ar g.length cr));have E0:=lh (LN E0.out LB8 (.slice Av g.length cv) (.slice Ar g.length cr));clear r0 r1 f0 f1 l9;try simp only[pg]
 exact zc0):p:=h
set_option maxRecDepth 100000 in
set_option maxHeartbeats 8000000 in
theorem Vl (a:World)(A Av Ar Zv Az Zq:Option Addr)(c cv cr kv kr kq:Nat)(g:Sg.Ae)(st:Sg.BZ × Sg.BC)(s:ByteArray)(hs hz:List (Option Addr × Nat))(rs:List (Th a.heap.size))(w:World)(ha:Eg a A g)(hE:Aa a w)(hD:Sg.DV g st)(hsz:s.size<=1048576)(hS:Ai (Pu a.heap.size Av cv Ar cr Zv kv Az kr Zq kq g.length hs hz st++rs) w) :
  Calls Tryz.prog 15 #[.agg #[.slice A g.length c],.agg #[.slice Av g.length cv,.slice Ar g.length cr],.agg #[.slice Zv g.length kv,.slice Az g.length kr,.slice Zq g.length kq],.string s] w fun e w'=>∃ Zv' kv' Az' kr' Zq' kq' hs' hz',e= .returned (.tuple #[.agg #[.slice Av g.length cv,.slice Ar g.length cr],.agg #[.slice Zv' g.length kv',.slice Az' g.length kr',.slice Zq' g.length kq'],.string (ts (Sg.CZ (Sg.BJ g) g st (tx s)).2)])/\Aa a w' /\
   Ai (Pu a.heap.size Av cv Ar cr Zv' kv' Az' kr' Zq' kq' g.length hs' hz' (Sg.CZ (Sg.BJ g) g st (tx s)).1++rs) w':=by
 obtain⟨R,hR⟩:∃ R,R=Sg.CZ (Sg.BJ g) g st (tx s):=⟨_,rfl⟩;have HV1:=lh (show tx s=Sg.Ds->R=(st,Sg.Cj st.1.vals) from fun h=>hR.trans (Sg.PT _ _ _ h));have HV2:=lh (show ¬ tx s=Sg.Ds->tx s=Sg.Gf->R=(st,Sg.Cj (Sg.BP g st.2)) from fun h0 h=>hR.trans (Sg.RC _ _ _ h0 h));have HV3:=lh (show ¬ tx s=Sg.Ds->¬ tx s=Sg.Gf->R=Sg.RB (Sg.BJ g) g st (Sg.AC 32 (tx s)) from fun h0 h=>hR.trans (Sg.RD _ _ _ h0 h));rw[<- hR];clear hR;obtain⟨hG,hvl,hrl,hvr,-⟩:=Sg.Bb hD.e;obtain⟨-,hzv,hzr,hzq,-⟩:=Sg.AN hD.l;have h10:g.length<=10:=hD.g10;have HVL:=lh hvl;have HZR:=lh hzr;have HZL:=lh (show ∀ l ∈ st.2.reads,l.length<=1048576 from fun l hl=>Nat.le_trans (ES hD.l l hl) (by omega));have HSV:=lh (show Sg.DW st.1.vals from hD.vals);have HSS:=lh (show Sg.DW (Sg.BP g st.2) from hD.stale);have HA:=lh ha;have HD:=lh hD;have lB:a.heap.size<=w.heap.size:=hE.size;have S1:=Ai.add hS (xr.al (.cells #[.slice A g.length c] 35)) (Th.box a.heap.size (w.heap.size) [.slice A g.length c]) ⟨by have:=Bx.new (w) #[.slice A g.length c] 35;simpa[go_sem] using this,by omega⟩ (fun b e=>by have e2:b=w.heap.size:=e;simp[go_sem];omega);have S2:=Ai.add S1 (xr.al (.cells #[.slice Av g.length cv,.slice Ar g.length cr] 41)) (Th.box a.heap.size (w.heap.size+1) [.slice Av g.length cv,.slice Ar g.length cr]) ⟨by have:=Bx.new (World.alloc (w) (.cells #[.slice A g.length c] 35)) #[.slice Av g.length cv,.slice Ar g.length cr] 41;simpa[go_sem] using this,by omega⟩ (fun b e=>by have e2:b=w.heap.size+1:=e;simp[go_sem];omega);have S3:=Ai.add S2 (xr.al (.cells #[.slice Zv g.length kv,.slice Az g.length kr,.slice Zq g.length kq] 44)) (Th.box a.heap.size (w.heap.size+1+1) [.slice Zv g.length kv,.slice Az g.length kr,.slice Zq g.length kq]) ⟨by have:=Bx.new (World.alloc (World.alloc (w) (.cells #[.slice A g.length c] 35)) (.cells #[.slice Av g.length cv,.slice Ar g.length cr] 41)) #[.slice Zv g.length kv,.slice Az g.length kr,.slice Zq g.length kq] 44;simpa[go_sem] using this,by omega⟩ (fun b e=>by have e2:b=w.heap.size+1+1:=e;simp[go_sem];omega);have S4:=Ai.add S3 (xr.al (.cells #[.slice none 0 0,.slice none 0 0] 41)) (Th.box a.heap.size (w.heap.size+1+1+1) [.slice none 0 0,.slice none 0 0]) ⟨by have:=Bx.new (World.alloc (World.alloc (World.alloc (w) (.cells #[.slice A g.length c] 35)) (.cells #[.slice Av g.length cv,.slice Ar g.length cr] 41)) (.cells #[.slice Zv g.length kv,.slice Az g.length kr,.slice Zq g.length kq] 44)) #[.slice none 0 0,.slice none 0 0] 41;simpa[go_sem] using this,by omega⟩ (fun b e=>by have e2:b=w.heap.size+1+1+1:=e;simp[go_sem];omega);have S5:=Ai.add S4 (xr.al (.cells #[.slice none 0 0,.slice none 0 0,.slice none 0 0] 44)) (Th.box a.heap.size (w.heap.size+1+1+1+1) [.slice none 0 0,.slice none 0 0,.slice none 0 0]) ⟨by have:=Bx.new (World.alloc (World.alloc (World.alloc (World.alloc (w) (.cells #[.slice A g.length c] 35)) (.cells #[.slice Av g.length cv,.slice Ar g.length cr] 41)) (.cells #[.slice Zv g.length kv,.slice Az g.length kr,.slice Zq g.length kq] 44)) (.cells #[.slice none 0 0,.slice none 0 0] 41)) #[.slice none 0 0,.slice none 0 0,.slice none 0 0] 44;simpa[go_sem] using this,by omega⟩ (fun b e=>by have e2:b=w.heap.size+1+1+1+1:=e;simp[go_sem];omega)
 have E0:=lh (show Aa a (World.alloc (World.alloc (World.alloc (World.alloc (World.alloc (w) (.cells #[.slice A g.length c] 35)) (.cells #[.slice Av g.length cv,.slice Ar g.length cr] 41)) (.cells #[.slice Zv g.length kv,.slice Az g.length kr,.slice Zq g.length kq] 44)) (.cells #[.slice none 0 0,.slice none 0 0] 41)) (.cells #[.slice none 0 0,.slice none 0 0,.slice none 0 0] 44)) from (((((hE.al (.cells #[.slice A g.length c] 35)).al (.cells #[.slice Av g.length cv,.slice Ar g.length cr] 41)).al (.cells #[.slice Zv g.length kv,.slice Az g.length kr,.slice Zq g.length kq] 44)).al (.cells #[.slice none 0 0,.slice none 0 0] 41)).al (.cells #[.slice none 0 0,.slice none 0 0,.slice none 0 0] 44)));have S6:=lh S5;have LB4:=lB;have LB5:a.heap.size<=w.heap.size+1:=by omega
 have LB6:a.heap.size<=w.heap.size+1+1:=by omega
 have LB8:a.heap.size<=w.heap.size+1+1+1:=by omega
 have LB9:a.heap.size<=w.heap.size+1+1+1+1:=by omega
 have HSP:=lh fun w'=>K1 s 32 w' (by omega);have hsum:=Sg.JY 32 (tx s);rw[<- DU] at hsum;have HWL:=lh (show ∀ p ∈ Sg.AC 32 (tx s),p.length<=1048576 from fun p hp=>by have:=Sg.SK hp;have:=List.length_pos_iff.2 (Sg.CC 32 (tx s));omega);have hn1:(Sg.AC 32 (tx s)).length<=1048577:=by omega
 obtain⟨y0,ys,hy⟩:∃ y0 ys,Sg.AC 32 (tx s)=y0 :: ys:=by
  cases h:Sg.AC 32 (tx s) with
  | nil=>exact absurd h (Sg.CC _ _)
  | cons a t=>exact⟨a,t,rfl⟩
 rw[hy] at HV3 HWL hn1 HSP;clear S1 S2 S3 S4 S5 hsum hS ha hE hD hy hvl hrl hvr hzv hzr hzq hG;go_enter Tryz.func15,Tryz.ntmps15;go_wp2_with fail
 refine(HSP.out _).mono ?_;rintro e w2 ⟨A7,c7,rfl,he2,ho2⟩;obtain⟨n,hnn⟩:∃ n,n=(y0 :: ys).length:=⟨_,rfl⟩;have HNN:=lh hnn;rw[<- hnn] at hn1 ho2;rw[<- hnn];have SS:=lh (Ai.add S6.out he2 (Th.own a.heap.size 9 1 A7 n c7 (Bh ((y0 :: ys).map ts))) (ho2.mono E0.out.size) (fun b hb=>(ho2.lt hb).1));have EE:=lh (E0.out.tr he2);clear hnn he2 ho2 S6 E0 HSP lB;generalize w.heap.size+1+1+1+1=b9 at *;generalize w.heap.size+1+1+1=b8 at *;generalize w.heap.size+1+1=b6 at *;generalize w.heap.size+1=b5 at *;generalize w.heap.size=b4 at *;by_cases h1:tx s=Sg.Ds
 ·have b1:(s.toList == [118,97,108,117,101,115])=true:=by rw[C_];exact decide_eq_true h1
  have HR:=lh (HV1.out h1);clear h1 HV1 HV2 HV3;go_wp2_with fail
  have E0:=lh (EE.out.tr xd);have SS:=lh (Ai.ext SS.out xd);clear EE;refine zb 7 (fun W=>W.cell? ⟨b5,0,none⟩=some (.slice Av g.length cv)/\W.cell? ⟨b5,1,none⟩=some (.slice Ar g.length cr)/\W.cell? ⟨b6,0,none⟩=some (.slice Zv g.length kv)/\W.cell? ⟨b6,1,none⟩=some (.slice Az g.length kr)/\W.cell? ⟨b6,2,none⟩=some (.slice Zq g.length kq)) ?_ (fun hHeld=>?_)
  ·exact⟨(Bd SS.out 4 rfl).1,(Bd SS.out 4 rfl).2.1,(BI SS.out 3 rfl).1,(BI SS.out 3 rfl).2.1,(BI SS.out 3 rfl).2.2.1⟩
  refine zy 0 ?_;refine zy 1 ?_;refine zy 2 ?_;refine zy 3 ?_;refine zr 4 rfl fun K hK=>?_;go_simp;refine(Vn Av cv g.length st.1.vals _ HVL.out ((Ai.get SS.out 6 rfl:Au _ _ _ _ _ _ _ _).rd) HSV.out).mono ?_;rintro e v1 ⟨rfl,he1⟩;have E1:=lh (E0.out.tr he1);have SS:=lh (Ai.ext SS.out he1);clear he1;try go_wp2_with fail
  refine zh (hK.out _ _) (⟨(Bd SS.out 4 rfl).1,(Bd SS.out 4 rfl).2.1,(BI SS.out 3 rfl).1,(BI SS.out 3 rfl).2.1,(BI SS.out 3 rfl).2.2.1⟩) fun hHeld=>?_;clear hK K;try simp only[Act.put,pu]
  refine zr 5 rfl fun K hK=>?_;obtain⟨r0,r1,f0,f1,l9⟩:=Bd SS.out 2 rfl;go_simp;have SS:=lh (LM SS.out 2 rfl (.slice Av g.length cv) (.slice Ar g.length cr));have E1:=lh (LN E1.out LB8 (.slice Av g.length cv) (.slice Ar g.length cr));clear r0 r1 f0 f1 l9;try simp only[pg]
  refine zh (hK.out _ _) (⟨(Bd SS.out 4 rfl).1,(Bd SS.out 4 rfl).2.1,(BI SS.out 3 rfl).1,(BI SS.out 3 rfl).2.1,(BI SS.out 3 rfl).2.2.1⟩) fun hHeld=>?_;clear hK K;try simp only[Act.put,pu]
  refine zr 6 rfl fun K hK=>?_;obtain⟨r0,r1,r2,f0,f1,f2,l9⟩:=BI SS.out 1 rfl;go_simp;have SS:=lh (JQ SS.out 1 rfl (.slice Zv g.length kv) (.slice Az g.length kr) (.slice Zq g.length kq));have E1:=lh (JR E1.out LB9 (.slice Zv g.length kv) (.slice Az g.length kr) (.slice Zq g.length kq));clear r0 r1 r2 f0 f1 f2 l9;try simp only[pg]
  refine zh (hK.out _ _) (⟨(Bd SS.out 4 rfl).1,(Bd SS.out 4 rfl).2.1,(BI SS.out 3 rfl).1,(BI SS.out 3 rfl).2.1,(BI SS.out 3 rfl).2.2.1⟩) fun hHeld=>?_;clear hK K;try simp only[Act.put,pu]
  refine zr 7 rfl fun K hK=>?_;go_simp;refine hK.out _ _ (fun e=>absurd rfl e) (fun hh=>?_);clear hK K hHeld hh;try simp only[Act.put,pu]
  refine zn ?_;obtain⟨r80,r81,-⟩:=Bd SS.out 2 rfl;obtain⟨r90,r91,r92,-⟩:=BI SS.out 1 rfl;go_wp2_with fail
  (try simp only[Exit.inBlock,Exit.then])
  refine bodyPost_ret (v := .tuple #[.agg #[.slice Av g.length cv,.slice Ar g.length cr],.agg #[.slice Zv g.length kv,.slice Az g.length kr,.slice Zq g.length kq],.string (ts (Sg.Cj st.1.vals))]) (by simp[results,Tryz.results15,go_sem,r80,r81,r90,r91,r92];try rfl) rfl ?_;exact⟨Zv,kv,Az,kr,Zq,kq,hs,hz,by rw[HR.out];try rfl,E1.out,by rw[HR.out];exact Ai.drop 6 SS.out⟩
 have b1:(s.toList == [118,97,108,117,101,115])=false:=by rw[C_];exact decide_eq_false h1
 by_cases h2:tx s=Sg.Gf
 ·have b2:(s.toList == [115,116,97,108,101])=true:=by rw[C_];exact decide_eq_true h2
  have HR:=lh (HV2.out h1 h2);clear h1 h2 HV1 HV2 HV3;go_wp2_with fail
  have E0:=lh (EE.out.tr xd);have SS:=lh (Ai.ext SS.out xd);clear EE;refine zb 8 (fun W=>W.cell? ⟨b4,0,none⟩=some (.slice A g.length c)/\W.cell? ⟨b5,0,none⟩=some (.slice Av g.length cv)/\W.cell? ⟨b5,1,none⟩=some (.slice Ar g.length cr)/\W.cell? ⟨b6,0,none⟩=some (.slice Zv g.length kv)/\W.cell? ⟨b6,1,none⟩=some (.slice Az g.length kr)/\W.cell? ⟨b6,2,none⟩=some (.slice Zq g.length kq)) ?_ (fun hHeld=>?_)
  ·exact⟨(Gd SS.out 5 rfl).1,(Bd SS.out 4 rfl).1,(Bd SS.out 4 rfl).2.1,(BI SS.out 3 rfl).1,(BI SS.out 3 rfl).2.1,(BI SS.out 3 rfl).2.2.1⟩
  refine zy 0 ?_;refine zy 1 ?_;refine zy 2 ?_;refine zy 3 ?_;refine zr 4 rfl fun K hK=>?_;go_simp;refine(Vo A Zv Az Zq c kv kr kq g st.2 _ (HA.out.ext E0.out) ((Ai.get SS.out 8 rfl:Au _ _ _ _ _ _ _ _).rd) (CG.rdLC (Ai.get SS.out 9 rfl:CG _ _ _ _ _ _) (by rw[HZR.out];omega) HZL.out) ((Ai.get SS.out 10 rfl:Au _ _ _ _ _ _ _ _).rd) HD.out.l).mono ?_;rintro e v1 ⟨A5,c5,rfl,ho5,he1⟩;have o5:=lh ho5;have E1:=lh (E0.out.tr he1);have SS:=lh (Ai.ext SS.out he1);clear he1 ho5;try go_wp2_with fail
  refine zh (hK.out _ _) (⟨(Gd SS.out 5 rfl).1,(Bd SS.out 4 rfl).1,(Bd SS.out 4 rfl).2.1,(BI SS.out 3 rfl).1,(BI SS.out 3 rfl).2.1,(BI SS.out 3 rfl).2.2.1⟩) fun hHeld=>?_;clear hK K;try simp only[Act.put,pu]
  refine zr 5 rfl fun K hK=>?_;go_simp;refine(Ip A5 c5 _ _ o5.out.rd HSS.out).mono ?_;rintro e v2 ⟨rfl,he2⟩;have o5:=lh (o5.out.ext he2);have E2:=lh (E1.out.tr he2);have SS:=lh (Ai.ext SS.out he2);clear he2;try go_wp2_with fail
  refine zh (hK.out _ _) (⟨(Gd SS.out 5 rfl).1,(Bd SS.out 4 rfl).1,(Bd SS.out 4 rfl).2.1,(BI SS.out 3 rfl).1,(BI SS.out 3 rfl).2.1,(BI SS.out 3 rfl).2.2.1⟩) fun hHeld=>?_;clear hK K;try simp only[Act.put,pu]
  refine zr 6 rfl fun K hK=>?_;obtain⟨r0,r1,f0,f1,l9⟩:=Bd SS.out 2 rfl;go_simp;have SS:=lh (LM SS.out 2 rfl (.slice Av g.length cv) (.slice Ar g.length cr));have E2:=lh (LN E2.out LB8 (.slice Av g.length cv) (.slice Ar g.length cr));clear r0 r1 f0 f1 l9;try simp only[pg]
  refine zh (hK.out _ _) (⟨(Gd SS.out 5 rfl).1,(Bd SS.out 4 rfl).1,(Bd SS.out 4 rfl).2.1,(BI SS.out 3 rfl).1,(BI SS.out 3 rfl).2.1,(BI SS.out 3 rfl).2.2.1⟩) fun hHeld=>?_;clear hK K;try simp only[Act.put,pu]
  refine zr 7 rfl fun K hK=>?_;obtain⟨r0,r1,r2,f0,f1,f2,l9⟩:=BI SS.out 1 rfl;go_simp;have SS:=lh (JQ SS.out 1 rfl (.slice Zv g.length kv) (.slice Az g.length kr) (.slice Zq g.length kq));have E2:=lh (JR E2.out LB9 (.slice Zv g.length kv) (.slice Az g.length kr) (.slice Zq g.length kq));clear r0 r1 r2 f0 f1 f2 l9;try simp only[pg]
  refine zh (hK.out _ _) (⟨(Gd SS.out 5 rfl).1,(Bd SS.out 4 rfl).1,(Bd SS.out 4 rfl).2.1,(BI SS.out 3 rfl).1,(BI SS.out 3 rfl).2.1,(BI SS.out 3 rfl).2.2.1⟩) fun hHeld=>?_;clear hK K;try simp only[Act.put,pu]
  refine zr 8 rfl fun K hK=>?_;go_simp;refine hK.out _ _ (fun e=>absurd rfl e) (fun hh=>?_);clear hK K hHeld hh;try simp only[Act.put,pu]
  refine zn ?_;obtain⟨r80,r81,-⟩:=Bd SS.out 2 rfl;obtain⟨r90,r91,r92,-⟩:=BI SS.out 1 rfl;go_wp2_with fail
  (try simp only[Exit.inBlock,Exit.then])
  refine bodyPost_ret (v := .tuple #[.agg #[.slice Av g.length cv,.slice Ar g.length cr],.agg #[.slice Zv g.length kv,.slice Az g.length kr,.slice Zq g.length kq],.string (ts (Sg.Cj (Sg.BP g st.2)))]) (by simp[results,Tryz.results15,go_sem,r80,r81,r90,r91,r92];try rfl) rfl ?_;exact⟨Zv,kv,Az,kr,Zq,kq,hs,hz,by rw[HR.out];try rfl,E2.out,by rw[HR.out];exact Ai.drop 6 SS.out⟩
 have b2:(s.toList == [115,116,97,108,101])=false:=by rw[C_];exact decide_eq_false h2
 have HR3:=lh (HV3.out h1 h2);clear h1 h2 HV1 HV2 HV3;have hn0:0<n:=by have:=HNN.out;simp only[List.length_cons] at this;omega
 obtain⟨bl,ol,-,hA7,-,-⟩:=((Ai.get SS.out 0 rfl:Au _ _ _ _ _ _ _ _).rd).atT hn0;subst hA7;have k0:w2.cell? ⟨bl,ol,none⟩=some (.string (ts y0)):=by have:=Rd.atK ((Ai.get SS.out 0 rfl:Au _ _ _ _ _ _ _ _).rd) (k:=0) (y:=y0) rfl;simpa using this
 have kb:=AA k0;have hn9:n<=1099511627776:=by omega
 by_cases hs1:y0=Sg.LF
 ·have b3:y0=[115,101,116]:=hs1;have hng:¬ y0=Sg.JK:=by rw[hs1];decide
  by_cases hn3:n=3
  ·obtain⟨y1,y2,rfl⟩:∃ y1 y2,ys=[y1,y2]:=by
    have:=HNN.out;rw[hn3] at this;match ys,this with
    | [y1,y2],_=>exact⟨y1,y2,rfl⟩
   subst hn3;have k1:w2.cell? ⟨bl,ol+1,none⟩=some (.string (ts y1)):=Rd.atK ((Ai.get SS.out 0 rfl:Au _ _ _ _ _ _ _ _).rd) (k:=1) (y:=y1) rfl;have k2:w2.cell? ⟨bl,ol+2,none⟩=some (.string (ts y2)):=Rd.atK ((Ai.get SS.out 0 rfl:Au _ _ _ _ _ _ _ _).rd) (k:=2) (y:=y2) rfl;have kb1:=AA k1;have kg:=(Gd SS.out 5 rfl).1;have kgb:=AA kg;have HN1:=lh fun w'=>D9 (ts y1) w' (by have:=HWL.out y1 (by simp);rw[BB];omega);have HN2:=lh fun w'=>D9 (ts y2) w' (by have:=HWL.out y2 (by simp);rw[BB];omega);rw[Fm] at HN1 HN2;have HR4:=lh (show R=if Sg.BA g (Sg.AV y1)=true/\0<=Sg.AV y2 then (((Sg.BJ g).set st (Sg.AV y1).toNat (Sg.AV y2)).1,Sg.Cj ((Sg.BJ g).set st (Sg.AV y1).toNat (Sg.AV y2)).2) else (st,Sg.Eh) from by rw[HR3.out];unfold Sg.RB;simp only[hs1,true_and]);have hq2:Sg.AV y2<=999:=by rcases Sg.FV y2 with e | ⟨m,e,hm⟩ <;> omega
   clear HR3 hs1 hng;generalize Sg.AV y1=q1 at *;generalize Sg.AV y2=q2 at *;go_wp2_with fail
   refine(HN1.out _).mono ?_;rintro e v1 ⟨rfl,rfl⟩;go_wp2_with fail
   refine(HN2.out _).mono ?_;rintro e v1 ⟨rfl,rfl⟩;go_wp2_with fail
   refine(Vd A c g q1 _ (HA.out.ext EE.out)).mono ?_;rintro e v1 ⟨rfl,he1⟩;have SS:=lh (Ai.ext SS.out he1);have EE:=lh (EE.out.tr he1);clear he1 k0 k1 k2 kb kb1 kg kgb HN1 HN2;by_cases hc:Sg.BA g q1=true
   ·by_cases hx:0<=q2
    ·obtain⟨k,rfl,hkl⟩:=Sg.KI hc;obtain⟨gz,rfl⟩:=(show Au _ _ _ 1 Zv _ _ (Ah st.2.vals) from Ai.get SS.out 8 rfl).someK (by omega);obtain⟨gq,rfl⟩:=(show Au _ _ _ 1 Zq _ _ (Ah st.2.cols) from Ai.get SS.out 10 rfl).someK (by omega);have HC:=lh hc;rw[hc];have HR:=lh (show R=(((Sg.Bi g st.1 [(k:Int)] [q2]).1,Sg.Ca st.2 k q2),Sg.Cj (Sg.Bi g st.1 [(k:Int)] [q2]).2) from by rw[HR4.out,if_pos ⟨hc,hx⟩];rfl);have HSR:=lh (show Sg.DW (Sg.Bi g st.1 [(k:Int)] [q2]).2 from HD.out.ran hc ⟨hx,hq2⟩);clear hc HR4;have kg:=(Gd SS.out 5 rfl).1;have kgb:=AA kg;have ke:=(Bd SS.out 4 rfl).1;have ke1:=(Bd SS.out 4 rfl).2.1;have keb:=AA ke;go_wp2_with fail
     have SN:=lh (Ww SS.out EE.out.size (k:Int) q2);have EN:=lh ((EE.out.al (.cells #[.int .i64 (k:Int)] 3)).al (.cells #[.int .i64 q2] 3));refine(XF a A Av Ar (some ⟨v1.heap.size,0,none⟩) (some ⟨v1.heap.size+1,0,none⟩) c cv cr 1 1 k q2 g st.1 hs ([Th.own a.heap.size 3 1 (some ⟨v1.heap.size+1,0,none⟩) 1 1 (Ah [q2]),Th.own a.heap.size 3 1 (some ⟨v1.heap.size,0,none⟩) 1 1 (Ah [(k:Int)]),Th.own a.heap.size 9 1 (some ⟨bl,ol,none⟩) 3 c7 (Bh ([y0,y1,y2].map ts)),Th.box a.heap.size b9 [.slice none 0 0,.slice none 0 0,.slice none 0 0],Th.box a.heap.size b8 [.slice none 0 0,.slice none 0 0],Th.box a.heap.size b6 [.slice (some ⟨gz,0,none⟩) g.length kv,.slice Az g.length kr,.slice (some ⟨gq,0,none⟩) g.length kq],Th.box a.heap.size b5 [.slice Av g.length cv,.slice Ar g.length cr],Th.box a.heap.size b4 [.slice A g.length c]]++(In a.heap.size (some ⟨gz,0,none⟩) kv Az kr (some ⟨gq,0,none⟩) kq g.length hz st.2++rs)) _ HA.out EN.out (fun W' q=>(Ai.get q 1 rfl:Au _ _ _ _ _ _ _ _).rd) (fun W' q=>(Ai.get q 0 rfl:Au _ _ _ _ _ _ _ _).rd) (fun b hb=>⟨_,List.mem_of_getElem? (i:=1) rfl,hb⟩) (fun b hb=>⟨_,List.mem_of_getElem? (i:=0) rfl,hb⟩) (Ai.mid ([Th.own a.heap.size 3 1 (some ⟨v1.heap.size+1,0,none⟩) 1 1 (Ah [q2]),Th.own a.heap.size 3 1 (some ⟨v1.heap.size,0,none⟩) 1 1 (Ah [(k:Int)]),Th.own a.heap.size 9 1 (some ⟨bl,ol,none⟩) 3 c7 (Bh ([y0,y1,y2].map ts)),Th.box a.heap.size b9 [.slice none 0 0,.slice none 0 0,.slice none 0 0],Th.box a.heap.size b8 [.slice none 0 0,.slice none 0 0],Th.box a.heap.size b6 [.slice (some ⟨gz,0,none⟩) g.length kv,.slice Az g.length kr,.slice (some ⟨gq,0,none⟩) g.length kq],Th.box a.heap.size b5 [.slice Av g.length cv,.slice Ar g.length cr],Th.box a.heap.size b4 [.slice A g.length c]]) ([Th.own a.heap.size 3 1 Av g.length cv (Ah st.1.vals),Th.ownL a.heap.size Ar cr st.1.reads hs]) (In a.heap.size (some ⟨gz,0,none⟩) kv Az kr (some ⟨gq,0,none⟩) kq g.length hz st.2++rs) SN.out) HD.out.e HC.out ⟨hx,hq2⟩).mono ?_;rintro e v2 ⟨Ad,cd,hs',rfl,hE2,hS2⟩;have EE:=lh hE2;have SS:=lh hS2;clear hE2 hS2 SN EN kg kgb ke ke1 keb;generalize v1.heap.size+1=bn2 at *;generalize v1.heap.size=bn1 at *;have LB14:a.heap.size<=v2.heap.size:=EE.out.size;go_wp2_with fail
     have SS:=lh (Ai.add SS.out (xr.al (.cells #[.slice Av g.length cv,.slice Ar g.length cr] 41)) (Th.box a.heap.size v2.heap.size [.slice Av g.length cv,.slice Ar g.length cr]) ⟨Bx.new v2 #[.slice Av g.length cv,.slice Ar g.length cr] 41,LB14⟩ (fun b e=>by have e2:b=v2.heap.size:=e;omega));have EE:=lh (EE.out.al (.cells #[.slice Av g.length cv,.slice Ar g.length cr] 41));generalize v2.heap.size=b14 at *;have E0:=lh (EE.out.tr xd);have SS:=lh (Ai.ext SS.out xd);clear EE;refine zb 10 (fun W=>W.cell? ⟨b14,0,none⟩=some (.slice Av g.length cv)/\W.cell? ⟨b14,1,none⟩=some (.slice Ar g.length cr)/\W.cell? ⟨b6,0,none⟩=some (.slice (some ⟨gz,0,none⟩) g.length kv)/\W.cell? ⟨b6,1,none⟩=some (.slice Az g.length kr)/\W.cell? ⟨b6,2,none⟩=some (.slice (some ⟨gq,0,none⟩) g.length kq)/\W.cell? ⟨b4,0,none⟩=some (.slice A g.length c)) ?_ (fun hHeld=>?_)
     ·exact⟨(Bd SS.out 0 rfl).1,(Bd SS.out 0 rfl).2.1,(BI SS.out 9 rfl).1,(BI SS.out 9 rfl).2.1,(BI SS.out 9 rfl).2.2.1,(Gd SS.out 11 rfl).1⟩
     refine zy 0 ?_;refine zy 1 ?_;refine zy 2 ?_;refine zy 3 ?_;refine zy 4 ?_;refine zy 6 ?_;refine zr 5 rfl fun K hK=>?_;go_simp;refine(Vp a gz gq c kv kr kq k g.length q2 A Az st.2 hz ((Th.box a.heap.size b14 [.slice Av g.length cv,.slice Ar g.length cr] :: Th.own a.heap.size 3 1 Ad (Sg.Bi g st.1 [(k:Int)] [q2]).2.length cd (Ah (Sg.Bi g st.1 [(k:Int)] [q2]).2) :: Th.own a.heap.size 3 1 Av g.length cv (Ah (Sg.Bi g st.1 [(k:Int)] [q2]).1.vals) :: Th.ownL a.heap.size Ar cr (Sg.Bi g st.1 [(k:Int)] [q2]).1.reads hs' :: [Th.own a.heap.size 3 1 (some ⟨bn2,0,none⟩) 1 1 (Ah [q2]),Th.own a.heap.size 3 1 (some ⟨bn1,0,none⟩) 1 1 (Ah [(k:Int)]),Th.own a.heap.size 9 1 (some ⟨bl,ol,none⟩) 3 c7 (Bh ([y0,y1,y2].map ts)),Th.box a.heap.size b9 [.slice none 0 0,.slice none 0 0,.slice none 0 0],Th.box a.heap.size b8 [.slice none 0 0,.slice none 0 0],Th.box a.heap.size b6 [.slice (some ⟨gz,0,none⟩) g.length kv,.slice Az g.length kr,.slice (some ⟨gq,0,none⟩) g.length kq],Th.box a.heap.size b5 [.slice Av g.length cv,.slice Ar g.length cr],Th.box a.heap.size b4 [.slice A g.length c]])++rs) _ E0.out (Ai.mid (Th.box a.heap.size b14 [.slice Av g.length cv,.slice Ar g.length cr] :: Th.own a.heap.size 3 1 Ad (Sg.Bi g st.1 [(k:Int)] [q2]).2.length cd (Ah (Sg.Bi g st.1 [(k:Int)] [q2]).2) :: Th.own a.heap.size 3 1 Av g.length cv (Ah (Sg.Bi g st.1 [(k:Int)] [q2]).1.vals) :: Th.ownL a.heap.size Ar cr (Sg.Bi g st.1 [(k:Int)] [q2]).1.reads hs' :: [Th.own a.heap.size 3 1 (some ⟨bn2,0,none⟩) 1 1 (Ah [q2]),Th.own a.heap.size 3 1 (some ⟨bn1,0,none⟩) 1 1 (Ah [(k:Int)]),Th.own a.heap.size 9 1 (some ⟨bl,ol,none⟩) 3 c7 (Bh ([y0,y1,y2].map ts)),Th.box a.heap.size b9 [.slice none 0 0,.slice none 0 0,.slice none 0 0],Th.box a.heap.size b8 [.slice none 0 0,.slice none 0 0],Th.box a.heap.size b6 [.slice (some ⟨gz,0,none⟩) g.length kv,.slice Az g.length kr,.slice (some ⟨gq,0,none⟩) g.length kq],Th.box a.heap.size b5 [.slice Av g.length cv,.slice Ar g.length cr],Th.box a.heap.size b4 [.slice A g.length c]]) (In a.heap.size (some ⟨gz,0,none⟩) kv Az kr (some ⟨gq,0,none⟩) kq g.length hz st.2) rs SS.out) (Sg.C7 HD.out.l) (Sg.AN HD.out.l).2.1 HZR.out (Sg.AN HD.out.l).2.2.2.1 hkl (by omega) HZL.out (Sg.Mr HD.out.l)).mono ?_;rintro e v11 ⟨rfl,he1,hS1⟩;have SS:=lh (Ai.mid (In a.heap.size (some ⟨gz,0,none⟩) kv Az kr (some ⟨gq,0,none⟩) kq g.length hz (Sg.Ca st.2 k q2)) (Th.box a.heap.size b14 [.slice Av g.length cv,.slice Ar g.length cr] :: Th.own a.heap.size 3 1 Ad (Sg.Bi g st.1 [(k:Int)] [q2]).2.length cd (Ah (Sg.Bi g st.1 [(k:Int)] [q2]).2) :: Th.own a.heap.size 3 1 Av g.length cv (Ah (Sg.Bi g st.1 [(k:Int)] [q2]).1.vals) :: Th.ownL a.heap.size Ar cr (Sg.Bi g st.1 [(k:Int)] [q2]).1.reads hs' :: [Th.own a.heap.size 3 1 (some ⟨bn2,0,none⟩) 1 1 (Ah [q2]),Th.own a.heap.size 3 1 (some ⟨bn1,0,none⟩) 1 1 (Ah [(k:Int)]),Th.own a.heap.size 9 1 (some ⟨bl,ol,none⟩) 3 c7 (Bh ([y0,y1,y2].map ts)),Th.box a.heap.size b9 [.slice none 0 0,.slice none 0 0,.slice none 0 0],Th.box a.heap.size b8 [.slice none 0 0,.slice none 0 0],Th.box a.heap.size b6 [.slice (some ⟨gz,0,none⟩) g.length kv,.slice Az g.length kr,.slice (some ⟨gq,0,none⟩) g.length kq],Th.box a.heap.size b5 [.slice Av g.length cv,.slice Ar g.length cr],Th.box a.heap.size b4 [.slice A g.length c]]) rs hS1);have E1:=lh he1;clear he1 hS1;try go_wp2_with fail
     refine zh (hK.out _ _) (⟨(Bd SS.out 0 rfl).1,(Bd SS.out 0 rfl).2.1,(BI SS.out 9 rfl).1,(BI SS.out 9 rfl).2.1,(BI SS.out 9 rfl).2.2.1,(Gd SS.out 11 rfl).1⟩) fun hHeld=>?_;clear hK K;try simp only[Act.put,pu]
     refine zr 7 rfl fun K hK=>?_;go_simp;refine(Ip Ad cd _ _ ((Ai.get SS.out 1 rfl:Au _ _ _ _ _ _ _ _).rd) HSR.out).mono ?_;rintro e v12 ⟨rfl,he2⟩;have E2:=lh (E1.out.tr he2);have SS:=lh (Ai.ext SS.out he2);clear he2;try go_wp2_with fail
     refine zh (hK.out _ _) (⟨(Bd SS.out 0 rfl).1,(Bd SS.out 0 rfl).2.1,(BI SS.out 9 rfl).1,(BI SS.out 9 rfl).2.1,(BI SS.out 9 rfl).2.2.1,(Gd SS.out 11 rfl).1⟩) fun hHeld=>?_;clear hK K;try simp only[Act.put,pu]
     refine zr 8 rfl fun K hK=>?_;obtain⟨r0,r1,f0,f1,l9⟩:=Bd SS.out 8 rfl;go_simp;have SS:=lh (LM SS.out 8 rfl (.slice Av g.length cv) (.slice Ar g.length cr));have E2:=lh (LN E2.out LB8 (.slice Av g.length cv) (.slice Ar g.length cr));clear r0 r1 f0 f1 l9;try simp only[pg]
     refine zh (hK.out _ _) (⟨(Bd SS.out 0 rfl).1,(Bd SS.out 0 rfl).2.1,(BI SS.out 9 rfl).1,(BI SS.out 9 rfl).2.1,(BI SS.out 9 rfl).2.2.1,(Gd SS.out 11 rfl).1⟩) fun hHeld=>?_;clear hK K;try simp only[Act.put,pu]
     refine zr 9 rfl fun K hK=>?_;obtain⟨r0,r1,r2,f0,f1,f2,l9⟩:=BI SS.out 7 rfl;go_simp;have SS:=lh (JQ SS.out 7 rfl (.slice (some ⟨gz,0,none⟩) g.length kv) (.slice Az g.length kr) (.slice (some ⟨gq,0,none⟩) g.length kq));have E2:=lh (JR E2.out LB9 (.slice (some ⟨gz,0,none⟩) g.length kv) (.slice Az g.length kr) (.slice (some ⟨gq,0,none⟩) g.length kq));clear r0 r1 r2 f0 f1 f2 l9;try simp only[pg]
     refine zh (hK.out _ _) (⟨(Bd SS.out 0 rfl).1,(Bd SS.out 0 rfl).2.1,(BI SS.out 9 rfl).1,(BI SS.out 9 rfl).2.1,(BI SS.out 9 rfl).2.2.1,(Gd SS.out 11 rfl).1⟩) fun hHeld=>?_;clear hK K;try simp only[Act.put,pu]
     refine zr 10 rfl fun K hK=>?_;go_simp;refine hK.out _ _ (fun e=>absurd rfl e) (fun hh=>?_);clear hK K hHeld hh;try simp only[Act.put,pu]
     refine zn ?_;obtain⟨r80,r81,-⟩:=Bd SS.out 8 rfl;obtain⟨r90,r91,r92,-⟩:=BI SS.out 7 rfl;go_wp2_with fail
     (try simp only[Exit.inBlock,Exit.then])
     refine bodyPost_ret (v := .tuple #[.agg #[.slice Av g.length cv,.slice Ar g.length cr],.agg #[.slice (some ⟨gz,0,none⟩) g.length kv,.slice Az g.length kr,.slice (some ⟨gq,0,none⟩) g.length kq],.string (ts (Sg.Cj (Sg.Bi g st.1 [(k:Int)] [q2]).2))]) (by simp[results,Tryz.results15,go_sem,r80,r81,r90,r91,r92];try rfl) rfl ?_;exact⟨some ⟨gz,0,none⟩,kv,Az,kr,some ⟨gq,0,none⟩,kq,hs',hz,by rw[HR.out];try rfl,E2.out,by rw[HR.out];exact Ai.cut _ _ [_,_,_,_,_,_,_,_] (In a.heap.size (some ⟨gz,0,none⟩) kv Az kr (some ⟨gq,0,none⟩) kq g.length hz (Sg.Ca st.2 k q2)++rs) (Ai.drop 2 SS.out)⟩
    ·have HR:=lh (HR4.out.trans (if_neg fun h=>hx h.2));rw[hc];clear HR4;go_wp2_with fail
     exact ze0
   ·have HR:=lh (HR4.out.trans (if_neg fun h=>hc h.1));rw[Bool.not_eq_true] at hc;rw[hc];clear HR4;go_wp2_with fail
    exact ze0
  ·have hn3i:¬ (n:Int)=3:=by omega
   have HR:=lh (HR3.out.trans (Sg.OE _ _ _ (by intro h;have h2:=h.2;have:=HNN.out;simp only[List.length_cons] at this;omega) (by exact fun h=>hng h.1)));clear HR3;go_wp2_with fail
   exact zd0
 have b3:¬ y0=[115,101,116]:=hs1;by_cases hg1:y0=Sg.JK
 ·have b4g:y0=[103,101,116]:=hg1;by_cases hn2:n=2
  ·skip
   obtain⟨y1,rfl⟩:∃ y1,ys=[y1]:=by
    have:=HNN.out;rw[hn2] at this;match ys,this with
    | [y1],_=>exact⟨y1,rfl⟩
   subst hn2;have k1:w2.cell? ⟨bl,ol+1,none⟩=some (.string (ts y1)):=Rd.atK ((Ai.get SS.out 0 rfl:Au _ _ _ _ _ _ _ _).rd) (k:=1) (y:=y1) rfl;have kb1:=AA k1;have kg:=(Gd SS.out 5 rfl).1;have kgb:=AA kg;have HN1:=lh fun w'=>D9 (ts y1) w' (by have:=HWL.out y1 (by simp);rw[BB];omega);rw[Fm] at HN1;have HR4:=lh (show R=if 0<=Sg.AV y1/\Sg.AV y1<(g.length:Int) then (((Sg.BJ g).get st (Sg.AV y1).toNat).1,Sg.Cj ((Sg.BJ g).get st (Sg.AV y1).toNat).2) else (st,Sg.Eh) from by rw[HR3.out];unfold Sg.RB;simp only[hg1,true_and]);clear HR3 hg1 hs1;generalize Sg.AV y1=q1 at *;have wg:IntKind.i64.wrap ((g.length:Int) - 1)=(g.length:Int) - 1:=IntWalk.i64_in _ (by omega);go_wp2_with fail
   refine(HN1.out _).mono ?_;rintro e v1 ⟨rfl,rfl⟩;go_wp2_with fail
   refine(Cx q1 0 ((g.length:Int) - 1) _).mono ?_;rintro e v1 ⟨rfl,rfl⟩;clear HN1 k0 k1 kb kb1;by_cases hc:0<=q1/\q1<(g.length:Int)
   ·have hi:Sg.Cb q1 0 ((g.length:Int) - 1)=true:=by unfold Sg.Cb;simp;omega
    rw[hi];obtain⟨k,rfl⟩:=Int.eq_ofNat_of_zero_le hc.1;have hkl:k<g.length:=by omega
    have HR:=lh (show R=((st.1,(Sg.AS g st.2 (k:Int)).1),Sg.Cj ((Sg.AS g st.2 (k:Int)).2.1 :: (Sg.AS g st.2 (k:Int)).2.2)) from by rw[HR4.out,if_pos hc];rfl);have HSR:=lh (show Sg.DW ((Sg.AS g st.2 (k:Int)).2.1 :: (Sg.AS g st.2 (k:Int)).2.2) from HD.out.got hkl);clear hc hi HR4;have k60:=(BI SS.out 3 rfl).1;have k61:=(BI SS.out 3 rfl).2.1;have k62:=(BI SS.out 3 rfl).2.2.1;have k6b:=AA k60;go_wp2_with fail
    refine(XG A Zv Az Zq c kv kr kq k g st.2 _ (HA.out.ext EE.out) ((Ai.get SS.out 8 rfl:Au _ _ _ _ _ _ _ _).rd) (CG.rdLC (Ai.get SS.out 9 rfl:CG _ _ _ _ _ _) (by rw[HZR.out];omega) HZL.out) ((Ai.get SS.out 10 rfl:Au _ _ _ _ _ _ _ _).rd) HD.out.l hkl).mono ?_;rintro e v3 ⟨gy,ky,Ay,kyr,gx,kx,hy,A9,c9,rfl,hS3,hR9,he3⟩;have SS:=lh (Ai.addL SS.out he3 EE.out.size hS3);have EE:=lh (EE.out.tr he3);have HR9:=lh hR9;clear hS3 hR9 he3 kg kgb k60 k61 k62 k6b;have LB17:a.heap.size<=v3.heap.size:=EE.out.size;go_wp2_with fail
    have SS:=lh (Ai.add SS.out (xr.al (.cells #[.slice (some ⟨gy,0,none⟩) g.length ky,.slice Ay g.length kyr,.slice (some ⟨gx,0,none⟩) g.length kx] 44)) (Th.box a.heap.size v3.heap.size [.slice (some ⟨gy,0,none⟩) g.length ky,.slice Ay g.length kyr,.slice (some ⟨gx,0,none⟩) g.length kx]) ⟨Bx.new v3 #[.slice (some ⟨gy,0,none⟩) g.length ky,.slice Ay g.length kyr,.slice (some ⟨gx,0,none⟩) g.length kx] 44,LB17⟩ (fun b e=>by have e2:b=v3.heap.size:=e;omega));have EE:=lh (EE.out.al (.cells #[.slice (some ⟨gy,0,none⟩) g.length ky,.slice Ay g.length kyr,.slice (some ⟨gx,0,none⟩) g.length kx] 44));have HR9:=lh (HR9.out.ext ((Aa.rfl' v3).al (.cells #[.slice (some ⟨gy,0,none⟩) g.length ky,.slice Ay g.length kyr,.slice (some ⟨gx,0,none⟩) g.length kx] 44)));generalize v3.heap.size=b17 at *;generalize World.alloc v3 (.cells #[.slice (some ⟨gy,0,none⟩) g.length ky,.slice Ay g.length kyr,.slice (some ⟨gx,0,none⟩) g.length kx] 44)=v4 at *;generalize hgx:(Sg.AS g st.2 (k:Int)).2.1=gx1 at *;clear hgx;have HR9:=lh (HR9.out.ext xd);have E0:=lh (EE.out.tr xd);have SS:=lh (Ai.ext SS.out xd);clear EE;refine zb 9 (fun W=>W.cell? ⟨b5,0,none⟩=some (.slice Av g.length cv)/\W.cell? ⟨b5,1,none⟩=some (.slice Ar g.length cr)/\W.cell? ⟨b17,0,none⟩=some (.slice (some ⟨gy,0,none⟩) g.length ky)/\W.cell? ⟨b17,1,none⟩=some (.slice Ay g.length kyr)/\W.cell? ⟨b17,2,none⟩=some (.slice (some ⟨gx,0,none⟩) g.length kx)) ?_ (fun hHeld=>?_)
    ·exact⟨(Bd SS.out 8 rfl).1,(Bd SS.out 8 rfl).2.1,(BI SS.out 0 rfl).1,(BI SS.out 0 rfl).2.1,(BI SS.out 0 rfl).2.2.1⟩
    refine zy 0 ?_;refine zy 1 ?_;refine zy 2 ?_;refine zy 4 ?_;refine zr 3 rfl fun K hK=>?_;go_simp;have SU:=SS;have EU:=E0;have OW:=lh (LT (World.drew v4) _ gx1 (Nat.le_refl _));have SS:=lh (Ai.ext SS.out (xr.al (.cells #[.int .i64 gx1] 3)));have E0:=lh (E0.out.al (.cells #[.int .i64 gx1] 3));try simp only[pg]
    refine zh (hK.out _ _) (⟨(Bd SS.out 8 rfl).1,(Bd SS.out 8 rfl).2.1,(BI SS.out 0 rfl).1,(BI SS.out 0 rfl).2.1,(BI SS.out 0 rfl).2.2.1⟩) fun hHeld=>?_;clear hK K;try simp only[Act.put,pu]
    refine zr 5 rfl fun K hK=>?_;have hlr:=HSR.out.1;simp only[List.length_cons] at hlr;refine Og rfl rfl Bc rfl OW.out rfl (HR9.out.ext (xr.al _)) (En _) (by unfold maxLen;omega) (by omega) (by simp) ?_;intro A6 c6 v11 ho6 hg6 hat6;have EG:Aa (World.drew v4) v11:=Aa.gr ((Aa.rfl' (World.drew v4)).al (.cells #[.int .i64 gx1] 3)) hg6 (fun b hb=>(OW.out.lt hb).1);have SS:=lh (Ai.ext SU.out EG);have E1:=lh (EU.out.tr EG);have o6:=lh ho6.rd;clear EG ho6 hg6 hat6 SU EU OW HR9 hlr;try simp only[pg]
    refine zh (hK.out _ _) (⟨(Bd SS.out 8 rfl).1,(Bd SS.out 8 rfl).2.1,(BI SS.out 0 rfl).1,(BI SS.out 0 rfl).2.1,(BI SS.out 0 rfl).2.2.1⟩) fun hHeld=>?_;clear hK K;try simp only[Act.put,pu]
    refine zr 6 rfl fun K hK=>?_;go_simp;refine(Vn A6 c6 _ (gx1 :: (Sg.AS g st.2 (k:Int)).2.2) _ (by simp only[List.length_cons];omega) o6.out HSR.out).mono ?_;rintro e v12 ⟨rfl,he2⟩;have E2:=lh (E1.out.tr he2);have SS:=lh (Ai.ext SS.out he2);clear he2;try go_wp2_with fail
    refine zh (hK.out _ _) (⟨(Bd SS.out 8 rfl).1,(Bd SS.out 8 rfl).2.1,(BI SS.out 0 rfl).1,(BI SS.out 0 rfl).2.1,(BI SS.out 0 rfl).2.2.1⟩) fun hHeld=>?_;clear hK K;try simp only[Act.put,pu]
    refine zr 7 rfl fun K hK=>?_;obtain⟨r0,r1,f0,f1,l9⟩:=Bd SS.out 6 rfl;go_simp;have SS:=lh (LM SS.out 6 rfl (.slice Av g.length cv) (.slice Ar g.length cr));have E2:=lh (LN E2.out LB8 (.slice Av g.length cv) (.slice Ar g.length cr));clear r0 r1 f0 f1 l9;try simp only[pg]
    refine zh (hK.out _ _) (⟨(Bd SS.out 8 rfl).1,(Bd SS.out 8 rfl).2.1,(BI SS.out 0 rfl).1,(BI SS.out 0 rfl).2.1,(BI SS.out 0 rfl).2.2.1⟩) fun hHeld=>?_;clear hK K;try simp only[Act.put,pu]
    refine zr 8 rfl fun K hK=>?_;obtain⟨r0,r1,r2,f0,f1,f2,l9⟩:=BI SS.out 5 rfl;go_simp;have SS:=lh (JQ SS.out 5 rfl (.slice (some ⟨gy,0,none⟩) g.length ky) (.slice Ay g.length kyr) (.slice (some ⟨gx,0,none⟩) g.length kx));have E2:=lh (JR E2.out LB9 (.slice (some ⟨gy,0,none⟩) g.length ky) (.slice Ay g.length kyr) (.slice (some ⟨gx,0,none⟩) g.length kx));clear r0 r1 r2 f0 f1 f2 l9;try simp only[pg]
    refine zh (hK.out _ _) (⟨(Bd SS.out 8 rfl).1,(Bd SS.out 8 rfl).2.1,(BI SS.out 0 rfl).1,(BI SS.out 0 rfl).2.1,(BI SS.out 0 rfl).2.2.1⟩) fun hHeld=>?_;clear hK K;try simp only[Act.put,pu]
    refine zr 9 rfl fun K hK=>?_;go_simp;refine hK.out _ _ (fun e=>absurd rfl e) (fun hh=>?_);clear hK K hHeld hh;try simp only[Act.put,pu]
    refine zn ?_;obtain⟨r80,r81,-⟩:=Bd SS.out 6 rfl;obtain⟨r90,r91,r92,-⟩:=BI SS.out 5 rfl;go_wp2_with fail
    (try simp only[Exit.inBlock,Exit.then])
    refine bodyPost_ret (v := .tuple #[.agg #[.slice Av g.length cv,.slice Ar g.length cr],.agg #[.slice (some ⟨gy,0,none⟩) g.length ky,.slice Ay g.length kyr,.slice (some ⟨gx,0,none⟩) g.length kx],.string (ts (Sg.Cj (gx1 :: (Sg.AS g st.2 (k:Int)).2.2)))]) (by simp[results,Tryz.results15,go_sem,r80,r81,r90,r91,r92];try rfl) rfl ?_;exact⟨some ⟨gy,0,none⟩,ky,Ay,kyr,some ⟨gx,0,none⟩,kx,hs,hy,by rw[HR.out];try rfl,E2.out,by rw[HR.out];exact Ai.getK _ (In a.heap.size (some ⟨gy,0,none⟩) ky Ay kyr (some ⟨gx,0,none⟩) kx g.length hy (Sg.AS g st.2 (k:Int)).1) [_,_,_,_,_,_] _ _ (In a.heap.size Zv kv Az kr Zq kq g.length hz st.2) rs SS.out⟩
   have hi:Sg.Cb q1 0 ((g.length:Int) - 1)=false:=by unfold Sg.Cb;simp;omega
   rw[hi];have HR:=lh (HR4.out.trans (if_neg hc));clear HR4 hc hi;go_wp2_with fail
   exact zd0
  ·have hn2i:¬ (n:Int)=2:=by omega
   have HR:=lh (HR3.out.trans (Sg.OE _ _ _ (by exact fun h=>hs1 h.1) (by intro h;have h2:=h.2;have:=HNN.out;simp only[List.length_cons] at this;omega)));clear HR3;go_wp2_with fail
   exact zd0
 have b4g:¬ y0=[103,101,116]:=hg1;have HR:=lh (HR3.out.trans (Sg.OE _ _ _ (by exact fun h=>hs1 h.1) (by exact fun h=>hg1 h.1)));clear HR3;go_wp2_with fail
 exact zd0
end Go.Proofs.YthibllkleakiiaaGreatDoor
