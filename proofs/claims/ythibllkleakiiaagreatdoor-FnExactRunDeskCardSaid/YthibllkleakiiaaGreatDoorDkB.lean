/- Parts of one proof, joined. A strings.Builder among own things, and its WriteString: contracts. Conditions: short texts. -/
import Derived.Test.YthibllkleakiiaaGreatDoorTxN
import Derived.Test.YthibllkleakiiaaGreatDoorSesQI
namespace Sg
open Go
noncomputable def BC (g:Ae):IC (BT × Bv) where
 vals st:=st.1.vals
 stale st:=BF g st.2
 set st n x:=(((Bh g st.1 [(n:Int)] [x]).1,BX st.2 n x),(Bh g st.1 [(n:Int)] [x]).2)
 get st n:=((st.1,(AS g st.2 (n:Int)).1),(AS g st.2 (n:Int)).2.1 :: (AS g st.2 (n:Int)).2.2)
structure DV (g:Ae) (st:BT × Bv):Prop where
 e:Di g st.1=true
 l:AO g st.2=true
theorem DV.start {g:Ae}{c:List Int}(hG:AG g=true)(hC:AT g c=true):DV g (BJ g c,Co g c):=⟨ET hG hC,JP hG hC⟩
theorem FY {g:Ae}{st:BT}{n:Nat}{x:Int}(h:Di g st=true)(hc:Bt g (n:Int)=true)(hx:0<=x/\x<=999):Gy g st [(n:Int)] [x]=true:=by
 unfold Gy
 have h1:BV g [(n:Int)]=true:=by
  unfold BV;simp[hc]
 have h2:CX [x]=true:=by
  unfold CX;simp[BZ,hx.1,hx.2]
 rw[h,h1,h2];rfl
theorem DV.set {g:Ae}{st:BT × Bv}(h:DV g st){n:Nat}{x:Int}(hc:Bt g (n:Int)=true)(hx:0<=x/\x<=999):DV g ((BC g).set st n x).1:=by
 have hm:=FY h.e hc hx;refine⟨?_,JQ h.l hc hx⟩;show Di g (Bh g st.1 [(n:Int)] [x]).1=true;rw[GV hm];exact ET (Bd h.e).1 (Fw hm)
theorem DV.get {g:Ae}{st:BT × Bv}(h:DV g st){n:Nat}(hn:n<g.length):DV g ((BC g).get st n).1:=by
 refine⟨h.e,?_⟩;show AO g (AS g st.2 (n:Int)).1=true;rw[Hh h.l hn];exact(D8 h.l hn).1.ok
def DH (l:List Int):Prop:=l.length<=11/\∀ x ∈ l,0<=x/\x<=999
theorem DV.g10 {g:Ae}{st:BT × Bv}(h:DV g st):g.length<=10:=Io (Bd h.e).1
theorem DV.vals {g:Ae}{st:BT × Bv}(h:DV g st):DH ((BC g).vals st):=by
 obtain⟨_,h2,_,h4,_⟩:=Bd h.e;have:=h.g10;exact⟨by show st.1.vals.length<=11;omega,B7 h4⟩
theorem KL (p:Nat->Bool)(k:Nat)(hk:k<=10):DH (Ch p k):=by
 refine⟨by have:=Fn p k;omega,fun x hx=>?_⟩;obtain⟨i,rfl,hi,_⟩:=Fi.1 hx;omega
theorem DV.stale {g:Ae}{st:BT × Bv}(h:DV g st):DH ((BC g).stale st):=by
 show DH (BF g st.2);unfold BF;rw[if_pos h.l];exact KL _ _ h.g10
theorem DV.ran {g:Ae}{st:BT × Bv}(h:DV g st){n:Nat}{x:Int}(hc:Bt g (n:Int)=true)(hx:0<=x/\x<=999):DH ((BC g).set st n x).2:=by
 show DH (Bh g st.1 [(n:Int)] [x]).2;rw[GV (FY h.e hc hx)];show DH (Nv g _ _);unfold Nv;split
 ·exact KL _ _ h.g10
 ·exact⟨by simp,by simp⟩
theorem DV.got {g:Ae}{st:BT × Bv}(h:DV g st){n:Nat}(hn:n<g.length):DH ((BC g).get st n).2:=by
 have h10:=h.g10;have hr:=Ty h.l hn;have hcl:=(D8 h.l hn).1;have hlen:=hcl.ran_len;have hsh:=AP hcl.ok;show DH ((AS g st.2 (n:Int)).2.1 :: (AS g st.2 (n:Int)).2.2);rw[Hh h.l hn] at hr ⊢;refine⟨by simp at hlen ⊢;omega,fun x hx=>?_⟩;rcases List.mem_cons.1 hx with rfl | hx
 ·have h5:=B7 hsh.2.2.2.2;show 0<=(DU g st.2 (n:Int)).st.vals.getD n 0/\(DU g st.2 (n:Int)).st.vals.getD n 0<=999;have hv:n<(DU g st.2 (n:Int)).st.vals.length:=by rw[hsh.2.1];exact hn
  rw[List.getD_eq_getElem?_getD,List.getElem?_eq_getElem hv,Option.getD_some];exact h5 _ (List.getElem_mem hv)
 ·obtain⟨j,rfl,hj,_⟩:=hr.2 x hx;omega
theorem OP (c:UInt8):∀ ls:List AR,(DG c ls).length<=(ls.map fun p=>p.length+1).sum
 | []=>by simp[DG,Lib.join]
 | [p]=>by rw[DM];simp
 | p :: q :: t=>by
  have ih:=OP c (q :: t);rw[Dt];simp only[List.map_cons,List.sum_cons,List.length_append,List.length_cons] at ih ⊢;omega
theorem EF {l:List Int}(h:DH l):(Cg l).length<=44:=by
 have h1:=OP 32 (l.map fun n=>BB n.toNat)
 have h2:∀ m:List Int,(∀ x ∈ m,0<=x/\x<=999)->((m.map fun n=>BB n.toNat).map fun p=>p.length+1).sum<=4 * m.length:=by
  intro m hm;induction m with
  | nil=>simp
  | cons x m ih =>
   have h3:=ih fun y hy=>hm y (by simp[hy]);have h4:=hm x (by simp);have h5:=Ib (n:=x.toNat) (by omega);simp only[List.map_cons,List.sum_cons,List.length_cons] at h3 ⊢;omega
 have:=h2 l h.2;have:=h.1;show (DG 32 (l.map fun n=>BB n.toNat)).length<=44;omega
theorem Ka {g:Ae}{n:Int}(h:Bt g n=true):∃ k:Nat,n=k/\k<g.length:=by
 obtain⟨h1,h2⟩:=Iq h;exact⟨n.toNat,by omega,by omega⟩
theorem JB:Eq.length<=44:=by decide
theorem Qj {g:Ae}{st:BT × Bv}(h:DV g st)(line:AR):DV g (C4 (BC g) g st line).1/\(C4 (BC g) g st line).2.length<=44:=by
 unfold C4;split
 ·exact⟨h,EF h.vals⟩
 split
 ·exact⟨h,EF h.stale⟩
 split
 ·rename_i w a b _
  split
  ·rename_i hc
   obtain⟨_,h1,h2⟩:=hc;obtain⟨k,hk,hkl⟩:=Ka h1
   have hb:AW b<=999:=by
    rcases FA b with e | ⟨n,e,hn⟩
    ·omega
    ·omega
   rw[hk] at h1 ⊢;exact⟨h.set (by simpa using h1) ⟨h2,hb⟩,EF (h.ran (by simpa using h1) ⟨h2,hb⟩)⟩
  ·exact⟨h,JB⟩
 ·rename_i w a _
  split
  ·rename_i hc
   obtain⟨_,h1,h2⟩:=hc;exact⟨h.get (by omega),EF (h.got (by omega))⟩
  ·exact⟨h,JB⟩
 ·exact⟨h,JB⟩
noncomputable def Dm (g:Ae):List AR->(BT × Bv) × AR->(BT × Bv) × AR
 | [],y=>y
 | l :: ls,y=>Dm g ls ((C4 (BC g) g y.1 l).1,y.2++((C4 (BC g) g y.1 l).2++[10]))
theorem Kn (g:Ae):∀ (ls:List AR) (y:(BT × Bv) × AR),(Dm g ls y).2=y.2++OQ (BC g) g y.1 ls
 | [],y=>by simp[Dm,OQ]
 | l :: ls,y=>by
  rw[Dm,Kn g ls,OQ];simp
theorem LL (g:Ae):∀ (a:List AR) (l:AR) (y:(BT × Bv) × AR),Dm g (a++[l]) y=((C4 (BC g) g (Dm g a y).1 l).1,(Dm g a y).2++((C4 (BC g) g (Dm g a y).1 l).2++[10]))
 | [],l,y=>rfl
 | b :: a,l,y=>by
  rw[List.cons_append,Dm,Dm,LL g a l]
theorem LI {g:Ae}:∀ (ls:List AR) (y:(BT × Bv) × AR),DV g y.1->DV g (Dm g ls y).1/\(Dm g ls y).2.length<=y.2.length+45 * ls.length
 | [],y,h=>⟨h,by simp[Dm]⟩
 | l :: ls,y,h=>by
  obtain⟨h1,h2⟩:=Qj h l;obtain⟨h3,h4⟩:=LI ls ((C4 (BC g) g y.1 l).1,y.2++((C4 (BC g) g y.1 l).2++[10])) h1;rw[Dm];refine⟨h3,?_⟩;simp only[List.length_append,List.length_cons,List.length_nil] at h4 ⊢;omega
noncomputable def IN (s:AR)(ls:List AR):AR:=if 20<ls.length then [] else match DA s with
 | none=>Dl ls
 | some (g,c)=>OQ (BC g) g (BJ g c,Co g c) ls
theorem Jy:∀ ls:List AR,(Dl ls).length=6 * ls.length
 | []=>rfl
 | _ :: ls=>by
  have ih:=Jy ls;simp only[Dl,List.length_append,List.length_cons,ih];show 5+_=_;omega
def DY (l:List Int)(j:Nat):AR:=Cg (l.take j)
theorem QE {l:List Int}{x:Int}(h:l[0]? = some x):DY l 1=BB x.toNat:=by
 unfold DY Cg;cases l with
 | nil=>simp at h
 | cons y r =>
  simp at h
  subst h;simp[DM]
theorem OR {l:List Int}{j:Nat}{x:Int}(h:l[j]? = some x)(h0:0<j):DY l (j+1)=DY l j++[32]++BB x.toNat:=by
 unfold DY Cg;rw[List.take_add_one,h,List.map_append];show DG 32 (_++[BB x.toNat])=_
 rw[Jz _ _ _ (by
  intro e;have hl:=(List.getElem?_eq_some_iff.1 h).1;rw[List.map_eq_nil_iff] at e;have h9:(l.take j).length=0:=by rw[e];rfl
  rw[List.length_take] at h9;omega)]
 simp
theorem QH {l:List Int}(h:DH l)(j:Nat):(DY l j).length<=44:=EF ⟨by have:=h.1;simp;omega,fun x hx=>h.2 x (List.mem_of_mem_take hx)⟩
theorem QI (l:List Int):DY l l.length=Cg l:=by unfold DY;rw[List.take_length]
end Sg
namespace Go.Proofs.YthibllkleakiiaaGreatDoor
open Go.RowKit
def Rj (l:List Int)(j:Nat):List ByteArray:=(l.take j).map fun x=>ts (Sg.BB x.toNat)
theorem Tf {l:List Int}{j:Nat}{x:Int}(h:l[j]? = some x):Rj l (j+1)=Rj l j++[ts (Sg.BB x.toNat)]:=by
 unfold Rj;rw[List.take_add_one,h,List.map_append];rfl
theorem PI (l:List Int):(Rj l l.length).map (·.data.toList)=l.map fun x=>Sg.BB x.toNat:=by
 unfold Rj;rw[List.take_length,List.map_map];rfl
set_option maxRecDepth 100000 in
set_option maxHeartbeats 2000000 in
theorem Kq (A:Option Addr)(c:Nat)(l:List Int)(w:World)(hG:Gl w)(h:Rd w 1 A l.length (Ah l))(hs:Sg.DH l) :
  Calls Tryz.prog 54 #[.slice A l.length c] w fun e w'=>e= .returned (.string (ts (Sg.Cg l)))/\Aa w w':=by
 have HG:=lh hG;have HR:=lh h;have HS:=lh hs.2;have HL:=lh (Sg.EF hs);have hl:=hs.1;clear hG h hs;go_enter Tryz.func54,Tryz.ntmps54;go_wp2_with fail
 go_loopw [3,8] (fun s3 s10 wr=>∃ (j:Nat) (A3:Option Addr) (c3:Nat),j<=l.length/\s3= .slice A3 j c3/\s10= .int .i64 j/\Hid (Aa w wr)/\Hid (AA wr w.heap.size 9 1 A3 j c3 (BE (Rj l j)))) (fun _ s10 _=>l.length - (intOf s10).toNat)
 case atStart=>exact⟨0,none,0,Nat.zero_le _,rfl,rfl,lh (Aa.rfl' _),lh (AA.nil _ _ _ _)⟩
 case round =>
  obtain⟨j,A3,c3,hj,rfl,rfl,E,OW⟩:=hrel;by_cases hlt:j<l.length
  ·obtain⟨b,o,x,hAe,hx,hc⟩:=(HR.out.ext E.out).at1 hlt;subst hAe;have bh0:=Au hc;have hjx:(j:Int)<(l.length:Int):=by omega
   have hxr:=HS.out x (List.mem_of_getElem? hx);obtain⟨n,rfl⟩:=Int.eq_ofNat_of_zero_le hxr.1;have WS:=lh (Tf hx);have hn:n<=999:=by omega
   clear hx hxr;go_wp2_with fail
   refine(NR n hn _ (HG.out.ext E.out)).mono ?_;rintro e w4 ⟨rfl,he4⟩;have E4:=lh (E.out.tr he4);have OW4:=lh (OW.out.ext he4);clear he4 hc bh0 E OW;have hsz4:=E4.out.size;go_wp2_with (at_builtin;refine AF (cs:=[.string (ts (Sg.BB n))]) rfl rfl L2 rfl OW4.out rfl rfl (Jd _) (by omega) (by omega) (by omega) ?_;intro A5 c5 w9 hown2 hg2 hat2)
   go_roundw
   case rel=>exact⟨j+1,A5,c5,by omega,rfl,by go_num,lh (E4.out.gr hg2 fun x hx=>(OW4.out.lt hx).1),lh (by rw[WS.out,<- Gj];exact hown2)⟩
   case measure=>simp[intOf];omega
  ·obtain rfl:j=l.length:=by omega
   have HJ:=lh fun w' (hO:AA w' w.heap.size 9 1 A3 l.length c3 (BE (Rj l l.length)))=>Up A3 l.length c3 _ w' hO (by omega) (by rw[PI];have:=HL.out;show (Sg.Cg l).length<=100000;omega);go_wp2_with fail
   refine(HJ.out _ OW.out).mono ?_;rintro e w3 ⟨rfl,he3⟩;go_wp2;go_ret;exact⟨by rw[PI];rfl,E.out.tr he3⟩
set_option maxRecDepth 100000 in
set_option maxHeartbeats 2000000 in
theorem Ha (A:Option Addr)(c:Nat)(l:List Int)(w:World)(h:Rd w 1 A l.length (Ah l))(hs:Sg.DH l) :
  Calls Tryz.prog 34 #[.slice A l.length c] w fun e w'=>e= .returned (.string (ts (Sg.Cg l)))/\Aa w w':=by
 have HR:=lh h;have HS:=lh hs.2;have HLN:=lh (Sg.QH hs);have hl:=hs.1;clear h hs;go_enter Tryz.func34,Tryz.ntmps34;go_wp2_with fail
 go_loopw [3,4] (fun s3 s5 wr=>∃ j:Nat,j<=l.length/\s3= .string (ts (Sg.DY l j))/\s5= .int .i64 j/\Hid (Aa w wr)) (fun _ s5 _=>l.length - (intOf s5).toNat)
 case atStart=>exact⟨0,Nat.zero_le _,rfl,rfl,lh (Aa.rfl' _)⟩
 case round =>
  obtain⟨j,hj,rfl,rfl,E⟩:=hrel;by_cases hlt:j<l.length
  ·obtain⟨b,o,x,hAe,hx,hc⟩:=(HR.out.ext E.out).at1 hlt;subst hAe;have bh0:=Au hc;have hln:=HLN.out j;have hjx:(j:Int)<(l.length:Int):=by omega
   have hxr:=HS.out x (List.mem_of_getElem? hx);obtain⟨n,rfl⟩:=Int.eq_ofNat_of_zero_le hxr.1;have hn:n<=999:=by omega
   have hnl:=Sg.Ib hn;by_cases hz:0<j
   ·have hzx:(j:Int) > 0:=by omega
    have hT:=lh (Sg.OR hx hz);have s1:=Fp (a:=Sg.DY l j) (b:=[32]) (by simp;omega);have s2:=Fp (a:=Sg.DY l j++[32]) (b:=Sg.BB n) (by simp;omega);rw[<- D7] at s2;clear hx hxr;generalize Sg.DY l j=y at *;go_wp2_with fail
    refine(JZ n (by omega) _).mono ?_;rintro e w3 ⟨rfl,rfl⟩;go_wp2;go_roundw
    case rel=>exact⟨j+1,by omega,by rw[hT.out,<- D7,<- D7];rfl,by go_num,E⟩
    case measure=>simp[intOf];omega
   ·have hzx:¬ (j:Int) > 0:=by omega
    have hT:Hid (Sg.DY l (j+1)=Sg.DY l j++Sg.BB n):=by
     obtain rfl:j=0:=by omega
     exact lh (Sg.QE hx)
    have s2:=Fp (a:=Sg.DY l j) (b:=Sg.BB n) (by omega);clear hx hxr;generalize Sg.DY l j=y at *;go_wp2_with fail
    refine(JZ n (by omega) _).mono ?_;rintro e w3 ⟨rfl,rfl⟩;go_wp2;go_roundw
    case rel=>exact⟨j+1,by omega,by rw[hT.out,<- D7],by go_num,E⟩
    case measure=>simp[intOf];omega
  ·obtain rfl:j=l.length:=by omega
   go_wp2;go_ret;exact⟨by rw[Sg.QI];rfl,E.out⟩
open Go.RowKit
def N5 (B:Nat)(Av:Option Addr)(cv:Nat)(Ar:Option Addr)(cr:Nat)(Zv:Option Addr)(zv:Nat)(Az:Option Addr)(zr:Nat)(Zq:Option Addr)(zq L:Nat)(hs hz:List (Option Addr × Nat))(st:Sg.BT × Sg.Bv):List (Th B) :=
 Th.own B 3 1 Av L cv (Ah st.1.vals) :: Th.ownL B Ar cr st.1.reads hs :: G5 B Zv zv Az zr Zq zq L hz st.2
theorem Ai.mid {B:Nat}{W:World}(X Y Z:List (Th B))(h:Ai (X++(Y++Z)) W):Ai (Y++(X++Z)) W:=Ai.perm h (List.perm_append_comm_assoc X Y Z)
theorem AH.set2 (w:World)(b:Nat)(u0 u1:Value):AH (fun x=>x=b) w ((w.setCell ⟨b,0,none⟩ u0).setCell ⟨b,1,none⟩ u1):=AH.set (F:=fun x=>x=b) (AH.set (F:=fun x=>x=b) (AH.rfl' _ w) (.inl rfl) u0) (.inl rfl) u1
theorem K8 {B:Nat}{ts:List (Th B)}{v:World}{bt:Nat}{o0 o1:Value}(h:Ai ts v)(i:Nat)(ht:ts[i]? = some (Th.box B bt [o0,o1]))(u0 u1:Value) :
  Ai (ts.set i (Th.box B bt [u0,u1])) ((v.setCell ⟨bt,0,none⟩ u0).setCell ⟨bt,1,none⟩ u1) :=
 have y:Bx v bt [o0,o1]/\B<=bt:=Ai.get h i ht;Ai.set h i ht (AH.set2 v bt u0 u1) (Th.box B bt [u0,u1]) (fun _ e=>.inl e) ⟨(y.1.set 0 u0).set 1 u1,y.2⟩ (fun _ e=>.inl e)
theorem K9 {a v:World}{bt:Nat}(h:Aa a v)(hl:a.heap.size<=bt)(u0 u1:Value):Aa a ((v.setCell ⟨bt,0,none⟩ u0).setCell ⟨bt,1,none⟩ u1) :=
 Aa.md h (AH.set2 v bt u0 u1) (fun _ e=>by rw[e];exact hl)
theorem Be {B:Nat}{ts:List (Th B)}{v:World}{bt:Nat}{o0 o1:Value}(h:Ai ts v)(i:Nat)(ht:ts[i]? = some (Th.box B bt [o0,o1])) :
  v.cell? ⟨bt,0,none⟩=some o0/\v.cell? ⟨bt,1,none⟩=some o1/\v.frozen? ⟨bt,0,none⟩=false/\v.frozen? ⟨bt,1,none⟩=false/\bt<v.heap.size :=
 have y:Bx v bt [o0,o1]/\B<=bt:=Ai.get h i ht;⟨y.1.cell (j:=0) rfl,y.1.cell (j:=1) rfl,y.1.free 0,y.1.free 1,y.1.lt⟩
theorem FK {B:Nat}{ts:List (Th B)}{v:World}{bt:Nat}{o0:Value}(h:Ai ts v)(i:Nat)(ht:ts[i]? = some (Th.box B bt [o0])) :
  v.cell? ⟨bt,0,none⟩=some o0/\v.frozen? ⟨bt,0,none⟩=false/\bt<v.heap.size :=
 have y:Bx v bt [o0]/\B<=bt:=Ai.get h i ht;⟨y.1.cell (j:=0) rfl,y.1.free 0,y.1.lt⟩
theorem Ma {g:Sg.Ae}{n:Int}(hc:Sg.Bt g n=true):Sg.BV g [n]=true:=by
 unfold Sg.BV;simp[hc]
theorem T5 (A Av Ar Aq:Option Addr)(c cv cr cq:Nat)(g:Sg.Ae)(st:Sg.Bv)(w:World)(h:Eg w A g)(hv:Rd w 1 Av g.length (Ah st.vals))(hr:Em w Ar st.reads)(hq:Rd w 1 Aq g.length (Ah st.cols))(hV:Sg.AO g st=true) :
  Calls Tryz.prog 35 #[.agg #[.slice A g.length c],.agg #[.slice Av g.length cv,.slice Ar g.length cr,.slice Aq g.length cq]] w fun e w'=>∃ A' c',e= .returned (.slice A' (Sg.BF g st).length c')/\AA w' w.heap.size 3 1 A' (Sg.BF g st).length c' (Ah (Sg.BF g st))/\Aa w w':=by
 obtain⟨v,r,q⟩:=st;obtain⟨-,h1,h2,h3,-⟩:=Sg.AP hV;dsimp only at h1 h2 h3 hv hr hq;have hg:=h.1;have z:=SV A Av Ar Aq c cv cr cq g v q r w h (by rw[h1];exact hv) hr (by rw[h3];exact hq) (by omega) (by omega);rw[h1,h2,h3] at z;exact z
theorem TM (A Av Ar Aq:Option Addr)(c cv cr cq:Nat)(g:Sg.Ae)(st:Sg.Bv)(w:World)(h:Eg w A g)(hv:Rd w 1 Av g.length (Ah st.vals))(hr:Em w Ar st.reads)(hq:Rd w 1 Aq g.length (Ah st.cols))(hV:Sg.AO g st=true) :
  Calls Tryz.prog 55 #[.agg #[.slice A g.length c],.agg #[.slice Av g.length cv,.slice Ar g.length cr,.slice Aq g.length cq]] w fun e w'=>∃ A' c',e= .returned (.slice A' (Sg.BF g st).length c')/\AA w' w.heap.size 3 1 A' (Sg.BF g st).length c' (Ah (Sg.BF g st))/\Aa w w':=by
 obtain⟨v,r,q⟩:=st;obtain⟨-,h1,h2,h3,-⟩:=Sg.AP hV;dsimp only at h1 h2 h3 hv hr hq;have hg:=h.1;have z:=ST A Av Ar Aq c cv cr cq g v q r w h (by rw[h1];exact hv) hr (by rw[h3];exact hq) (by omega) (by omega);rw[h1,h2,h3] at z;exact z
theorem Wa (A Av Ar Aq:Option Addr)(c cv cr cq n:Nat)(g:Sg.Ae)(st:Sg.Bv)(w:World)(h:Eg w A g)(hv:Rd w 1 Av g.length (Ah st.vals))(hr:Em w Ar st.reads)(hq:Rd w 1 Aq g.length (Ah st.cols))(hV:Sg.AO g st=true)(hn:n<g.length) :
  Calls Tryz.prog 40 #[.agg #[.slice A g.length c],.agg #[.slice Av g.length cv,.slice Ar g.length cr,.slice Aq g.length cq],.int .i64 n] w fun e w'=>∃ gz zv Az zr gq zq hz A9 c9,e= .returned (.tuple #[.agg #[.slice (some ⟨gz,0,none⟩) g.length zv,.slice Az g.length zr,.slice (some ⟨gq,0,none⟩) g.length zq],.int .i64 (Sg.AS g st n).2.1,.slice A9 (Sg.AS g st n).2.2.length c9]) /\
   Ai (G5 w.heap.size (some ⟨gz,0,none⟩) zv Az zr (some ⟨gq,0,none⟩) zq g.length hz (Sg.AS g st n).1) w'/\Rd w' 1 A9 (Sg.AS g st n).2.2.length (Ah (Sg.AS g st n).2.2)/\Aa w w':=by
 have hV2:Sg.AO g (Sg.AS g st n).1=true:=by
  rw[Sg.Hh hV hn];exact(Sg.D8 hV hn).1.ok
 obtain⟨-,t1,t2,t3,-⟩:=Sg.AP hV2;obtain⟨v,r,q⟩:=st;obtain⟨-,h1,h2,h3,-⟩:=Sg.AP hV;dsimp only at h1 h2 h3 hv hr hq;have hg:=h.1;have z:=Rb A Av Ar Aq c cv cr cq g v q r (n:Int) w h (by rw[h1];exact hv) hr (by rw[h3];exact hq) (by omega) (by omega);rw[h1,h2,h3] at z;clear hV2;generalize Sg.AS g ⟨v,r,q⟩ (n:Int)=y at *;obtain⟨⟨v2,r2,q2⟩,x,ran⟩:=y;dsimp only at t1 t2 t3 z ⊢;refine z.mono ?_;rintro e w' ⟨R0,d0,R1,d1,R2,d2,z0,R3,d3,rfl,hz,ho,-,he⟩;obtain⟨gz,gr,gq,rfl,rfl,rfl⟩:=hz.some3 (by omega) (by omega) (by omega);dsimp only;rw[t1,t2,t3];exact⟨gz,d0,_,d1,gq,d2,z0,R3,d3,rfl,Ai.ofZ hz t1 t3,ho.rd,he⟩
theorem V_ (a:World)(A Av Ar An Aw:Option Addr)(c cv cr cn cw n:Nat)(x:Int)(g:Sg.Ae)(st:Sg.BT)(hs:List (Option Addr × Nat))(ts:List (Th a.heap.size))(W:World)(ha:Eg a A g)(hE:Aa a W)(hna:∀ W',Ai ts W'->Rd W' 1 An 1 (Ah [(n:Int)]))(hwa:∀ W',Ai ts W'->Rd W' 1 Aw 1 (Ah [x]))(hnb:∀ b,AD An=some b->∃ t ∈ ts,t.fp b)(hwb:∀ b,AD Aw=some b->∃ t ∈ ts,t.fp b)(hS:Ai (Th.own a.heap.size 3 1 Av g.length cv (Ah st.vals) :: Th.ownL a.heap.size Ar cr st.reads hs :: ts) W)(hV:Sg.Di g st=true)(hc:Sg.Bt g (n:Int)=true)(hx:0<=x/\x<=999) :
  Calls Tryz.prog 37 #[.agg #[.slice A g.length c],.agg #[.slice Av g.length cv,.slice Ar g.length cr],.slice An 1 cn,.slice Aw 1 cw] W fun e w'=>∃ Ad cd hs',e= .returned (.tuple #[.agg #[.slice Av g.length cv,.slice Ar g.length cr],.slice Ad (Sg.Bh g st [(n:Int)] [x]).2.length cd])/\Aa a w' /\
   Ai (Th.own a.heap.size 3 1 Ad (Sg.Bh g st [(n:Int)] [x]).2.length cd (Ah (Sg.Bh g st [(n:Int)] [x]).2) :: Th.own a.heap.size 3 1 Av g.length cv (Ah (Sg.Bh g st [(n:Int)] [x]).1.vals) :: Th.ownL a.heap.size Ar cr (Sg.Bh g st [(n:Int)] [x]).1.reads hs' :: ts) w':=by
 have hV2:Sg.Di g (Sg.Bh g st [(n:Int)] [x]).1=true:=by
  have hm:=Sg.FY hV hc hx;rw[Sg.GV hm];exact Sg.ET (Sg.Bd hV).1 (Sg.Fw hm)
 have t1:=(Sg.Bd hV2).2.1;obtain⟨v,r⟩:=st;obtain⟨-,h1,h2,-⟩:=Sg.Bd hV;dsimp only at h1 h2 hS;have z:=T9 a.heap.size a A Av Ar An Aw c cv cr cn cw g v [(n:Int)] [x] r hs W ha hE (Nat.le_refl _) hE.size ts (fun W' _ k=>hna W' k) (fun W' _ k=>hwa W' k) (fun _ b hb=>.inr (hnb b hb)) (fun _ b hb=>.inr (hwb b hb)) (by rw[h1];exact hS) hV (Ma hc) rfl (Sg.B7 (by unfold Sg.CX;simp[Sg.BZ,hx.1,hx.2]));rw[h1,h2] at z;refine z.mono ?_;rintro e w' ⟨Ad,cd,hs',rfl,hS2,-,-,hE2⟩;have t2:(Sg.CN g ⟨v,r⟩ [(n:Int)] [x]).vals.length=g.length:=t1;rw[t2] at hS2;exact⟨Ad,cd,hs',rfl,hE2,hS2⟩
theorem VO (a:World)(A Av Ar An Aw:Option Addr)(c cv cr cn cw n:Nat)(x:Int)(g:Sg.Ae)(st:Sg.BT)(hs:List (Option Addr × Nat))(ts:List (Th a.heap.size))(W:World)(ha:Eg a A g)(hE:Aa a W)(hna:∀ W',Ai ts W'->Rd W' 1 An 1 (Ah [(n:Int)]))(hwa:∀ W',Ai ts W'->Rd W' 1 Aw 1 (Ah [x]))(hnb:∀ b,AD An=some b->∃ t ∈ ts,t.fp b)(hwb:∀ b,AD Aw=some b->∃ t ∈ ts,t.fp b)(hS:Ai (Th.own a.heap.size 3 1 Av g.length cv (Ah st.vals) :: Th.ownL a.heap.size Ar cr st.reads hs :: ts) W)(hV:Sg.Di g st=true)(hc:Sg.Bt g (n:Int)=true)(hx:0<=x/\x<=999) :
  Calls Tryz.prog 58 #[.agg #[.slice Av g.length cv,.slice Ar g.length cr],.agg #[.slice A g.length c],.slice An 1 cn,.slice Aw 1 cw] W fun e w'=>∃ Ad cd hs',e= .returned (.slice Ad (Sg.Bh g st [(n:Int)] [x]).2.length cd)/\Aa a w' /\
   Ai (Th.own a.heap.size 3 1 Ad (Sg.Bh g st [(n:Int)] [x]).2.length cd (Ah (Sg.Bh g st [(n:Int)] [x]).2) :: Th.own a.heap.size 3 1 Av g.length cv (Ah (Sg.Bh g st [(n:Int)] [x]).1.vals) :: Th.ownL a.heap.size Ar cr (Sg.Bh g st [(n:Int)] [x]).1.reads hs' :: ts) w':=by
 have hV2:Sg.Di g (Sg.Bh g st [(n:Int)] [x]).1=true:=by
  have hm:=Sg.FY hV hc hx;rw[Sg.GV hm];exact Sg.ET (Sg.Bd hV).1 (Sg.Fw hm)
 have t1:=(Sg.Bd hV2).2.1;obtain⟨v,r⟩:=st;obtain⟨-,h1,h2,-⟩:=Sg.Bd hV;dsimp only at h1 h2 hS;have z:=T_ a.heap.size a A Av Ar An Aw c cv cr cn cw g v [(n:Int)] [x] r hs W ha hE (Nat.le_refl _) hE.size ts (fun W' _ k=>hna W' k) (fun W' _ k=>hwa W' k) (fun _ b hb=>.inr (hnb b hb)) (fun _ b hb=>.inr (hwb b hb)) (by rw[h1];exact hS) hV (Ma hc) rfl (Sg.B7 (by unfold Sg.CX;simp[Sg.BZ,hx.1,hx.2]));rw[h1,h2] at z;refine z.mono ?_;rintro e w' ⟨Ad,hs',rfl,hS2,hE2⟩;have t2:(Sg.CN g ⟨v,r⟩ [(n:Int)] [x]).vals.length=g.length:=t1;rw[t2] at hS2;exact⟨Ad,_,hs',rfl,hE2,hS2⟩
open Go.RowKit
def Nh (W:World)(B b:Nat)(gs:Option Nat)(l:Sg.AR):Prop :=
 B<=b/\∃ p v,(p= .pointer none\/p= .pointer (some ⟨b,0,none⟩))/\W.heap[b]? = some (.cells #[p,v] 53 (0,0))/\W.ownsRow B 5 1 v (Lib.byteCells l).length (Lib.byteCells l)/\v.ownBlock=gs/\gs≠some b
theorem Nh.bu {W:World}{B b:Nat}{gs:Option Nat}{l:Sg.AR}(h:Nh W B b gs l):Bu W B b l:=by
 obtain⟨hB,p,v,hp,hb,ho,hg,hne⟩:=h;subst hg;rcases hp with rfl | rfl
 ·exact .inl ⟨hB,v,hb,ho,hne⟩
 ·exact .inr ⟨hB,v,hb,ho,hne⟩
theorem L_ {W W':World}{B e n:Nat}{v:Value}{xs:List Value}(h:W.ownsRow B e 1 v n xs)(hk:∀ g,v.ownBlock=some g->W'.heap[g]? = W.heap[g]?):W'.ownsRow B e 1 v n xs:=by
 obtain⟨h1,h2⟩:=h;refine⟨h1,h2.imp id ?_⟩;rintro ⟨g,cap,cur,rfl,hB,hg,h3⟩;exact⟨g,cap,cur,rfl,hB,(hk g rfl).trans hg,h3⟩
theorem NW {W:World}{g:Nat}{o:Obj}(h:W.heap[g]? = some o):g<W.heap.size:=by
 rcases Nat.lt_or_ge g W.heap.size with h' | h'
 ·exact h'
 ·simp[Array.getElem?_eq_none h'] at h
theorem Ra {W:World}{B e n:Nat}{v:Value}{xs:List Value}(h:W.ownsRow B e 1 v n xs){g:Nat}(hg:v.ownBlock=some g):B<=g/\g<W.heap.size:=by
 rcases h.2 with ⟨rfl,-⟩ | ⟨g',cap,cur,rfl,hB,hg',-⟩
 ·cases hg
 ·have e:some g'=some g:=hg;injection e with e;subst e;exact⟨hB,NW hg'⟩
theorem Nh.keep {W W':World}{B b:Nat}{gs:Option Nat}{l:Sg.AR}(h:Nh W B b gs l)(hk:∀ x,(x=b\/gs=some x)->W'.heap[x]? = W.heap[x]?):Nh W' B b gs l:=by
 obtain⟨hB,p,v,hp,hb,ho,hg,hne⟩:=h;exact⟨hB,p,v,hp,(hk b (.inl rfl)).trans hb,L_ ho (fun g e=>hk g (.inr (hg.symm.trans e))),hg,hne⟩
theorem Nh.lt {W:World}{B b:Nat}{gs:Option Nat}{l:Sg.AR}(h:Nh W B b gs l){x:Nat}(hx:x=b\/gs=some x):B<=x/\x<W.heap.size:=by
 obtain⟨hB,p,v,hp,hb,ho,hg,hne⟩:=h;rcases hx with rfl | hx
 ·exact⟨hB,NW hb⟩
 ·exact Ra ho (hg.trans hx)
def Th.bu (B b:Nat)(gs:Option Nat)(l:Sg.AR):Th B:=⟨fun x=>x=b\/gs=some x,fun W=>Nh W B b gs l,fun _ _ h hk=>h.keep hk,fun _ _ h hb=>h.lt hb⟩
theorem Nh.new (W:World){B:Nat}(hB:B<=W.heap.size):Nh (W.alloc (.cells #[.pointer none,.slice none 0 0] 53)) B W.heap.size none [] :=
 ⟨hB,.pointer none,.slice none 0 0,.inl rfl,heap_alloc_new W _,World.ownsRow_nil _ _ _ _,rfl,by simp⟩
theorem We {P:Program}(w:World)(base:Nat)(t u ty e:TypeId)(i:TypeInfo)(ht:P.underlying t=some (.slice e))(hu:P.underlying u=some .string)(hi:P.info? e=some i)(hz:i.zero=some (.int .u8 0))(hsize:i.size=1)(hby:i.bytes=1)(v:Value)(n:Nat)(xs:List Value)(hown:w.ownsRow base e 1 v n xs)(s:ByteArray)(h63:n+s.size<=maxLen)(hbytes:n+s.size<=140737488355328)(hbase:base<=w.heap.size) :
  ∃ v' w',(Builtin.append_ #[t,u] ty #[v,.string s]).run P w= .ok v' w'/\w'.ownsRow base e 1 v' (n+s.size) (xs++Lib.strCells s)/\w.grownBy w' v.ownBlock/\(v'.ownBlock=v.ownBlock\/∃ g,v'.ownBlock=some g/\w.heap.size<=g):=by
 obtain⟨v',w',hr,h1,h2,-⟩:=Lib.run_append_own_string w base t u ty e i ht hu hi hz hsize hby v n xs hown s h63 hbytes hbase;refine⟨v',w',hr,h1,h2,?_⟩;rcases hown.2 with ⟨rfl,rfl⟩ | ⟨g,cap,cur,rfl,hB,hg,hnc,hcm,hcs,hcur⟩
 ·obtain⟨v'',w'',hr2,k1,-,-⟩:=Lib.run_append_own_string w w.heap.size t u ty e i ht hu hi hz hsize hby (.slice none 0 0) 0 xs ⟨hown.1,.inl ⟨rfl,rfl⟩⟩ s h63 hbytes (Nat.le_refl _);rw[hr] at hr2;injection hr2 with e1 e2;subst e1 e2;rcases k1.2 with ⟨rfl,-⟩ | ⟨g,cap,cur,rfl,hB,-⟩
  ·exact .inl rfl
  ·exact .inr ⟨g,rfl,hB⟩
 ·by_cases hroom:n+s.size<=cap
  ·have hr2:=Lib.run_append_room_string w t u ty e i ht hu hi hsize g n cap cur hg s hroom (by omega);rw[hr] at hr2;injection hr2 with e1 e2;subst e1;exact .inl rfl
  ·have hfit:=h63
   have hr2:=Lib.run_append_grow_string w t u ty e i (.int .u8 0) ht hu hi hz ⟨g,0,none⟩ n cap xs (by rw[hown.1,hsize]) (fun j x hx=>by
    have hj:j<n * 1:=by rw[<- hown.1];exact(List.getElem?_eq_some_iff.1 hx).1
    rw[<- hcur,List.getElem?_take] at hx;simp only[if_pos hj] at hx;have e9:(⟨g,0,none⟩:Addr).add j=⟨g,j,none⟩:=by unfold Addr.add;by_cases h0:j=0 <;> simp[h0]
    rw[e9];simpa[World.cell?,hg] using hx) s (by omega) (by unfold maxLen at h63;omega) (by rw[hby];exact growslice_fits (by omega) (by omega))
   rw[hr] at hr2;injection hr2 with e1 e2;subst e1;exact .inr ⟨_,rfl,Nat.le_refl _⟩
theorem Mw {P:Program}{ops:Array Oper}{rest:List Oper}{o:Oper}{a:Act}{Q:Exit->Act->World->Prop}{w:World}(hgd:o.guard=none)(sl x:Operand)(t u:TypeId)(ho:o.op= .call { callee := .builtin .append,args:=#[sl,x],argTypes:=#[t,u] })(base:Nat)(e:TypeId)(i:TypeInfo)(ht:P.underlying t=some (.slice e))(hu:P.underlying u=some .string)(hi:P.info? e=some i)(hz:i.zero=some (.int .u8 0))(hsize:i.size=1)(hby:i.bytes=1)(v:Value)(n:Nat)(xs:List Value)(hs:a.eval sl=v)(hown:w.ownsRow base e 1 v n xs)(s:ByteArray)(hx:a.eval x= .string s)(h63:n+s.size<=maxLen)(hbytes:n+s.size<=140737488355328)(hbase:base<=w.heap.size)(h:∀ v' w',w'.ownsRow base e 1 v' (n+s.size) (xs++Lib.strCells s)->w.grownBy w' v.ownBlock->(v'.ownBlock=v.ownBlock\/∃ g,v'.ownBlock=some g/\w.heap.size<=g)->wpList P ops Q rest (a.put o.dst v') w'):wpList P ops Q (o :: rest) a w :=
 wpList_plain hgd fun K hK=>by
  obtain⟨v',w',hr,h2,h3,h4⟩:=We (P:=P) w base t u o.type e i ht hu hi hz hsize hby v n xs hown s h63 hbytes hbase;unfold Oper.wp execOp;simp only[ho,resolve,invoke,builtin,Sem.run_bind,Sem.run_pure,Result.andThen_ok,List.map_toArray,List.map_cons,List.map_nil,hs,hx,hr];exact hK _ _ (h v' w' h2 h3 h4)
set_option maxHeartbeats 1000000 in
set_option maxRecDepth 100000 in
theorem NX (B b:Nat)(gs:Option Nat)(l:Sg.AR)(w:World)(h:Nh w B b gs l) :
  Calls Tryz.prog 53 #[.pointer (some ⟨b,0,none⟩)] w fun e w'=>e= .returned (.tuple #[])/\∃ v,w'.heap[b]? = some (.cells #[.pointer (some ⟨b,0,none⟩),v] 53 (0,0))/\w'.ownsRow B 5 1 v (Lib.byteCells l).length (Lib.byteCells l)/\v.ownBlock=gs/\AH (fun x=>x=b) w w':=by
 have h1:(Tryz.prog.info? 53).map (·.size)=some 2:=by kernel_rfl
 have hlies:liesAt Tryz.prog Tryz.prog.depth 53 (2 / Tryz.prog.cellsOf 53) 0 53 1=true:=by kernel_rfl
 obtain⟨j,hj,hjs⟩:=Option.map_eq_some_iff.1 h1;clear h1;obtain⟨hB,p,v,hp,hb,ho,hg,hne⟩:=h;rcases hp with rfl | rfl
 ·have h0:w.cell? ⟨b,0,none⟩=some (.pointer none):=by rw[Lib.cell_of_heap hb];rfl
  have hsh:w.shape? b=some (53,2):=by simp[World.shape?,hb]
  have hfz:w.frozen? ⟨b,0,none⟩=false:=Lib.frozen_of_heap hb 0;have hbl:=Au h0;have HO:=lh ho;have HBK:=lh hb;have HGS:=lh hg;have HNE:=lh hne;clear ho hg hne hb;go_enter Tryz.func53,Tryz.ntmps53;go_wp2;rw[Lib.run_to_unsafe w ⟨b,0,none⟩ Tryz.underlying51 Tryz.underlying132 hj (by rw[hjs];decide) hsh (Nat.zero_lt_succ 1)];simp only[Result.andThen];rw[Oper.upon_value];go_wp2;rw[run_callFunc_extern Tryz.func90 (by kernel_rfl) (by kernel_rfl) (by kernel_rfl) (e:=Extern.AbiNoEscape.same) (by kernel_rfl)];rw[Lib.run_noEscape];simp only[Result.andThen];rw[Oper.upon_value];go_wp2;rw[Lib.run_from_unsafe w ⟨b,0,none⟩ Tryz.underlying132 Tryz.underlying51 hj hsh hlies];simp only[Result.andThen];rw[Oper.upon_value];go_wp2;go_end0;refine⟨rfl,v,?_,?_,HGS.out,AH.set (F:=fun x=>x=b) (AH.rfl' _ w) (.inl rfl) _⟩
  ·have:=HBK.out;simp[World.setCell,Array.getElem?_modify,this]
  ·exact L_ HO.out (fun g e=>(AH.set (F:=fun x=>x=b) (AH.rfl' _ w) (.inl rfl) _).block g (Ra HO.out e).2 (fun e2=>HNE.out (by rw[<- HGS.out,e,e2])))
 ·have h0:w.cell? ⟨b,0,none⟩=some (.pointer (some ⟨b,0,none⟩)):=by rw[Lib.cell_of_heap hb];rfl
  have hbl:=Au h0;go_enter Tryz.func53,Tryz.ntmps53;go_wp2;rw[Lib.run_neq_ptr_same w _ Tryz.underlying51 hj];go_wp2;go_end0;exact⟨rfl,v,hb,ho,hg,AH.rfl' _ _⟩
theorem AH.gb {w w':World}{row:Option Nat}(h:w.grownBy w' row):AH (fun x=>row=some x) w w':=by
 obtain⟨h1,h2,h3,h4,h5⟩:=h;exact⟨h1,h2,h3,h4,fun k hk hn=>h5 k hk (fun e=>hn e.symm)⟩
set_option maxHeartbeats 2000000 in
set_option maxRecDepth 100000 in
theorem Pr (B b:Nat)(gs:Option Nat)(l s:Sg.AR)(w:World)(h:Nh w B b gs l)(hlen:l.length+s.length<=100000) :
  Calls Tryz.prog 19 #[.pointer (some ⟨b,0,none⟩),.string (ts s)] w fun e w'=>e= .returned (.tuple #[.int .i64 s.length,.nilIface])/\∃ gs',Nh w' B b gs' (l++s)/\AH (fun x=>x=b\/gs=some x) w w'/\(gs'=gs\/∃ g,gs'=some g/\w.heap.size<=g):=by
 obtain⟨i0,hi,hz0,hz1,hz2⟩:∃ i,Tryz.prog.info? 5=some i/\i.zero=some (.int .u8 0)/\i.size=1/\i.bytes=1:=by
  have hf:(Tryz.prog.info? 5).map (fun i=>(i.zero,i.size,i.bytes))=some (some (.int .u8 0),1,1):=by kernel_rfl
  obtain⟨i,h1,h2⟩:=Option.map_eq_some_iff.1 hf;simp only[Prod.mk.injEq] at h2;exact⟨i,h1,h2.1,h2.2.1,h2.2.2⟩
 have hbl:(Lib.byteCells l).length=l.length:=Lib.byteCells_length l;have hlt0:=(h.lt (.inl rfl)).2;have hBs:B<=w.heap.size:=by have:=h.1;omega
 have hne:gs≠some b:=by obtain⟨_,p,v,_,_,_,_,hne⟩:=h;exact hne
 have hB:=h.1;go_enter Tryz.func19,Tryz.ntmps19;go_wp2_with fail
 refine(NX B b gs l _ h).mono ?_;rintro e w1 ⟨rfl,v,hbk,hown,hgs,hm1⟩;have c0:w1.cell? ⟨b,0,none⟩=some (.pointer (some ⟨b,0,none⟩)):=by rw[Lib.cell_of_heap hbk];rfl
 have c1:w1.cell? ⟨b,1,none⟩=some v:=by rw[Lib.cell_of_heap hbk];rfl
 have hsz1:=hm1.size;go_wp2_with (at_builtin;refine Mw rfl _ _ 28 9 rfl B 5 i0 Tryz.underlying28 Tryz.underlying9 hi hz0 hz1 hz2 _ _ _ rfl hown (ts s) rfl ?c3 ?c4 ?c5 ?_)
 case c3=>rw[hbl,B9];unfold maxLen;omega
 case c4=>rw[hbl,B9];omega
 case c5=>omega
 intro v' w2 hown' hgrow hat;have hlt:b<w1.heap.size:=NW hbk
 have hb2:w2.heap[b]? = some (.cells #[.pointer (some ⟨b,0,none⟩),v] 53 (0,0)):=by
  rw[hgrow.block b hlt (fun e=>hne e.symm)];exact hbk
 have d0:w2.cell? ⟨b,0,none⟩=some (.pointer (some ⟨b,0,none⟩)):=by rw[Lib.cell_of_heap hb2];rfl
 have d1:w2.cell? ⟨b,1,none⟩=some v:=by rw[Lib.cell_of_heap hb2];rfl
 have f1:w2.frozen? ⟨b,1,none⟩=false:=Lib.frozen_of_heap hb2 1;have HM:=lh (show AH (fun x=>x=b\/gs=some x) w w2 from (hm1.mono (F':=fun x=>x=b\/gs=some x) (fun _ _ e=>.inl e)).tr (AH.gb hgrow) (fun x e=>.inl (.inr e)))
 have HNB:=lh (show v'.ownBlock≠some b from fun e=>by
  rcases hat with h | ⟨g,h,hg⟩
  ·exact hne (h.symm.trans e)
  ·rw[e] at h;injection h with h;omega)
 have HAT2:=lh (show v'.ownBlock=gs\/∃ g,v'.ownBlock=some g/\w.heap.size<=g from hat.imp id fun ⟨g,h,hg⟩=>⟨g,h,by omega⟩);have HO:=lh hown';have HGS:=lh hgs;clear hat hgs
 obtain⟨ao,n',cap,rfl⟩:∃ ao n' cap,v'= .slice ao n' cap:=by
  rcases hown'.2 with ⟨hv,_⟩ | ⟨g,cap,cur,hv,_⟩
  ·exact⟨_,_,_,hv⟩
  ·exact⟨_,_,_,hv⟩
 clear hown';go_wp2;go_ret2;refine⟨rfl,_,⟨hB,_,_,.inr rfl,?_,?_,rfl,?_⟩,HM.out.set (p:=⟨b,1,none⟩) (.inl (.inl rfl)) _,HAT2.out⟩
 ·simp[World.setCell,Array.getElem?_modify,hb2]
 ·have e1:Lib.byteCells (l++s)=Lib.byteCells l++Lib.strCells (ts s):=by simp[Lib.byteCells,Lib.strCells]
  have e2:(Lib.byteCells (l++s)).length=l.length+s.length:=by rw[Lib.byteCells_length,List.length_append]
  rw[e2,e1];exact L_ HO.out (fun g e=>(AH.set (F:=fun x=>x=b) (p:=⟨b,1,none⟩) (AH.rfl' _ w2) (.inl rfl) _).block g (Ra HO.out e).2 (fun e2=>HNB.out (by rw[e,e2])))
 ·exact HNB.out
end Go.Proofs.YthibllkleakiiaaGreatDoor
