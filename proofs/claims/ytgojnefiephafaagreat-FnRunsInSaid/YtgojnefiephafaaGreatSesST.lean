/- Parts of one proof, joined. The reference's sessions, their small parts: effects, a new session, one step, what is left, what is shown: contracts. Conditions: bounds on lengths. The reference's PlainSession: its contract. Conditions: bounds on lengths. -/
import Derived.IntWalk
import Derived.Test.YtgojnefiephafaaGreatLwSes
namespace Sg
def effN (g:Graph) (k:Nat):List Int:=whichL (fun i=>decide (kindAt g (i:Int)=2)) k
theorem effN_all (g:Graph):effN g g.length=effs g (List.replicate g.length false):=(effs_none g).symm
theorem effN_succ (g:Graph) (k:Nat):effN g (k + 1)=if kindAt g (k:Int)=2 then effN g k++[(k:Int)] else effN g k:=by
 unfold effN;rw [whichL_succ];by_cases h:kindAt g (k:Int)=2 <;> simp [h]
theorem live_filter (g:Graph) (s:List Bool):(effN g g.length).filter (fun n=>!(s.getD n.toNat false))=effs g s:=by
 have key:∀ k,(effN g k).filter (fun n=>!(s.getD n.toNat false))=whichL (fun i=>decide (kindAt g (i:Int)=2) && !(s.getD i false)) k:=by
  intro k;induction k with
  | zero=>rfl
  | succ k ih =>
   rw [effN_succ,whichL_succ,← ih];by_cases h:kindAt g (k:Int)=2
   ·cases hs:s.getD k false
    ·simp only [h,if_true,List.filter_append,List.filter_cons,List.filter_nil,Int.toNat_natCast,hs,decide_true,Bool.not_false,Bool.and_self]
    ·simp only [h,if_true,List.filter_append,List.filter_cons,List.filter_nil,Int.toNat_natCast,hs,decide_true,Bool.not_true,Bool.and_false,Bool.false_eq_true,if_false,List.append_nil]
   ·simp [h]
 exact key _
theorem effN_len (g:Graph) (k:Nat):(effN g k).length≤k:=whichL_len _ _
end Sg
namespace Go.Proofs.YtgojnefiephafaaGreat
open Go.RowKit
set_option maxHeartbeats 1000000 in
theorem s_effects (A:Option Addr) (c:Nat) (g:Sg.Graph) (w:World) (h:RdN w A g) :
  Calls Tryz.prog 71 #[.agg #[.slice A g.length c]] w fun e w'=>∃ A' c',e = .returned (.slice A' (Sg.effs g (List.replicate g.length false)).length c')∧Own w' w.heap.size 3 1 A' (Sg.effs g (List.replicate g.length false)).length c' (ints (Sg.effs g (List.replicate g.length false)))∧Ext w w':=by
 have hgl:=h.1;have H:=lh h;have HE:=lh (Sg.effN_all g);have HS:=lh (Sg.effN_succ g);have HL:=lh (Sg.effN_len g);have H0:=lh (show Sg.effN g 0=[] from rfl);generalize Sg.effN g=V at *;have e0:=((Ext.rfl' w).al (.cells #[.slice A g.length c] 33)).al (.cells #[] 3);have q0:World.cell? (World.alloc (World.alloc w (.cells #[.slice A g.length c] 33)) (.cells #[] 3)) ⟨w.heap.size,0,none⟩=some (.slice A g.length c):=by simp [go_sem]
 have hown:=Own.new (World.alloc w (.cells #[.slice A g.length c] 33)) (B:=w.heap.size + 1) 3 1 #[] 0 (by simp) (by unfold maxLen;omega) rfl;simp only [World.size_alloc] at hown;have EE:=lh e0;have Q0:=lh q0;have HO:=lh hown;clear h e0 q0 hown;go_enter Tryz.func71,Tryz.ntmps71;go_wp2;go_loopw [3,4] (fun v i wr=>∃ (k:Nat) (A':Option Addr) (c':Nat),k≤g.length∧i = .int .i64 k∧v = .slice A' (V k).length c'∧Hid (Own wr (w.heap.size + 1) 3 1 A' (V k).length c' (ints (V k)))∧Hid (Ext w wr)∧Hid (wr.cell? ⟨w.heap.size,0,none⟩=some (.slice A g.length c))) (fun _ i _=>g.length - (intOf i).toNat)
 case atStart=>exact ⟨0,_,_,Nat.zero_le _,rfl,by rw [H0.out];rfl,lh (by rw [H0.out];exact HO.out),EE,Q0⟩
 case round =>
  obtain ⟨k,A',c',hk,rfl,rfl,hO,hX,hQ⟩:=hrel;have lg:=hQ.out;have hw1:w.heap.size + 1≤wr.heap.size:=blt lg;have bg:=blt lg;have hl:=HL.out k;by_cases hlt:k<g.length
  ·obtain ⟨⟨nk,nf⟩,b,oo,Ap,cp,hn,rfl,hkc,hsc,hf,hfl⟩:=(H.out.ext hX.out).at_ hlt;dsimp only at *;have HK:=lh (show Sg.kindAt g (k:Int)=nk by unfold Sg.kindAt;simp [hn]);have bk:=blt hkc;clear hn hsc hf hfl;have hs:=HS.out k;rw [HK.out] at hs;by_cases hz:nk=2
   ·subst hz;rw [if_pos rfl] at hs;have Hs:=lh hs;clear hs;go_wp2_with (at_builtin;refine wpList_app1 rfl rfl eiInt rfl hO.out rfl rfl (one_int _ _) (by omega) (by omega) (by omega) ?_;intro A2 c2 w2 hown2 hg2 hat2)
    go_roundw
    case rel=>exact ⟨k + 1,A2,c2,by omega,by go_num,by rw [Hs.out];simp,lh (by rw [Hs.out];simpa using hown2),lh (hX.out.gr hg2 fun x hx=>by have:=(hO.out.lt hx).1;omega),lh (grown_cell hg2 lg (fun e=>by have:=(hO.out.lt e).1;omega))⟩
    case measure=>simp [intOf];omega
   ·rw [if_neg hz] at hs;have Hs:=lh hs;have z1:(nk == 2)=false:=by simp [hz]
    clear hs hz;go_wp2;go_roundw
    case rel=>exact ⟨k + 1,A',c',by omega,by go_num,by rw [Hs.out],lh (by rw [Hs.out];exact hO.out),hX,hQ⟩
    case measure=>simp [intOf];omega
  ·obtain rfl:k=g.length:=by omega
   go_wp2;go_ret;rw [← HE.out];exact ⟨A',c',rfl,hO.out.mono (by omega),hX.out⟩
set_option maxRecDepth 100000 in
set_option maxHeartbeats 4000000 in
theorem s_shows (An Av:Option Addr) (cn cv nn nv:Nat) (ns vs:List Int) (w:World) (hnn:ns.length=nn) (hnv:vs.length=nv) (h:Rd w 1 An nn (ints ns)) (hv:Rd w 1 Av nv (ints vs)) (hd:∀ x ∈ ns,0≤x∧x<(nv:Int)) (hl:nn≤1048576) :
  Calls Tryz.prog 72 #[.slice An nn cn,.slice Av nv cv] w fun e w'=>∃ A' c',e = .returned (.slice A' (Sg.showL ns vs).length c')∧Own w' w.heap.size 56 2 A' (Sg.showL ns vs).length c' (shs (Sg.showL ns vs))∧Ext w w':=by
 subst hnn hnv;have HD:=lh (fun x hx=>hd x hx);have hq:∀ k x,ns[k]? = some x→Sg.showL (ns.take (k + 1)) vs=Sg.showL (ns.take k) vs++[⟨x,Sg.rd vs x⟩]:=fun k x hx=>by rw [take_snoc ns k hx];simp [Sg.showL]
 have hL:∀ k,k≤ns.length→(Sg.showL (ns.take k) vs).length=k:=fun k hk=>by rw [Sg.showL_len,List.length_take];omega
 have hE:Sg.showL (ns.take ns.length) vs=Sg.showL ns vs:=by rw [List.take_length]
 have HQ:=lh hq;have HL:=lh hL;have HE:=lh hE;have hbv:=hv.big;have H:=lh h;have HV:=lh hv;have HO:=lh (Own.new w (B:=w.heap.size) 56 2 #[] 0 (Nat.le_refl _) (by unfold maxLen;omega) rfl);have HX:=lh ((Ext.rfl' w).al (.cells #[] 56));clear hd hq hL hE h hv;go_enter Tryz.func72,Tryz.ntmps72;go_wp2_with fail
 go_loopw [5,6] (fun v i wr=>∃ (k:Nat) (A':Option Addr) (c':Nat),k≤ns.length∧i = .int .i64 k∧v = .slice A' k c'∧Hid (Own wr w.heap.size 56 2 A' k c' (shs (Sg.showL (ns.take k) vs)))∧Hid (Ext w wr)) (fun _ i _=>ns.length - (intOf i).toNat)
 case atStart=>exact ⟨0,_,_,Nat.zero_le _,rfl,rfl,HO,HX⟩
 case round =>
  clear HO HX;obtain ⟨k,A',c',hk,rfl,rfl,hO,hX⟩:=hrel;by_cases hlt:k<ns.length
  ·obtain ⟨ba,oa,x,rfl,hx,hcx0⟩:=H.out.at1 hlt;have hcx:=hX.out.cellE hcx0;have hba:=blt hcx0;have hx2:=HD.out x (List.mem_of_getElem? hx);obtain ⟨j,rfl⟩:=Int.eq_ofNat_of_zero_le hx2.1;have hj:j<vs.length:=by omega
   have hjx:(j:Int)<(vs.length:Int):=by omega
   have hkx:(k:Int)<(ns.length:Int):=by omega
   obtain ⟨bb,ob,y,rfl,hy,hcy0⟩:=HV.out.at1 hj;have hcy:=hX.out.cellE hcy0;have hbb:=blt hcy0;have Hk:=lh (HQ.out k j hx);have Hy:=lh (show Sg.rd vs (j:Int)=y by unfold Sg.rd;simp [hy]);have CX:=lh hcx;have CY:=lh hcy;have bx:=blt hcx;have bY:=blt hcy;have E0:=lh ((Ext.rfl' wr).dr);clear hx hy hx2 hcx0 hcy0;go_wp2_with fail
   refine zb 15 (fun W=>W.cell? ⟨ba,oa + k,none⟩=some (.int .i64 j)∧W.cell? ⟨bb,ob + j,none⟩=some (.int .i64 y)) ?_ (fun hHeld=>?_)
   ·exact ⟨E0.out.cellE CX.out,E0.out.cellE CY.out⟩
   refine zy 0 ?_;refine zy 1 ?_;refine zy 2 ?_;refine zy 3 ?_;refine zy 4 ?_;refine zy 5 ?_;refine zy 6 ?_;refine zy 7 ?_;refine zy 8 ?_;refine zy 9 ?_;refine zy 10 ?_;refine zy 11 ?_;refine zy 12 ?_;refine zr 13 rfl fun K hK=>?_;go_simp;try simp only [pg]
   refine hK.out _ _ (fun _=>⟨(E0.out.al (.cells #[.int .i64 j,.int .i64 y] 56)).cellE CX.out,(E0.out.al (.cells #[.int .i64 j,.int .i64 y] 56)).cellE CY.out⟩) (fun hh=>?_);have hHeld:=hh (by decide);clear hK K hh;try simp only [Act.put,pu]
   refine zr 14 rfl fun K hK=>?_;refine held_app1 (w:=wr.drew) (cs:=[.int .i64 j,.int .i64 y]) rfl rfl eiShow rfl hO.out.dr rfl rfl (one_shc ⟨j,y⟩) (by omega) (by omega) (by simpa using hX.out.size) ?_;intro A2 c2 w2 hown2 hg2 hat2;have CX8:=grown_cell hg2 (E0.out.cellE CX.out) (fun e=>by have:=(hO.out.lt e).1;omega);have CY8:=grown_cell hg2 (E0.out.cellE CY.out) (fun e=>by have:=(hO.out.lt e).1;omega);try simp only [pg]
   refine hK.out _ _ (fun _=>⟨CX8,CY8⟩) (fun hh=>?_);have hHeld:=hh (by decide);clear hK K hh;try simp only [Act.put,pu]
   refine zr 15 rfl fun K hK=>?_;go_simp;refine hK.out _ _ (fun e=>absurd rfl e) (fun hh=>?_);clear hK K hHeld hh;try simp only [Act.put,pu]
   refine zn ?_;have HN:=lh hown2;have HG:=lh (hX.out.dr.gr hg2 fun x hx=>(hO.out.dr.lt hx).1);clear hown2 hg2 hat2 CX8 CY8;go_wp2_with fail
   go_roundw
   case rel=>exact ⟨k + 1,A2,c2,by omega,by go_num,by simp,lh (by rw [Hk.out,Hy.out,← shs_snoc];exact HN.out),HG⟩
   case measure=>simp [intOf];omega
  ·obtain rfl:k=ns.length:=by omega
   have e1:=HL.out ns.length (Nat.le_refl _);have e2:=hO.out;rw [HE.out] at e1 e2;have Ho:=lh e2;have E1:=lh e1;clear e1 e2;go_wp2;go_ret;exact ⟨A',c',by rw [E1.out];rfl,by rw [E1.out];exact Ho.out,hX.out⟩
def sesT {B:Nat} (Bs:Nat) (A:Option Addr) (c:Nat) (g:Sg.Graph) (x:Sg.Ses) (n m:Nat) (Ap:Option Addr) (cp:Nat) (As:Option Addr) (cs:Nat) (fl:Nat):List (Th B) :=
 [Th.box B Bs [.slice A g.length c,.int .i64 (x.opn:Int),.slice Ap n cp,.slice As m cs,.int .i64 (fl:Int)],Th.own B 3 1 Ap n cp (ints x.pend),Th.own B 4 1 As m cs (bools x.stop)]
theorem boolsR2 (n:Nat):(madeCells (Value.bool false).cells (n * 1)).toList=bools (List.replicate n false):=by rw [made_one _ _ rfl];simp [bools]
set_option maxRecDepth 100000 in
set_option maxHeartbeats 4000000 in
theorem s_newSession (a:World) (A Ac:Option Addr) (c cc:Nat) (g:Sg.Graph) (x:List Int) (w:World) (hc:Rd w 1 Ac x.length (ints x)) (hg:g.length≤1048576) (hx:x.length≤1048576) (hE:Ext a w) (rs:List (Th a.heap.size)) (hS:Sep rs w) :
  Calls Tryz.prog 68 #[.agg #[.slice A g.length c],.slice Ac x.length cc] w fun e w'=>∃ Bs Ap cp As,e = .returned (.pointer (some ⟨Bs,0,none⟩))∧Sep (sesT (B:=a.heap.size) Bs A c g (Sg.ses0 g x) x.length g.length Ap cp As g.length 0++rs) w'∧Ext w w':=by
 have HB:=lh ((Ext.rfl' w).al (.cells #[.slice A g.length c] 33));have q0:World.cell? (World.alloc w (.cells #[.slice A g.length c] 33)) ⟨w.heap.size,0,none⟩=some (.slice A g.length c):=by simp [go_sem]
 have Q0:=lh q0;have HC:=lh (hc.ext HB.out);have HE:=lh (hE.tr HB.out);have hsz:=HE.out.size;have HS:=lh (Sep.ext hS HB.out);clear hc hE hS;go_enter Tryz.func68,Tryz.ntmps68;go_upto_region 1 with fail
 generalize World.alloc w (.cells #[.slice A g.length c] 33)=w0 at *;generalize w.heap.size=ba at *;have bq:=blt q0;have SS:=lh (Sep.ext HS.out (Ext.rfl' w0).dr);have E0:=lh ((Ext.rfl' w0).dr);go_wp2_with fail
 refine zb 9 (fun W=>W.cell? ⟨ba,0,none⟩=some (.slice A g.length c)) ?_ (fun hHeld=>?_)
 ·exact E0.out.cellE Q0.out
 refine zy 0 ?_;refine zy 1 ?_;refine zy 3 ?_;refine zy 4 ?_;refine zy 5 ?_;refine zr2 2 6 rfl rfl (fun K hK=>?_) (fun K hK=>?_)
 ·go_simp;refine (s_copyInts Ac x.length cc x _ (HC.out.ext E0.out) (by omega)).mono ?_;rintro e v1 ⟨Ap,cp,rfl,hO1,he1⟩;have O1:=lh hO1;have E1:=lh (E0.out.tr he1);have SS:=lh (Sep.add SS.out he1 (Th.own a.heap.size 3 1 Ap x.length cp (ints x)) (hO1.mono (by have:=E0.out.size;(try simp only [World.size_drew] at *);omega)) (fun b e=>(hO1.lt e).1));clear he1 hO1;try go_wp2_with fail
  refine hK.out _ _ (fun _=>(E1.out).cellE Q0.out) (fun hh=>?_);have hHeld:=hh (by decide);clear hK K hh;try simp only [Act.put,pu]
  refine zr 6 rfl fun K hK=>?_;refine held_mkb rfl rfl eiBool rfl rfl (by omega) (by omega) (Nat.le_refl _) ?_;intro bs v2 hbs hO2 he2;rw [boolsR2] at hO2;have O1:=lh (O1.out.ext he2);have O2:=lh hO2;have E2:=lh (E1.out.tr he2);have SS:=lh (Sep.add SS.out he2 (Th.own a.heap.size 4 1 (some ⟨bs,0,none⟩) g.length g.length (bools (List.replicate g.length false))) (hO2.mono (by have:=E1.out.size;(try simp only [World.size_drew] at *);omega)) (fun b e=>(hO2.lt e).1));clear he2 hO2;clear hbs;try simp only [pg]
  refine hK.out _ _ (fun _=>(E2.out).cellE Q0.out) (fun hh=>?_);have hHeld:=hh (by decide);clear hK K hh;try simp only [Act.put,pu]
  refine zy 7 ?_;refine zr 8 rfl fun K hK=>?_;have hbx:=Bx.new v2 #[.slice A g.length c,.int .i64 0,.slice Ap x.length cp,.slice (some ⟨bs,0,none⟩) g.length g.length,.int .i64 0] 113;have he3:=(Ext.rfl' v2).al (.cells #[.slice A g.length c,.int .i64 0,.slice Ap x.length cp,.slice (some ⟨bs,0,none⟩) g.length g.length,.int .i64 0] 113);have SB:=lh (Sep.add SS.out he3 (Th.box a.heap.size v2.heap.size [.slice A g.length c,.int .i64 0,.slice Ap x.length cp,.slice (some ⟨bs,0,none⟩) g.length g.length,.int .i64 0]) ⟨hbx,by have:=E2.out.size;(try simp only [World.size_drew] at *);omega⟩ (fun b e=>by have e2:b=v2.heap.size:=e;omega));have E3:=lh (E2.out.tr he3);clear hbx he3;go_simp;try simp only [pg]
  refine hK.out _ _ (fun _=>(E3.out).cellE Q0.out) (fun hh=>?_);have hHeld:=hh (by decide);clear hK K hh;try simp only [Act.put,pu]
  refine zr 9 rfl fun K hK=>?_;go_simp;refine hK.out _ _ (fun e=>absurd rfl e) (fun hh=>?_);clear hK K hHeld hh;try simp only [Act.put,pu]
  refine zn ?_;go_wp2;go_ret;exact ⟨_,Ap,cp,(some ⟨bs,0,none⟩),rfl,Sep.perm SB.out ((List.Perm.swap _ _ _).cons _),HB.out.tr E3.out⟩
 ·refine held_mkb rfl rfl eiBool rfl rfl (by omega) (by omega) (Nat.le_refl _) ?_;intro bs v1 hbs hO2 he1;rw [boolsR2] at hO2;have O2:=lh hO2;have E1:=lh (E0.out.tr he1);have SS:=lh (Sep.add SS.out he1 (Th.own a.heap.size 4 1 (some ⟨bs,0,none⟩) g.length g.length (bools (List.replicate g.length false))) (hO2.mono (by have:=E0.out.size;(try simp only [World.size_drew] at *);omega)) (fun b e=>(hO2.lt e).1));clear he1 hO2;clear hbs;try simp only [pg]
  refine hK.out _ _ (fun _=>(E1.out).cellE Q0.out) (fun hh=>?_);have hHeld:=hh (by decide);clear hK K hh;try simp only [Act.put,pu]
  refine zr 2 rfl fun K hK=>?_;go_simp;refine (s_copyInts Ac x.length cc x _ (HC.out.ext E1.out) (by omega)).mono ?_;rintro e v2 ⟨Ap,cp,rfl,hO1,he2⟩;have O2:=lh (O2.out.ext he2);have O1:=lh hO1;have E2:=lh (E1.out.tr he2);have SS:=lh (Sep.add SS.out he2 (Th.own a.heap.size 3 1 Ap x.length cp (ints x)) (hO1.mono (by have:=E1.out.size;(try simp only [World.size_drew] at *);omega)) (fun b e=>(hO1.lt e).1));clear he2 hO1;try go_wp2_with fail
  refine hK.out _ _ (fun _=>(E2.out).cellE Q0.out) (fun hh=>?_);have hHeld:=hh (by decide);clear hK K hh;try simp only [Act.put,pu]
  refine zy 7 ?_;refine zr 8 rfl fun K hK=>?_;have hbx:=Bx.new v2 #[.slice A g.length c,.int .i64 0,.slice Ap x.length cp,.slice (some ⟨bs,0,none⟩) g.length g.length,.int .i64 0] 113;have he3:=(Ext.rfl' v2).al (.cells #[.slice A g.length c,.int .i64 0,.slice Ap x.length cp,.slice (some ⟨bs,0,none⟩) g.length g.length,.int .i64 0] 113);have SB:=lh (Sep.add SS.out he3 (Th.box a.heap.size v2.heap.size [.slice A g.length c,.int .i64 0,.slice Ap x.length cp,.slice (some ⟨bs,0,none⟩) g.length g.length,.int .i64 0]) ⟨hbx,by have:=E2.out.size;(try simp only [World.size_drew] at *);omega⟩ (fun b e=>by have e2:b=v2.heap.size:=e;omega));have E3:=lh (E2.out.tr he3);clear hbx he3;go_simp;try simp only [pg]
  refine hK.out _ _ (fun _=>(E3.out).cellE Q0.out) (fun hh=>?_);have hHeld:=hh (by decide);clear hK K hh;try simp only [Act.put,pu]
  refine zr 9 rfl fun K hK=>?_;go_simp;refine hK.out _ _ (fun e=>absurd rfl e) (fun hh=>?_);clear hK K hHeld hh;try simp only [Act.put,pu]
  refine zn ?_;go_wp2;go_ret;exact ⟨_,Ap,cp,(some ⟨bs,0,none⟩),rfl,Sep.perm SB.out (List.Perm.refl _),HB.out.tr E3.out⟩
set_option maxRecDepth 100000 in
set_option maxHeartbeats 8000000 in
theorem s_stepOf (a:World) (Bs:Nat) (A Ap As:Option Addr) (c cp cs n m fl:Nat) (g:Sg.Graph) (o:Nat) (p:List Int) (s:List Bool) (ak an av:Int) (rs:List (Th a.heap.size)) (w:World) (hE:Ext a w)
  (hS:Sep (sesT Bs A c g ⟨o,p,s⟩ n m Ap cp As cs fl++rs) w) (hn:p.length=n) (hm:s.length=m) (hng:n=g.length) (hmg:m=g.length) (_hg:g.length≤1048576) (ho:o≤30) (hfl:fl≤30) (hok:Sg.actOk g ⟨ak,an,av⟩=true) :
  Calls Tryz.prog 73 #[.pointer (some ⟨Bs,0,none⟩),.agg #[.int .i64 ak,.int .i64 an,.int .i64 av]] w fun e w'=>∃ fl',fl'≤fl + 1∧e = .returned (.bool (Sg.stepS ⟨o,p,s⟩ ⟨ak,an,av⟩).2)∧Ext a w' ∧
   Sep (sesT Bs A c g (Sg.stepS ⟨o,p,s⟩ ⟨ak,an,av⟩).1 n m Ap cp As cs fl'++rs) w':=by
 have HN:=lh hn;have HM:=lh hm;have HNG:=lh hng;have HMG:=lh hmg;have hAC:=lh hok;have EA:=lh ((Ext.rfl' w).al (.cells #[.int .i64 ak,.int .i64 an,.int .i64 av] 58));have a0:World.cell? (World.alloc w (.cells #[.int .i64 ak,.int .i64 an,.int .i64 av] 58)) ⟨w.heap.size,0,none⟩=some (.int .i64 ak):=by simp [go_sem]
 have a1:World.cell? (World.alloc w (.cells #[.int .i64 ak,.int .i64 an,.int .i64 av] 58)) ⟨w.heap.size,1,none⟩=some (.int .i64 an):=by simp [go_sem]
 have a2:World.cell? (World.alloc w (.cells #[.int .i64 ak,.int .i64 an,.int .i64 av] 58)) ⟨w.heap.size,2,none⟩=some (.int .i64 av):=by simp [go_sem]
 have A0:=lh a0;have A1:=lh a1;have A2:=lh a2;have SV:=lh (Sep.ext hS EA.out);have EV:=lh (hE.tr EA.out);have hba:=hE.size;have hpb:∀ b,blk Ap=some b→b<w.heap.size:=fun b hb=>((Sep.get hS 1 rfl:Own _ _ _ _ _ _ _ _).lt hb).2;have hsb:∀ b,blk As=some b→b<w.heap.size:=fun b hb=>((Sep.get hS 2 rfl:Own _ _ _ _ _ _ _ _).lt hb).2;have hbb:Bs<w.heap.size:=((Sep.get hS 0 rfl:Bx _ _ _∧_).1).lt;have HPB:=lh hpb;have HSB:=lh hsb;clear hS hE hn hm hng hmg hok a0 a1 a2 hpb hsb;go_enter Tryz.func73,Tryz.ntmps73;go_upto_region 1 with fail
 generalize World.alloc w (.cells #[.int .i64 ak,.int .i64 an,.int .i64 av] 58)=v1 at *;clear EA;generalize w.heap.size=ba at *;have a0:=A0.out;have a1:=A1.out;have a2:=A2.out;have sb:=blt a0;have bx:Bx v1 Bs [.slice A g.length c,.int .i64 (o:Int),.slice Ap n cp,.slice As m cs,.int .i64 (fl:Int)]:=(Sep.get SV.out 0 rfl:Bx _ _ _∧_).1;have hBs:a.heap.size≤Bs:=(Sep.get SV.out 0 rfl:Bx _ _ _∧_).2;have BX:=lh bx;have x1:=bx.cell (j:=1) rfl;have x2:=bx.cell (j:=2) rfl;have x3:=bx.cell (j:=3) rfl;have x4:=bx.cell (j:=4) rfl;have f1:=bx.free 1;have f4:=bx.free 4;clear bx;have iwo:IntKind.i64.wrap ((o:Int) + 1)=(o:Int) + 1:=IntWalk.i64_in _ (by omega);have iwf:IntKind.i64.wrap ((fl:Int) + 1)=(fl:Int) + 1:=IntWalk.i64_in _ (by omega);by_cases hk0:ak=0
 ·subst hk0;have hao:=hAC.out;unfold Sg.actOk at hao;simp only [if_true,Bool.and_eq_true,Sg.isCell,decide_eq_true_eq,Sg.inR] at hao;obtain ⟨j,rfl⟩:=Int.eq_ofNat_of_zero_le hao.1.1.1;have hj:j<n:=by have:=HNG.out;omega
  have hjx:(j:Int)<(n:Int):=by omega
  clear hao;have hN:Own v1 a.heap.size 3 1 Ap n cp (ints p):=Sep.get SV.out 1 rfl;obtain ⟨bn,rfl,hbn⟩:=hN.at_ (show 0<n * 1 by omega);obtain ⟨u,hu⟩:∃ u,(ints p)[j]? = some u:=⟨_,List.getElem?_eq_getElem (by rw [hN.1];omega)⟩;have r0:=hN.cell hu;have q0:=hN.free j;have ltn:=(hN.lt (g:=bn) rfl).2;have hbna:=HPB.out bn rfl;have hne:Bs≠bn:=fun e=>by have:=(SV.out).2.1 (Th.own a.heap.size 3 1 (some ⟨bn,0,none⟩) n cp (ints p)) (by simp) Bs rfl;exact this (by rw [e];rfl)
  have SV2:=lh (Sep.st SV.out 1 rfl ⟨bn,j,none⟩ (.int .i64 av) rfl (Th.own a.heap.size 3 1 (some ⟨bn,0,none⟩) n cp (ints (p.set j av))) (by have h9:=hN.st j (.int .i64 av);rw [show (ints p).set j (.int .i64 av)=ints (p.set j av) by simp [ints,List.map_set]] at h9;exact h9) (fun b hb=>hb));have EV2:=lh (EV.out.set (p:=⟨bn,j,none⟩) hbn (.int .i64 av));have E0:=lh ((Ext.rfl' v1).dr);have RD:=lh (E0.out.cellE r0);clear hu hN;go_wp2_with fail
  refine zb 9 (fun W=>W.cell? ⟨Bs,2,none⟩=some (.slice (some ⟨bn,0,none⟩) n cp)∧W.cell? ⟨ba,1,none⟩=some (.int .i64 j)∧W.cell? ⟨ba,2,none⟩=some (.int .i64 av)) ?_ (fun hHeld=>?_)
  ·exact ⟨E0.out.cellE x2,E0.out.cellE a1,E0.out.cellE a2⟩
  refine zy 0 ?_;refine zy 1 ?_;refine zy 2 ?_;refine zy 3 ?_;refine zy 4 ?_;refine zy 5 ?_;refine zy 6 ?_;refine zy 7 ?_;refine zy 8 ?_;refine zr 9 rfl fun K hK=>?_;go_simp;refine hK.out _ _ (fun e=>absurd rfl e) (fun hh=>?_);clear hK K hHeld hh;try simp only [Act.put]
  refine zn ?_;skip
  have hdr:World.setCell (World.drew v1) ⟨bn,j,none⟩ (.int .i64 av)=World.drew (World.setCell v1 ⟨bn,j,none⟩ (.int .i64 av)):=rfl;have S2:=lh (Sep.ext SV2.out ((Ext.rfl' _).dr));have E2:=lh (EV2.out.dr);try rw [hdr]
  clear hdr SV2 EV2 SV EV r0 q0 x1 x2 x3 x4 f1 f4 RD a0 a1 a2 BX E0 A0 A1 A2;generalize World.drew (World.setCell v1 ⟨bn,j,none⟩ (.int .i64 av))=v2 at *;have bx:Bx v2 Bs [.slice A g.length c,.int .i64 (o:Int),.slice (some ⟨bn,0,none⟩) n cp,.slice As m cs,.int .i64 (fl:Int)]:=(Sep.get S2.out 0 rfl:Bx _ _ _∧_).1;have BX:=lh bx;have x1:=bx.cell (j:=1) rfl;have x4:=bx.cell (j:=4) rfl;have f4:=bx.free 4;clear bx;by_cases ho0:o=0
  ·subst ho0;go_wp2;go_ret;refine ⟨fl + 1,Nat.le_refl _,rfl,E2.out.set (p:=⟨Bs,4,none⟩) hBs _,?_⟩;exact Sep.st S2.out 0 rfl ⟨Bs,4,none⟩ _ rfl (Th.box a.heap.size Bs [.slice A g.length c,.int .i64 ((0:Nat):Int),.slice (some ⟨bn,0,none⟩) n cp,.slice As m cs,.int .i64 ((fl + 1:Nat):Int)]) ⟨BX.out.set 4 _,hBs⟩ (fun _ e=>e)
  ·have z0:decide ((0:Int)<(o:Int))=true:=by simp;omega
   have HO:=lh (show (Sg.stepS ⟨o,p,s⟩ ⟨0,(j:Int),av⟩)=(⟨o,p.set j av,s⟩,false) by simp [Sg.stepS,ho0]);go_wp2;go_ret;rw [HO.out];exact ⟨fl,by omega,rfl,E2.out,S2.out⟩
 have y0:(ak == 0)=false:=by simp [hk0]
 by_cases hk1:ak=1
 ·subst hk1;have hao:=hAC.out;unfold Sg.actOk at hao;simp [Sg.inR] at hao
  obtain ⟨j,rfl⟩:=Int.eq_ofNat_of_zero_le hao.1.1.1;have hj:j<m:=by have:=HMG.out;omega
  have hjx:(j:Int)<(m:Int):=by omega
  clear hao;have hN:Own v1 a.heap.size 4 1 As m cs (bools s):=Sep.get SV.out 2 rfl;obtain ⟨bn,rfl,hbn⟩:=hN.at_ (show 0<m * 1 by omega);obtain ⟨u,hu⟩:∃ u,(bools s)[j]? = some u:=⟨_,List.getElem?_eq_getElem (by rw [hN.1];omega)⟩;have r0:=hN.cell hu;have q0:=hN.free j;have ltn:=(hN.lt (g:=bn) rfl).2;have hbna:=HSB.out bn rfl;have SV2:=lh (Sep.st SV.out 2 rfl ⟨bn,j,none⟩ (.bool true) rfl (Th.own a.heap.size 4 1 (some ⟨bn,0,none⟩) m cs (bools (s.set j true))) (by have h9:=hN.st j (.bool true);rw [show (bools s).set j (.bool true)=bools (s.set j true) by simp [bools,List.map_set]] at h9;exact h9) (fun b hb=>hb));have EV2:=lh (EV.out.set (p:=⟨bn,j,none⟩) hbn (.bool true));have E0:=lh ((Ext.rfl' v1).dr);clear hu hN;go_wp2_with fail
  refine zb 7 (fun W=>W.cell? ⟨Bs,3,none⟩=some (.slice (some ⟨bn,0,none⟩) m cs)∧W.cell? ⟨ba,1,none⟩=some (.int .i64 j)) ?_ (fun hHeld=>?_)
  ·exact ⟨E0.out.cellE x3,E0.out.cellE a1⟩
  refine zy 0 ?_;refine zy 1 ?_;refine zy 2 ?_;refine zy 3 ?_;refine zy 4 ?_;refine zy 5 ?_;refine zy 6 ?_;refine zr 7 rfl fun K hK=>?_;go_simp;refine hK.out _ _ (fun e=>absurd rfl e) (fun hh=>?_);clear hK K hHeld hh;try simp only [Act.put]
  refine zn ?_;skip
  have HO:=lh (show (Sg.stepS ⟨o,p,s⟩ ⟨1,(j:Int),av⟩)=(⟨o,p,s.set j true⟩,false) by simp [Sg.stepS]);go_wp2;go_ret;rw [HO.out];exact ⟨fl,by omega,rfl,EV2.out.dr,Sep.ext SV2.out ((Ext.rfl' _).dr)⟩
 have y1:(ak == 1)=false:=by simp [hk1]
 by_cases hk2:ak=2
 ·subst hk2;have HO:=lh (show (Sg.stepS ⟨o,p,s⟩ ⟨2,an,av⟩)=(⟨o + 1,p,s⟩,false) by simp [Sg.stepS]);have z1:decide ((0:Int)<(o:Int) + 1)=true:=decide_eq_true (by omega);go_wp2;go_ret;rw [HO.out];refine ⟨fl,by omega,rfl,EV.out.set (p:=⟨Bs,1,none⟩) hBs _,?_⟩;exact Sep.st SV.out 0 rfl ⟨Bs,1,none⟩ _ rfl (Th.box a.heap.size Bs [.slice A g.length c,.int .i64 ((o + 1:Nat):Int),.slice Ap n cp,.slice As m cs,.int .i64 (fl:Int)]) ⟨BX.out.set 1 _,hBs⟩ (fun _ e=>e)
 have y2:(ak == 2)=false:=by simp [hk2]
 obtain rfl:ak=3:=by
  have hao:=hAC.out;unfold Sg.actOk at hao;rw [if_neg hk0,if_neg hk1] at hao;split at hao
  ·rename_i h;rcases h with h | h
   ·exact absurd h hk2
   ·exact h
  ·cases hao
 rcases o with _ | _ | o
 ·have HO:=lh (show (Sg.stepS ⟨0,p,s⟩ ⟨3,an,av⟩)=(⟨0,p,s⟩,false) by simp [Sg.stepS]);go_wp2;go_ret;rw [HO.out];exact ⟨fl,by omega,rfl,EV.out,SV.out⟩
 ·have HO:=lh (show (Sg.stepS ⟨0 + 1,p,s⟩ ⟨3,an,av⟩)=(⟨0,p,s⟩,true) by simp [Sg.stepS]);have BY:=lh (BX.out.set 1 (.int .i64 0));go_wp2_with fail
  go_ret;rw [HO.out];refine ⟨fl + 1,Nat.le_refl _,rfl,(EV.out.set (p:=⟨Bs,1,none⟩) hBs _).set (p:=⟨Bs,4,none⟩) hBs _,?_⟩;have S3:=Sep.st SV.out 0 rfl ⟨Bs,1,none⟩ (.int .i64 0) rfl (Th.box a.heap.size Bs [.slice A g.length c,.int .i64 0,.slice Ap n cp,.slice As m cs,.int .i64 (fl:Int)]) ⟨BX.out.set 1 _,hBs⟩ (fun _ e=>e);exact Sep.st S3 0 rfl ⟨Bs,4,none⟩ _ rfl (Th.box a.heap.size Bs [.slice A g.length c,.int .i64 ((0:Nat):Int),.slice Ap n cp,.slice As m cs,.int .i64 ((fl + 1:Nat):Int)]) ⟨BY.out.set 4 _,hBs⟩ (fun _ e=>e)
 ·have HO:=lh (show (Sg.stepS ⟨o + 1 + 1,p,s⟩ ⟨3,an,av⟩)=(⟨o + 1,p,s⟩,false) by simp [Sg.stepS]);have iw:IntKind.i64.wrap (((o + 1 + 1:Nat):Int) - 1)=((o + 1:Nat):Int):=by rw [show (((o + 1 + 1:Nat):Int) - 1)=((o + 1:Nat):Int) by omega];exact IntWalk.i64_in _ (by omega)
  have z1:decide ((0:Int)<((o + 1:Nat):Int))=true:=decide_eq_true (by omega);go_wp2;go_ret;rw [HO.out];refine ⟨fl,by omega,rfl,EV.out.set (p:=⟨Bs,1,none⟩) hBs _,?_⟩;exact Sep.st SV.out 0 rfl ⟨Bs,1,none⟩ _ rfl (Th.box a.heap.size Bs [.slice A g.length c,.int .i64 ((o + 1:Nat):Int),.slice Ap n cp,.slice As m cs,.int .i64 (fl:Int)]) ⟨BX.out.set 1 _,hBs⟩ (fun _ e=>e)
end Go.Proofs.YtgojnefiephafaaGreat
namespace Go.Proofs.YtgojnefiephafaaGreat
open Go.RowKit
set_option maxRecDepth 100000 in
set_option maxHeartbeats 4000000 in
theorem s_live (a:World) (Bs:Nat) (A Ap As:Option Addr) (c cp cs n m fl:Nat) (g:Sg.Graph) (o:Nat) (p:List Int) (s:List Bool) (rs:List (Th a.heap.size)) (w:World) (hA:RdN a A g) (hE:Ext a w)
  (hS:Sep (sesT Bs A c g ⟨o,p,s⟩ n m Ap cp As cs fl++rs) w) (hm:s.length=m) (hmg:m=g.length) :
  Calls Tryz.prog 76 #[.pointer (some ⟨Bs,0,none⟩)] w fun e w'=>∃ A' c',e = .returned (.slice A' (Sg.effs g s).length c')∧Own w' w.heap.size 3 1 A' (Sg.effs g s).length c' (ints (Sg.effs g s))∧Ext w w':=by
 subst hm;have hgl:=hA.1;have EA:=lh ((Ext.rfl' w).al (.cells #[] 3));have HA:=lh (hA.ext (hE.tr EA.out));have HMG:=lh hmg;have bx:Bx w Bs [.slice A g.length c,.int .i64 (o:Int),.slice Ap n cp,.slice As s.length cs,.int .i64 (fl:Int)]:=(Sep.get hS 0 rfl:Bx _ _ _∧_).1;have x0:=EA.out.cellE (bx.cell (j:=0) rfl);have X3:=lh (bx.cell (j:=3) rfl);have RS:=lh ((Sep.get hS 2 rfl:Own _ _ _ _ _ _ _ _).rd);have hown:=Own.new w (B:=w.heap.size) 3 1 #[] 0 (Nat.le_refl _) (by unfold maxLen;omega) rfl;have HO:=lh hown;have HF:=lh (Sg.live_filter g s);have HEN:=lh (Sg.effN_all g);have HLE:=lh (Sg.effN_len g g.length);have HLT:=lh (fun n (h:n ∈ Sg.effN g g.length)=>by rw [Sg.effN_all] at h;exact mem_effs_lt h);have HEF:=lh (fun w1 h1=>by have:=s_effects A c g w1 h1;rw [← Sg.effN_all] at this;exact this);generalize Sg.effN g g.length=ef at *;have hef:ef.length≤1048576:=by have:=HLE.out;omega
 clear hS bx hown hmg hE;have bq:=blt x0;go_enter Tryz.func76,Tryz.ntmps76;go_upto_region 3 with (go_at_call 71;refine (HEF.out _ HA.out).mono ?_;rintro e w1 ⟨A1,c1,rfl,hO1,he1⟩;have O1:=lh hO1;have E1:=lh (EA.out.tr he1);have O0:=lh (HO.out.ext he1);clear hO1 he1)
 clear HO HEF x0 bq;have HD1:=lh (show ∀ b,blk (some ⟨w.heap.size,0,none⟩)=some b→blk A1≠some b from fun b hb hb1=>by have h2:=(O1.out.lt hb1).1;simp [blk] at hb;simp at h2;omega)
 have hq:∀ k x,ef[k]? = some x→(ef.take (k + 1)).filter (fun n=>!(s.getD n.toNat false))=(ef.take k).filter (fun n=>!(s.getD n.toNat false))++(if s.getD x.toNat false=true then [] else [x]):=fun k x hx=>by
  rw [take_snoc ef k hx,List.filter_append];cases hs:s.getD x.toNat false <;> (simp only [List.filter_cons,List.filter_nil,hs];rfl)
 have hL:∀ k,((ef.take k).filter (fun n=>!(s.getD n.toNat false))).length≤k:=fun k=>Nat.le_trans (List.length_filter_le _ _) (by rw [List.length_take];omega);have h00:(ef.take 0).filter (fun n=>!(s.getD n.toNat false))=[]:=rfl;have hend:(ef.take ef.length).filter (fun n=>!(s.getD n.toNat false))=Sg.effs g s:=by rw [List.take_length];exact HF.out
 obtain ⟨V,hV⟩:∃ V:Nat→List Int,∀ k,V k=(ef.take k).filter (fun n=>!(s.getD n.toNat false)):=⟨_,fun _=>rfl⟩;simp only [← hV] at hq hL h00 hend;have HQ:=lh hq;have HL:=lh hL;have H00:=lh h00;have HEND:=lh hend;clear hq hL h00 hend hV HF;go_wp2_with fail
 go_loopw [3,5] (fun v i wr=>∃ (k:Nat) (A':Option Addr) (c':Nat),k≤ef.length∧i = .int .i64 k∧v = .slice A' (V k).length c'∧Hid (Own wr w.heap.size 3 1 A' (V k).length c' (ints (V k)))∧Hid (∀ b,blk A'=some b→blk A1≠some b)∧Hid (Ext w wr)∧Hid (Own wr w.heap.size 3 1 A1 ef.length c1 (ints ef))) (fun _ i _=>ef.length - (intOf i).toNat)
 case atStart=>exact ⟨0,_,_,Nat.zero_le _,rfl,by rw [H00.out];rfl,lh (by rw [H00.out];exact O0.out),HD1,E1,lh (O1.out.mono (by simp))⟩
 case round =>
  clear O0 O1;obtain ⟨k,A',c',hk,rfl,rfl,hO,hD,hX,hR⟩:=hrel;have hvl:=HL.out k;have x3:=hX.out.cellE X3.out;have b3:=blt x3;by_cases hlt:k<ef.length
  ·obtain ⟨ba,oa,x,rfl,hx,hcx⟩:=hR.out.rd.at1 hlt;have hx2:=HLT.out x (List.mem_of_getElem? hx);obtain ⟨j,rfl⟩:=Int.eq_ofNat_of_zero_le hx2.1;have hj:j<s.length:=by have:=HMG.out;omega
   have hjx:(j:Int)<(s.length:Int):=by omega
   have hkx:(k:Int)<(ef.length:Int):=by omega
   obtain ⟨bb,ob,y,rfl,hy,hcy⟩:=(RS.out.ext hX.out).atB hj;have Hk:=lh (HQ.out k j hx);have Hy:=lh (show s.getD ((j:Int).toNat) false=y by simp [hy]);have bx:=blt hcx;have bY:=blt hcy;have E0:=lh ((Ext.rfl' wr).dr);clear hx hy hx2;cases y
   ·have hs:=Hk.out;rw [Hy.out] at hs;simp only [Bool.false_eq_true,if_false] at hs;have Hs:=lh hs;clear hs Hk Hy;go_wp2_with fail
    refine wp_region_held_drew (S:=(fun W=>W.cell? ⟨Bs,3,none⟩=some (.slice (some ⟨bb,ob,none⟩) s.length cs)∧W.cell? ⟨ba,oa + k,none⟩=some (.int .i64 j)∧W.cell? ⟨bb,ob + j,none⟩=some (.bool false))) (by kernel_rfl) ?_ (fun hHeld=>?_)
    ·exact ⟨E0.out.cellE x3,E0.out.cellE hcx,E0.out.cellE hcy⟩
    refine ty 0 ?_;refine ty 1 ?_;refine ty 2 ?_;refine ty 3 ?_;refine ty 4 ?_;refine ty 5 ?_;refine ty 6 ?_;refine ty 7 ?_;refine ty 8 ?_;refine ty 9 ?_;refine ty 10 ?_;refine dn ?_;skip
    have hcx2:=E0.out.cellE hcx;have bx2:=blt hcx2;have hO2:=lh hO.out.dr;have hX2:=lh hX.out.dr;have hR2:=lh (hR.out.ext E0.out);generalize World.drew wr=wd at *;go_wp2_with (at_builtin;refine wpList_app1 rfl rfl eiInt rfl hO2.out rfl rfl (one_int _ _) (by omega) (by omega) hX2.out.size ?_;intro A2 c2 w2 hown2 hg2 hat2)
    have HR:=lh (hR2.out.gr hg2 (.inr fun e=>hD.out ba e.symm rfl))
    have HD2:=lh (show ∀ b,blk A2=some b→blk (some ⟨ba,oa,none⟩)≠some b from fun b hb hb1=>by
     rcases hat2 with h8 | ⟨g8,h8,h9⟩
     ·exact hD.out b (h8 ▸ hb) hb1
     ·rw [h8] at hb;injection hb with hb;have:=(hR2.out.lt hb1).2;omega)
    go_roundw
    case rel=>exact ⟨k + 1,A2,c2,by omega,by go_num,by rw [Hs.out];simp,lh (by rw [Hs.out];simpa using hown2),HD2,lh (hX2.out.gr hg2 fun x hx=>(hO2.out.lt hx).1),HR⟩
    case measure=>simp [intOf];omega
   ·have hs:=Hk.out;rw [Hy.out] at hs;simp only [if_true,List.append_nil] at hs;have Hs:=lh hs;clear hs Hk Hy;go_wp2_with fail
    refine wp_region_held_drew (S:=(fun W=>W.cell? ⟨Bs,3,none⟩=some (.slice (some ⟨bb,ob,none⟩) s.length cs)∧W.cell? ⟨ba,oa + k,none⟩=some (.int .i64 j)∧W.cell? ⟨bb,ob + j,none⟩=some (.bool true))) (by kernel_rfl) ?_ (fun hHeld=>?_)
    ·exact ⟨E0.out.cellE x3,E0.out.cellE hcx,E0.out.cellE hcy⟩
    refine ty 0 ?_;refine ty 1 ?_;refine ty 2 ?_;refine ty 3 ?_;refine ty 4 ?_;refine ty 5 ?_;refine ty 6 ?_;refine ty 7 ?_;refine ty 8 ?_;refine ty 9 ?_;refine ty 10 ?_;refine dn ?_;skip
    go_wp2;go_roundw
    case rel=>exact ⟨k + 1,A',c',by omega,by go_num,by rw [Hs.out],lh (by rw [Hs.out];exact hO.out.dr),hD,lh hX.out.dr,lh (hR.out.ext E0.out)⟩
    case measure=>simp [intOf];omega
  ·obtain rfl:k=ef.length:=by omega
   have e1:=hO.out;rw [HEND.out] at e1;have Ho:=lh e1;have hvv:(V ef.length).length=(Sg.effs g s).length:=by rw [HEND.out]
   have HV:=lh hvv;clear e1 hvv;go_wp2;go_ret;exact ⟨A',c',by rw [HV.out];rfl,Ho.out,hX.out⟩
end Go.Proofs.YtgojnefiephafaaGreat
