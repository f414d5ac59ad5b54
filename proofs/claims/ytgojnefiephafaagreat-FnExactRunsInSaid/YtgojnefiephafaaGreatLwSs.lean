/- Parts of one proof, joined. Readings of sessions handed in as arguments. Conditions: the argument is readable. The laws' acts and shows: sizes, copies, equality, marks: contracts. Conditions: bounds on lengths. -/
import Derived.Test.YtgojnefiephafaaGreatOpenAll
import Derived.Test.YtgojnefiephafaaGreatSesAB
namespace Go.Proofs.YtgojnefiephafaaGreat
open Go.RowKit Go.ChangeShapes Go.WideShapes Go.Deep
section
variable {H:Type} {enc:TypeId × Value→H} {w:World} {base:Nat} {spare:Nat→Bool} {held:Bool}
set_option maxRecDepth 100000 in
theorem rd_act {n:Nat} {cs:List Value} {x:DataW H × List MemPlace} (h:DataW.trod enc Tryz.prog w base spare held n 72 cs=some x):∃ p:Sg.Act,cs=acs p:=by
 obtain ⟨hl,m,hf⟩:=rd_fields Tryz.underlying72 (by kernel_rfl) (by kernel_rfl) h;obtain ⟨v0,y0,h0,g0⟩:=hf 0 _ rfl;obtain ⟨z0,e0⟩:=rd_int g0;simp only [List.cons.injEq,and_true] at e0;subst e0;obtain ⟨v1,y1,h1,g1⟩:=hf 1 _ rfl;obtain ⟨z1,e1⟩:=rd_int g1;simp only [List.cons.injEq,and_true] at e1;subst e1;obtain ⟨v2,y2,h2,g2⟩:=hf 2 _ rfl;obtain ⟨z2,e2⟩:=rd_int g2;simp only [List.cons.injEq,and_true] at e2;subst e2;refine ⟨⟨z0,z1,z2⟩,?_⟩;change cs.length=3 at hl
 match cs,hl with
 | [c0,c1,c2],_ =>
  simp only [List.getElem?_cons_zero,List.getElem?_cons_succ,Option.some.injEq] at h0 h1 h2;subst h0 h1 h2;rfl
set_option maxRecDepth 100000 in
theorem rd_acts {n:Nat} {cs:List Value} {x:DataW H × List MemPlace} (h:DataW.trod enc Tryz.prog w base spare held n 26 cs=some x):∃ (A:Option Addr) (c:Nat) (f:List Sg.Act),cs=[.slice A f.length c]∧Rd w 3 A f.length (acts f):=by
 obtain ⟨A,len,cap,m,rfl,hm,hi⟩:=rd_slice Tryz.underlying26 (show Tryz.prog.cellsOf 72=3 by kernel_rfl) (by omega) h
 obtain ⟨l,hl,hQ⟩:=choose_list len (fun i p=>∃ b o,A=some ⟨b,o,none⟩∧∀ j u,(acs p)[j]? = some u→w.cell? ⟨b,o + (i * 3 + j),none⟩=some u) (fun i hil=>by
  obtain ⟨b,o,cs',y,ha,_,hat,ht⟩:=hi i hil;obtain ⟨p,rfl⟩:=rd_act ht;exact ⟨p,b,o,ha,hat⟩)
 subst hl;refine ⟨A,cap,l,rfl,by simp,hm,fun h0=>?_⟩;have hp:0<l.length:=by omega
 obtain ⟨b,o,ha,_⟩:=hQ 0 _ (List.getElem?_eq_getElem hp);refine ⟨b,o,ha,fun j u hu=>?_⟩;have hj:j<l.length * 3:=by have:=(List.getElem?_eq_some_iff.1 hu).1;simpa using this
 have hq:j / 3<l.length:=by omega
 obtain ⟨b',o',ha',hc⟩:=hQ (j / 3) _ (List.getElem?_eq_getElem hq);rw [ha] at ha';simp only [Option.some.injEq,Addr.mk.injEq,and_true] at ha';obtain ⟨rfl,rfl⟩:=ha';have e:=at_flat acs 3 (fun _=>rfl) l (j / 3) (j % 3) (Nat.mod_lt _ (by omega)) (List.getElem?_eq_getElem hq);rw [show j / 3 * 3 + j % 3=j from by omega] at e;have:=hc (j % 3) u (by rw [← e];exact hu);rwa [show j / 3 * 3 + j % 3=j from by omega] at this
variable {r:Reach} {b0:Nat} {v:Value} {d:DataW H} {ps:List MemPlace}
set_option maxRecDepth 100000 in
theorem arg_acts (hw:Value.okWide Tryz.prog w r b0 26 v) (h:DataW.Trod enc Tryz.prog w base spare held 26 v d ps):∃ (A:Option Addr) (c:Nat) (l:List Sg.Act),v = .slice A l.length c∧Rd w 3 A l.length (acts l):=by
 obtain ⟨A0,n0,c0,rfl⟩:=okWide_slice Tryz.underlying26 hw;obtain ⟨fuel,hf⟩:=h;obtain ⟨A,c,l,hc,hr⟩:=rd_acts hf;simp only [Value.cells,List.cons.injEq,Value.slice.injEq,and_true] at hc;obtain ⟨rfl,rfl,rfl⟩:=hc;exact ⟨_,_,l,rfl,hr⟩
end
end Go.Proofs.YtgojnefiephafaaGreat
namespace Go.Proofs.YtgojnefiephafaaGreat
open Go.RowKit
def zact:Sg.Act:=⟨0,0,0⟩
def numA (k:Int) (n:Nat):List Sg.Act:=(List.range n).map fun (i:Nat)=>⟨k + 3 * (i:Int),k + 3 * (i:Int) + 1,k + 3 * (i:Int) + 2⟩
@[simp] theorem length_numA (k:Int) (n:Nat):(numA k n).length=n:=by simp [numA]
theorem l_eqAct (p:Sg.Act) (w:World):Calls Tryz.prog 43 #[av p,av p] w fun e w'=>e = .returned (.bool true)∧Ext w w':=by
 obtain ⟨f0,f1,f2⟩:=p;go_enter Tryz.func43,Tryz.ntmps43;go_wp2;go_ret;exact ⟨rfl,((Ext.rfl' w).al _).al _⟩
set_option maxHeartbeats 1000000 in
theorem l_eqActS (A B:Option Addr) (ca cb:Nat) (f:List Sg.Act) (w:World) (h:Rd w 3 A f.length (acts f)) (k:Rd w 3 B f.length (acts f)) :
  Calls Tryz.prog 18 #[.slice A f.length ca,.slice B f.length cb] w fun e w'=>e = .returned (.bool true)∧Ext w w':=by
 have hk:=k.big;have HP:=lh l_eqAct;go_enter Tryz.func18,Tryz.ntmps18;go_wp2;go_loopw [5] (fun i wr=>∃ n:Nat,n≤f.length∧i = .int .i64 n∧Ext w wr) (fun i _=>f.length - (intOf i).toNat)
 case atStart=>exact ⟨0,Nat.zero_le _,rfl,Ext.rfl' w⟩
 case round =>
  obtain ⟨n,hn,rfl,hext⟩:=hrel;by_cases hlt:n<f.length
  ·obtain ⟨ba,oa,x,rfl,hx,h0,h1,h2⟩:=(h.ext hext).atA hlt;obtain ⟨bb,ob,y,rfl,hy,g0,g1,g2⟩:=(k.ext hext).atA hlt;rw [hx] at hy;injection hy with hy;subst hy;clear hx;have H0:=lh ((Ext.rfl' wr).dr);go_wp2_with fail
   go_region_held3 (fun W=>W.cell? ⟨ba,oa + n * 3,none⟩=some (.int .i64 x.kind)∧W.cell? ⟨ba,oa + n * 3 + 1,none⟩=some (.int .i64 x.node)∧W.cell? ⟨ba,oa + n * 3 + 2,none⟩=some (.int .i64 x.val)∧W.cell? ⟨bb,ob + n * 3,none⟩=some (.int .i64 x.kind)∧W.cell? ⟨bb,ob + n * 3 + 1,none⟩=some (.int .i64 x.node)∧W.cell? ⟨bb,ob + n * 3 + 2,none⟩=some (.int .i64 x.val))
    (first | exact ⟨e9.cellE h0,e9.cellE h1,e9.cellE h2,e9.cellE g0,e9.cellE g1,e9.cellE g2⟩ | go_keep)
    (first | (go_at_call 43;refine (HP.out x _).mono ?_;rintro e w2 ⟨rfl,he2⟩;have e9:=H0.out.tr he2))
   all_goals
    go_wp2;go_roundw
    case rel=>exact ⟨n + 1,by omega,by go_num,hext.tr e9⟩
    case measure=>simp [intOf];omega
  ·obtain rfl:n=f.length:=by omega
   go_wp2;go_ret;exact ⟨rfl,hext⟩
def numS (k:Int) (n:Nat):List Sg.Show:=(List.range n).map fun (i:Nat)=>⟨k + 2 * (i:Int),k + 2 * (i:Int) + 1⟩
@[simp] theorem length_numS (k:Int) (n:Nat):(numS k n).length=n:=by simp [numS]
theorem szI_neg (n L:Nat):Sg.szI n L = -1∨0≤Sg.szI n L:=by
 unfold Sg.szI;split
 ·exact .inl rfl
 ·exact .inr (by omega)
theorem szI_ok (n L:Nat) (h:0≤Sg.szI n L):n≤L∧Sg.szI n L=((L - n:Nat):Int):=by
 unfold Sg.szI at h ⊢;split at h
 ·omega
 ·rename_i h2
  exact ⟨by omega,by rw [if_neg h2]⟩
theorem l_szActS (A:Option Addr) (n c L:Nat) (w:World) (hn:n≤9223372036854775807) (hL:L≤1048576):Calls Tryz.prog 9 #[.slice A n c,.int .i64 (L:Int)] w fun e w'=>e = .returned (.int .i64 (Sg.szI n L))∧w=w':=by
 unfold Sg.szI;by_cases h:L<n
 ·rw [if_pos h];go_enter Tryz.func9,Tryz.ntmps9;go_wp2;go_ret;exact ⟨rfl,rfl⟩
 ·rw [if_neg h];go_enter Tryz.func9,Tryz.ntmps9;go_wp2;go_ret;exact ⟨ret_int (by omega),rfl⟩
theorem l_toAct (p:Sg.Act) (w:World):Calls Tryz.prog 38 #[av p] w fun e w'=>e = .returned (av p)∧Ext w w':=by
 obtain ⟨k,a,b⟩:=p;go_enter Tryz.func38,Tryz.ntmps38;go_wp2;go_returns
 exact ⟨rfl,(((Ext.rfl' w).al _).al _).al _⟩
theorem acts_fill (f:List Sg.Act) (k:Nat) {p:Sg.Act} (hp:f[k]? = some p):((((acts (f.take k++List.replicate (f.length - k) zact)).set (k * 3) (.int .i64 p.kind)).set (k * 3 + 1) (.int .i64 p.node)).set (k * 3 + 2) (.int .i64 p.val))=acts (f.take (k + 1)++List.replicate (f.length - (k + 1)) zact):=by
 obtain ⟨hk,rfl⟩:=List.getElem?_eq_some_iff.1 hp
 have e1:acts (f.take k++List.replicate (f.length - k) zact)=acts (f.take k)++(acs zact++acts (List.replicate (f.length - (k + 1)) zact)):=by
  rw [show f.length - k=(f.length - (k + 1)) + 1 from by omega,List.replicate_succ];simp [acts]
 have e2:acts (f.take (k + 1)++List.replicate (f.length - (k + 1)) zact)=acts (f.take k)++(acs f[k]++acts (List.replicate (f.length - (k + 1)) zact)):=by
  rw [take_snoc f k (List.getElem?_eq_getElem hk),List.append_assoc];simp [acts]
 have hl:(acts (f.take k)).length=k * 3:=by simp;omega
 rw [e1,e2];generalize acts (f.take k)=X at *;generalize acts (List.replicate (f.length - (k + 1)) zact)=Y;subst_vars
 rw [← hl];simp [acs,zact]
theorem made_acts (f:List Sg.Act):(madeCells (Value.agg #[.int .i64 0,.int .i64 0,.int .i64 0]).cells (f.length * 3)).toList=acts (f.take 0++List.replicate (f.length - 0) zact):=by
 have h1:(madeCells (Value.agg #[.int .i64 0,.int .i64 0,.int .i64 0]).cells (f.length * 3)).toList=List.replicate (f.length * 3) (.int .i64 0):=by
  rw [List.eq_replicate_iff];refine ⟨by rw [Array.length_toList,size_madeCells],fun b hb=>?_⟩;show b=_;change b ∈ (madeCells #[.int .i64 0,.int .i64 0,.int .i64 0] (f.length * 3)).toList at hb
  simp only [madeCells,Array.toList_map,List.mem_map] at hb;obtain ⟨j,_,rfl⟩:=hb;have hj:j % 3<3:=Nat.mod_lt _ (by omega);show #[Value.int .i64 0,.int .i64 0,.int .i64 0][j % 3]! = _;generalize j % 3=m at hj;match m,hj with
  | 0,_=>rfl
  | 1,_=>rfl
  | 2,_=>rfl
 have h2:acts (f.take 0++List.replicate (f.length - 0) zact)=List.replicate (f.length * 3) (.int .i64 0):=by
  rw [List.eq_replicate_iff];refine ⟨by simp,fun b hb=>?_⟩;unfold acts at hb;rw [List.mem_flatMap] at hb;obtain ⟨p,hp,hb⟩:=hb;simp at hp
  rw [hp.2] at hb;simpa [acs,zact] using hb
 rw [h1,h2]
set_option maxHeartbeats 1000000 in
theorem l_toActS (A:Option Addr) (c:Nat) (f:List Sg.Act) (w:World) (h:Rd w 3 A f.length (acts f)) (hb:f.length≤1048576) :
  Calls Tryz.prog 13 #[.slice A f.length c] w fun e w'=>∃ A',e = .returned (.slice A' f.length f.length)∧Own w' w.heap.size 58 3 A' f.length f.length (acts f)∧Ext w w':=by
 have HP:=lh l_toAct;go_enter Tryz.func13,Tryz.ntmps13;go_wp2_with (at_make;refine wpList_mk rfl rfl eiAct (B:=w.heap.size) rfl rfl (by omega) (by omega) (by simp) ?_;intro w1 hown hext)
 have hu0:(madeCells (Value.agg #[.int .i64 0,.int .i64 0,.int .i64 0]).cells (f.length * 3)).toList=acts (f.take 0++List.replicate (f.length - 0) zact):=made_acts f;rw [hu0] at hown;clear hu0;go_loopw [4] (fun i wr=>∃ k:Nat,k≤f.length∧i = .int .i64 k∧Ext w wr∧Own wr w.heap.size 58 3 (some ⟨w.heap.size,0,none⟩) f.length f.length (acts (f.take k++List.replicate (f.length - k) zact))) (fun i _=>f.length - (intOf i).toNat)
 case atStart=>exact ⟨0,Nat.zero_le _,rfl,hext,hown⟩
 case round =>
  clear hown hext;obtain ⟨k,hk,rfl,he,hown⟩:=hrel;by_cases hlt:k<f.length
  ·obtain ⟨b,o,x,rfl,hx,h0,h1,h2⟩:=(h.ext he).atA hlt;have hbw:=blt h0;have Hf:=lh (acts_fill f k hx);have Hx:=lh hx;have Ho:=lh hown;clear hx hown;have hxs:∀ j,j<3→∃ u,(acts (f.take k++List.replicate (f.length - k) zact))[k * 3 + j]? = some u:=fun j hj=>⟨_,List.getElem?_eq_getElem (by simp;omega)⟩;obtain ⟨u0,e0⟩:=hxs 0 (by omega);obtain ⟨u1,e1⟩:=hxs 1 (by omega);obtain ⟨u2,e2⟩:=hxs 2 (by omega);have E0:=lh e0;have E1:=lh e1;have E2:=lh e2;clear e0 e1 e2 hxs;go_wp2_with (go_at_call 38;refine (HP.out x _).mono ?_;rintro e w2 ⟨rfl,he2⟩;have ho2:=Ho.out.ext he2;have r0:=ho2.cell E0.out;have r1:=ho2.cell E1.out;have r2:=ho2.cell E2.out;rw [Nat.add_zero] at r0;have q0:=ho2.free (k * 3);have q1:=ho2.free (k * 3 + 1);have q2:=ho2.free (k * 3 + 2))
   go_roundw
   case rel=>exact ⟨k + 1,by omega,by go_num,(((he.tr he2).set (by simp) _).set (by simp) _).set (by simp) _,by rw [← Hf.out];exact ((ho2.st _ _).st _ _).st _ _⟩
   case measure=>simp [intOf];omega
  ·obtain rfl:k=f.length:=by omega
   have hfin:f.take f.length++List.replicate (f.length - f.length) zact=f:=by simp
   rw [hfin] at hown;have Ho:=lh hown;clear hown hfin;go_wp2;go_ret;exact ⟨_,rfl,Ho.out,he⟩
end Go.Proofs.YtgojnefiephafaaGreat
