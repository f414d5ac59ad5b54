/- Parts of one proof, joined. The program's MustRun: its function values. Conditions: the boxes can be read. The reference's MustRun: its contract. Conditions: bounds on lengths. The reference's common, ChangedBy and WhyChanged: contracts. Conditions: bounds on lengths. The library's DeleteFunc on an own list, and the program's common: contracts. Conditions: bounds on lengths. The program's common, ChangedBy, DepsOf, WhyChanged: contracts. Conditions: bounds on lengths. The program's MeaningOf: its contract at valid arguments. Conditions: bounds on lengths. -/
import Derived.Test.YtgojnefiephafaaGreatImplS
import Derived.Test.YtgojnefiephafaaGreatSpecQRS
import Derived.Lib.SliceRun
import Derived.Test.YtgojnefiephafaaGreatImplQ
import Derived.Test.YtgojnefiephafaaGreatFactsAll
import Derived.Deep.QuietTactic
import Derived.BigQuiet
namespace Go.Proofs.YtgojnefiephafaaGreat
open Go.RowKit
def XInv (Bx By:Nat) (Ax Ay:Option Addr) (cx cy n:Nat) (X Y:List Int) (w:World):Prop :=
 w.cell? ⟨Bx,0,none⟩=some (.slice Ax n cx)∧w.cell? ⟨By,0,none⟩=some (.slice Ay n cy)∧Rd w 1 Ax n (ints X)∧Rd w 1 Ay n (ints Y)
theorem XInv.ext {Bx By:Nat} {Ax Ay:Option Addr} {cx cy n:Nat} {X Y:List Int} {w w':World} (h:XInv Bx By Ax Ay cx cy n X Y w) (e:Ext w w'):XInv Bx By Ax Ay cx cy n X Y w' :=
 ⟨e.cellE h.1,e.cellE h.2.1,h.2.2.1.ext e,h.2.2.2.ext e⟩
def MInv (Bg Bx By Br:Nat) (A Ax Ay Ar:Option Addr) (c cx cy cr:Nat) (g:Sg.Graph) (X Y:List Int) (w:World):Prop :=
 w.cell? ⟨Bg,0,none⟩=some (.slice A g.length c)∧XInv Bx By Ax Ay cx cy g.length X Y w∧w.cell? ⟨Br,0,none⟩=some (.slice Ar g.length cr)∧RdN w A g∧RdL w Ar (Sg.depsTo g X g.length)
theorem MInv.ext {Bg Bx By Br:Nat} {A Ax Ay Ar:Option Addr} {c cx cy cr:Nat} {g:Sg.Graph} {X Y:List Int} {w w':World} (h:MInv Bg Bx By Br A Ax Ay Ar c cx cy cr g X Y w) (e:Ext w w'):MInv Bg Bx By Br A Ax Ay Ar c cx cy cr g X Y w' :=
 ⟨e.cellE h.1,h.2.1.ext e,e.cellE h.2.2.1,h.2.2.2.1.ext e,h.2.2.2.2.ext e⟩
end Go.Proofs.YtgojnefiephafaaGreat
namespace Go.Proofs.YtgojnefiephafaaGreat
open Go.RowKit
end Go.Proofs.YtgojnefiephafaaGreat
namespace Go.Proofs.YtgojnefiephafaaGreat
open Go.RowKit
def CMN (a b:List Int) (k:Nat):List Int:=Sg.common (a.take k) b
theorem CMN_succ (a b:List Int) (k:Nat) {x:Int} (h:a[k]? = some x):CMN a b (k + 1)=if x ∈ b then CMN a b k++[x] else CMN a b k:=by
 unfold CMN Sg.common;rw [take_snoc a k h,List.filter_append];by_cases hx:x ∈ b
 ·rw [if_pos hx];simp [hx]
 ·rw [if_neg hx];simp [hx]
theorem CMN_len (a b:List Int) (k:Nat):(CMN a b k).length≤k:=by
 unfold CMN Sg.common;have h1:=List.length_filter_le (fun x=>decide (x ∈ b)) (a.take k);have h2:(a.take k).length≤k:=by simp;omega
 omega
set_option maxHeartbeats 1000000 in
theorem s_common (A B:Option Addr) (ca cb nb:Nat) (a b:List Int) (w:World) (h:Rd w 1 A a.length (ints a)) (k:Rd w 1 B nb (ints b)) (hb:a.length≤4194304) :
  Calls Tryz.prog 77 #[.slice A a.length ca,.slice B nb cb] w fun e w'=>∃ A' c',e = .returned (.slice A' (Sg.common a b).length c')∧Own w' w.heap.size 3 1 A' (Sg.common a b).length c' (ints (Sg.common a b))∧Ext w w':=by
 have HN:=lh (fun n=>placeIn_neg b n);go_enter Tryz.func77,Tryz.ntmps77;go_wp2;go_loopw [5,6] (fun v i wr=>∃ (n:Nat) (A':Option Addr) (c':Nat),n≤a.length∧i = .int .i64 n∧v = .slice A' (CMN a b n).length c'∧Own wr w.heap.size 3 1 A' (CMN a b n).length c' (ints (CMN a b n))∧Ext w wr) (fun _ i _=>a.length - (intOf i).toNat)
 case atStart=>exact ⟨0,_,_,Nat.zero_le _,rfl,rfl,Own.new w 3 1 #[] 0 (Nat.le_refl _) (by unfold maxLen;omega) rfl,(Ext.rfl' w).al _⟩
 case round =>
  obtain ⟨n,A',c',hn,rfl,rfl,hown,hext⟩:=hrel;have hdl:=CMN_len a b n;by_cases hlt:n<a.length
  ·obtain ⟨ba,oa,x,rfl,hx,hcx⟩:=(h.ext hext).at1 hlt;have H:=lh (CMN_succ a b n hx);have HP:=lh (s_placeIn B nb cb b x wr (k.ext hext));clear hx;by_cases hxy:x ∈ b
   ·have e1:=H.out;rw [if_pos hxy] at e1;have E1:=lh e1;have hp:decide (0≤placeIn b x)=true:=by have:=(HN.out x).1;rw [decide_eq_true_eq];exact Int.not_lt.1 (fun h0=>this h0 hxy)
    clear e1 H hxy
    go_wp2_with (first
     | (go_at_call 119;refine HP.out.mono ?_;rintro e w' ⟨rfl,rfl⟩)
     | (at_builtin;refine wpList_app1 rfl rfl eiInt rfl hown rfl rfl (one_int _ _) (by omega) (by omega) hext.size ?_;intro A2 c2 w2 hown2 hg2 hat2))
    go_roundw
    case rel=>exact ⟨n + 1,A2,c2,by omega,by go_num,by rw [E1.out];simp,by rw [E1.out];simpa using hown2,hext.gr hg2 fun g hg=>(hown.lt hg).1⟩
    case measure=>simp [intOf];omega
   ·have e1:=H.out;rw [if_neg hxy] at e1;have E1:=lh e1;have hp:decide (0≤placeIn b x)=false:=by have:=(HN.out x).2 hxy;simp only [decide_eq_false_iff_not];omega
    clear e1 H hxy;go_wp2_with (go_at_call 119;refine HP.out.mono ?_;rintro e w' ⟨rfl,rfl⟩)
    go_roundw
    case rel=>exact ⟨n + 1,A',c',by omega,by go_num,by rw [E1.out],by rw [E1.out];exact hown,hext⟩
    case measure=>simp [intOf];omega
  ·obtain rfl:n=a.length:=by omega
   have e1:CMN a b a.length=Sg.common a b:=by unfold CMN;rw [List.take_length]
   rw [e1] at hown ⊢;go_wp2;go_ret;exact ⟨A',c',rfl,hown,hext⟩
theorem common_len (a b:List Int):(Sg.common a b).length≤a.length:=List.length_filter_le _ _
end Go.Proofs.YtgojnefiephafaaGreat
namespace Go.Proofs.YtgojnefiephafaaGreat
open Go.RowKit
theorem findFrom_cases (p:Int→Bool) (l:List Int) (k:Nat):(findFrom p k l = -1∧l.filter (fun x=>!p x)=l)∨∃ j x,findFrom p k l=((k + j:Nat):Int)∧l[j]? = some x∧p x=true∧(l.take j).filter (fun x=>!p x)=l.take j:=by
 induction l generalizing k with
 | nil=>exact .inl ⟨rfl,rfl⟩
 | cons x l ih =>
  unfold findFrom;by_cases h:p x=true
  ·rw [if_pos h];exact .inr ⟨0,x,by simp,rfl,h,rfl⟩
  ·rw [if_neg h];have h':p x=false:=by simpa using h
   rcases ih (k + 1) with ⟨h1,h2⟩ | ⟨j,y,h1,h2,h3,h4⟩
   ·exact .inl ⟨h1,by simp [h',h2]⟩
   ·exact .inr ⟨j + 1,y,by rw [h1];congr 1;omega,by simpa using h2,h3,by simp [h',h4]⟩
structure Sift (p:Int→Bool) (l:List Int) (i j:Nat) (m:List Int):Prop where
 len:m.length=l.length
 lt:i<j
 le:j≤l.length
 got:m.take i=(l.take j).filter fun x=>!p x
 rest:m.drop j=l.drop j
theorem Sift.at_ {p:Int→Bool} {l m:List Int} {i j:Nat} (h:Sift p l i j m) (hj:j<l.length):∃ x,l[j]? = some x∧m[j]? = some x:=by
 have hm:j<m.length:=by rw [h.len];exact hj
 have hx:l[j]? = some l[j]:=List.getElem?_eq_getElem hj;refine ⟨_,hx,?_⟩;have h1:=congrArg (fun t=>t[0]?) h.rest;simp only [List.getElem?_drop,Nat.add_zero] at h1;rw [h1];exact hx
theorem Sift.skip {p:Int→Bool} {l m:List Int} {i j:Nat} (h:Sift p l i j m) {x:Int} (hx:l[j]? = some x) (hp:p x=true):Sift p l i (j + 1) m:=by
 have hj:=(List.getElem?_eq_some_iff.1 hx).1;refine ⟨h.len,by have:=h.lt;omega,hj,?_,?_⟩
 ·rw [take_snoc l j hx,List.filter_append,h.got];simp [hp]
 ·have:=congrArg (List.drop 1) h.rest;simpa [List.drop_drop] using this
theorem Sift.keep {p:Int→Bool} {l m:List Int} {i j:Nat} (h:Sift p l i j m) {x:Int} (hx:l[j]? = some x) (hp:p x=false):Sift p l (i + 1) (j + 1) (m.set i x):=by
 have hj:=(List.getElem?_eq_some_iff.1 hx).1;have hl:=h.lt;have hm:=h.len;refine ⟨by simpa using h.len,by omega,hj,?_,?_⟩
 ·rw [take_snoc l j hx,List.filter_append,← h.got,take_snoc (m.set i x) i (x:=x) (by rw [List.getElem?_set_self (by omega)])];rw [List.take_set_of_le (Nat.le_refl _)];simp [hp]
 ·rw [List.drop_set_of_lt (by omega)];have:=congrArg (List.drop 1) h.rest;simpa [List.drop_drop] using this
theorem Sift.ilen {p:Int→Bool} {l m:List Int} {i:Nat} (h:Sift p l i l.length m):m.take i=l.filter (fun x=>!p x)∧(l.filter (fun x=>!p x)).length=i:=by
 have h1:=h.got;rw [List.take_length] at h1;refine ⟨h1,?_⟩;rw [← h1];have h2:=h.len;have h3:=h.lt;simp
 omega
theorem Own.cut {w:World} {B e n c:Nat} {A:Option Addr} {xs:List Value} (h:Own w B e 1 A n c xs) (i:Nat) (hi:i≤n):Own w B e 1 A i c (xs.take i):=by
 have h1:=h.1;refine ⟨by simp;omega,Nat.le_trans hi h.2.1,h.2.2.1,?_⟩;rcases h.2.2.2 with h2 | ⟨g,cur,ha,hb,hh,hc,ht⟩
 ·exact .inl h2
 ·refine .inr ⟨g,cur,ha,hb,hh,hc,?_⟩;rw [← ht,List.take_take];congr 1
  omega
theorem Own.behind {B e g n c:Nat} {xs:List Value} (vs:List Value):∀ (w:World) (o:Nat),Own w B e 1 (some ⟨g,0,none⟩) n c xs→n≤o→Own (w.setCells g o vs) B e 1 (some ⟨g,0,none⟩) n c xs:=by
 induction vs with
 | nil=>intro w o h _;exact h
 | cons v vs ih =>
  intro w o h ho;have h1:=h.st o v;have hl:=h.1;rw [List.set_eq_of_length_le (by omega)] at h1;exact ih _ (o + 1) h1 (by omega)
theorem Mod.cells {F:Nat→Prop} {a:World} (g:Nat) (hg:F g) (vs:List Value):∀ (w:World) (o:Nat),Mod F a w→Mod F a (w.setCells g o vs):=by
 induction vs with
 | nil=>intro w o h;exact h
 | cons v vs ih=>intro w o h;exact ih _ (o + 1) (h.set (.inl hg) v)
set_option maxHeartbeats 2000000 in
theorem i_DeleteFunc {fid:Nat} {caps:List Value} {inv:World→Prop} {p:Int→Bool} {dom:Int→Prop} (C:Prd Tryz.prog fid caps inv p dom) (B:Nat) (A:Option Addr) (n c:Nat) (l:List Int) (w:World) (h:Own w B 3 1 A n c (ints l)) (hi:inv w) (hd:∀ x ∈ l,dom x)
  (hmd:∀ w w',inv w→Mod (fun b=>blk A=some b) w w'→inv w') (hb:n≤1048576) :
  Calls Tryz.prog 93 #[.slice A n c,.func (.func fid) #[] caps.toArray] w fun e w'=>e = .returned (.slice A (l.filter fun x=>!p x).length c)∧Own w' B 3 1 A (l.filter fun x=>!p x).length c (ints (l.filter fun x=>!p x))∧Mod (fun b=>blk A=some b) w w':=by
 have hln:=h.len;have HIF:=lh (i_IndexFunc C A n c l w h.rd hi hd);have hent:=C.ent;have HC:=lh C;have HD:=lh hd;have HI:=lh hi;have HM:=lh hmd;have Ho:=lh h;have hcap:=h.2.1;have hcm:=h.2.2.1;unfold maxLen at hcm;clear C hi hd hmd;rcases findFrom_cases p l 0 with ⟨h1,h2⟩ | ⟨k0,x0,h1,h2,h3,h4⟩
 ·have H1:=lh h1;have H2:=lh h2;have Hl:=lh hln;clear h1 h2 h hln;go_enter Tryz.func93,Tryz.ntmps93;go_wp2_with fail
  refine HIF.out.mono ?_;rintro e w1 ⟨rfl,he1⟩;rw [H1.out];go_wp2;go_ret;rw [H2.out,Hl.out];exact ⟨rfl,Ho.out.ext he1,Mod.of he1⟩
 ·rw [Nat.zero_add] at h1;have hk0:k0<l.length:=(List.getElem?_eq_some_iff.1 h2).1;obtain ⟨g,rfl,hg⟩:=h.at_ (show 0<n * 1 by omega);have hS:Sift p l k0 (k0 + 1) l:=⟨rfl,by omega,hk0,by rw [take_snoc l k0 h2,List.filter_append,h4];simp [h3],rfl⟩;have HS:=lh hS;have H1:=lh h1;have hne:((k0:Int) == -1)=false:=by rw [beq_eq_false_iff_ne];omega
  obtain rfl:=hln;clear h1 h2 h3 h4 h hS;go_enter Tryz.func93,Tryz.ntmps93;go_wp2_with fail
  refine HIF.out.mono ?_;rintro e w1 ⟨rfl,he1⟩;rw [H1.out];go_wp2;have E1:=lh (Mod.of (F:=fun b=>blk (some (⟨g,0,none⟩:Addr))=some b) he1);have O1:=lh (Ho.out.ext he1);clear he1;go_loopw [5,6] (fun si sj wr=>∃ (i j:Nat) (m:List Int),si = .int .i64 i∧sj = .int .i64 j∧Hid (Sift p l i j m)∧Hid (Own wr B 3 1 (some ⟨g,0,none⟩) l.length c (ints m))∧Hid (Mod (fun b=>blk (some (⟨g,0,none⟩:Addr))=some b) w wr)) (fun _ sj _=>l.length - (intOf sj).toNat)
  case atStart=>exact ⟨k0,k0 + 1,l,rfl,by go_num,HS,O1,E1⟩
  case round =>
   obtain ⟨i,j,m,rfl,rfl,hS,hO,hE⟩:=hrel;have hij:=hS.out.lt;have hjl:=hS.out.le;have hml:=hS.out.len;have hlt0:=hO.out.lt (g:=g) rfl;by_cases hlt:j<l.length
   ·obtain ⟨x,hx,hmx⟩:=hS.out.at_ hlt;have hcx:=hO.out.cell (j:=j) (u := .int .i64 x) (by rw [ints_at,hmx];rfl);obtain ⟨y,hy⟩:∃ y,m[i]? = some y:=⟨_,List.getElem?_eq_getElem (by omega)⟩;have hcy:=hO.out.cell (j:=i) (u := .int .i64 y) (by rw [ints_at,hy];rfl);have hfy:=hO.out.free i;have Hx:=lh hx;have Hdx:=lh (HD.out x (List.mem_of_getElem? hx));clear hx hmx hy;cases hp:p x
    ·have Hp:=lh hp;clear hp;go_wp2_with fail
     refine (HC.out.call _ x (HM.out _ _ HI.out hE.out) Hdx.out).mono ?_;rw [Hp.out];rintro e w2 ⟨rfl,he2⟩;have k1:=he2.cellE hcy;have k2:=(he2.frozen (p:=⟨g,i,none⟩) hlt0.2).trans hfy;have b2:=blt k1;clear hcx hcy hfy;go_wp2;go_roundw
     case rel=>exact ⟨i + 1,j + 1,m.set i x,by go_num,by go_num,lh (hS.out.keep Hx.out Hp.out),lh (by rw [← ints_set];exact (hO.out.ext he2).st i _),lh (Mod.set (p:=⟨g,i,none⟩) (hE.out.tr' (Mod.of he2)) (.inl rfl) _)⟩
     case measure=>simp [intOf];omega
    ·have Hp:=lh hp;clear hp;go_wp2_with fail
     refine (HC.out.call _ x (HM.out _ _ HI.out hE.out) Hdx.out).mono ?_;rw [Hp.out];rintro e w2 ⟨rfl,he2⟩;clear hcx hcy hfy;go_wp2;go_roundw
     case rel=>exact ⟨i,j + 1,m,rfl,by go_num,lh (hS.out.skip Hx.out Hp.out),lh (hO.out.ext he2),lh (hE.out.tr' (Mod.of he2))⟩
     case measure=>simp [intOf];omega
   ·obtain rfl:j=l.length:=by omega
    have HL:=lh hS.out.ilen
    have hcl:∀ ty,(Builtin.clear_ #[25] ty #[.slice (some ⟨g,i,none⟩) (l.length - i) (c - i)]).run Tryz.prog wr = .ok (.tuple #[]) (wr.setCells g i (List.replicate (l.length - i) (.int .i64 0))):=fun ty =>
     Lib.run_clear_slice wr _ _ ty _ Tryz.underlying25 Tryz.zeroValue3 rfl rfl g i _ _ (by omega) (fun t ht=>by
      have:(ints m)[i + t]? = some (.int .i64 (m[i + t]'(by omega))):=by rw [ints_at,List.getElem?_eq_getElem (by omega)];rfl
      rw [hO.out.cell this];rfl) (fun t ht=>hO.out.free _)
    have HO2:=lh ((Own.behind (List.replicate (l.length - i) (Value.int .i64 0)) wr i (hO.out.cut i (by omega)) (Nat.le_refl _)));have HE2:=lh (Mod.cells (F:=fun b=>blk (some (⟨g,0,none⟩:Addr))=some b) g rfl (List.replicate (l.length - i) (Value.int .i64 0)) wr i hE.out);have hic:i≤c:=by omega
    have hil:i≤l.length:=by omega
    go_wp2;go_ret;rw [HL.out.2];refine ⟨rfl,?_,HE2.out⟩;have:=HO2.out;rw [ints_take,HL.out.1] at this;exact this
end Go.Proofs.YtgojnefiephafaaGreat
namespace Go.Proofs.YtgojnefiephafaaGreat
open Go.RowKit
def CInv (B:Nat) (Ab:Option Addr) (cb:Nat) (b:List Int) (w:World):Prop:=w.cell? ⟨B,0,none⟩=some (.slice Ab b.length cb)∧Rd w 1 Ab b.length (ints b)
theorem prd_common1 (B:Nat) (Ab:Option Addr) (cb:Nat) (b:List Int):Prd Tryz.prog 94 [.pointer (some ⟨B,0,none⟩)] (CInv B Ab cb b) (fun k=>!decide (k ∈ b)) (fun _=>True) where
 ent:=ent_of Tryz.func94 rfl (by kernel_rfl)
 call:=fun w k h _=>by
  obtain ⟨h1,h2⟩:=h;have HC:=lh (i_Contains Ab b.length cb b k w h2);have hb:=blt h1;clear h2;go_enter Tryz.func94,Tryz.ntmps94;go_wp2_with fail
  refine HC.out.mono ?_;rintro e w1 ⟨rfl,he1⟩;go_wp2;go_ret;exact ⟨rfl,he1⟩
 ext:=fun _ _ h e=>⟨e.cellE h.1,h.2.ext e⟩
set_option maxHeartbeats 1000000 in
theorem i_common (Aa Ab:Option Addr) (ca cb:Nat) (a b:List Int) (w:World) (ha:Rd w 1 Aa a.length (ints a)) (hb:Rd w 1 Ab b.length (ints b)) (hal:a.length≤1048576) :
  Calls Tryz.prog 53 #[.slice Aa a.length ca,.slice Ab b.length cb] w fun e w'=>∃ A' c',e = .returned (.slice A' (Sg.common a b).length c')∧Own w' w.heap.size 3 1 A' (Sg.common a b).length c' (ints (Sg.common a b))∧Ext w w':=by
 have hoff:0<b.length * 1→∀ x,blk Ab=some x→x<w.heap.size:=fun hn x hx=>by
  obtain ⟨y,hy⟩:∃ y,b[0]? = some y:=⟨_,List.getElem?_eq_getElem (by omega)⟩;obtain ⟨b0,o0,z,rfl,_,hc⟩:=hb.at1 (k:=0) (by omega);simp [blk] at hx
  subst hx;exact blt hc
 have hf:(a.filter fun x=>!(!decide (x ∈ b)))=Sg.common a b:=by unfold Sg.common;congr 1;funext x;simp
 have HF:=lh hf;have HO:=lh hoff;have Ha:=lh ha;have Hb:=lh hb;have HCL:=lh (fun w h=>i_Clone Aa a.length ca a w h (by omega));clear hoff ha hb hf;have E0:=lh (((Ext.rfl' w).al (.cells #[.slice Ab b.length cb] 25)):Ext w (World.alloc w (.cells #[.slice Ab b.length cb] 25)));have qlb:World.cell? (World.alloc w (.cells #[.slice Ab b.length cb] 25)) ⟨w.heap.size,0,none⟩=some (.slice Ab b.length cb):=by simp [go_sem]
 have Qlb:=lh qlb;clear qlb;go_enter Tryz.func53,Tryz.ntmps53;go_wp2_with fail
 refine (HCL.out _ (Ha.out.ext E0.out)).mono ?_;rintro e w1 ⟨A1,c1,rfl,ho,he1⟩;have Ho:=lh (ho.mono (B':=w.heap.size + 1) (by simp));clear ho;have U1:=lh ((Ext.rfl' (World.alloc w (.cells #[.slice Ab b.length cb] 25))).tr he1);have E1:=lh (E0.out.tr U1.out);have lb_1:=U1.out.cellE Qlb.out;clear he1 ;have blb_1:=blt lb_1;go_wp2_with fail
 refine (i_DeleteFunc (prd_common1 w.heap.size Ab cb b) (w.heap.size + 1) A1 a.length c1 a _ Ho.out ⟨lb_1,Hb.out.ext E1.out⟩ (fun _ _=>trivial) (fun x y hi hm=>⟨hm.cellE hi.1 (fun e=>by have:=(Ho.out.lt e).1;omega),hi.2.mod0 hm (fun hn z hz e=>by have h1:=HO.out hn z hz;have h2:=(Ho.out.lt e).1;omega)⟩) hal).mono ?_;rintro e w2 ⟨rfl,ho2,hm2⟩;have Ho2:=lh ho2;have Hm2:=lh hm2;clear ho2 hm2;go_wp2;go_ret;have e1:=HF.out;have h1:=Ho2.out;rw [e1] at h1;exact ⟨A1,c1,rfl,h1.mono (by omega),Ext.md E1.out Hm2.out (fun x e=>by have:=(Ho.out.lt e).1;omega)⟩
end Go.Proofs.YtgojnefiephafaaGreat
namespace Go.Proofs.YtgojnefiephafaaGreat
open Go.RowKit
end Go.Proofs.YtgojnefiephafaaGreat
