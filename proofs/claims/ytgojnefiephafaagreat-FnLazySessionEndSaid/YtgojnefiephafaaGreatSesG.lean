/- The reference's sessions with the eager machine: contracts. Conditions: bounds on lengths. -/
import Derived.Test.YtgojnefiephafaaGreatSesST
namespace Go.Proofs.YtgojnefiephafaaGreat
open Go.RowKit
def inTo (g:Sg.Graph) (k:Nat):List Int:=Sg.whichL (fun i=>decide (Sg.kindAt g (i:Int)=0)) k
theorem inTo_succ (g:Sg.Graph) (k:Nat):inTo g (k + 1)=if Sg.kindAt g (k:Int)=0 then inTo g k++[(k:Int)] else inTo g k:=by
 unfold inTo;rw [Sg.whichL_succ];by_cases h:Sg.kindAt g (k:Int)=0 <;> simp [h]
theorem inTo_len (g:Sg.Graph) (k:Nat):(inTo g k).length≤k:=Sg.whichL_len _ k
set_option maxRecDepth 100000 in
set_option maxHeartbeats 4000000 in
theorem s_toWrite (A Ap:Option Addr) (c cp n:Nat) (g:Sg.Graph) (p:List Int) (w:World) (h:RdN w A g) (hp:Rd w 1 Ap n (ints p)) (hng:n=g.length) :
  Calls Tryz.prog 74 #[.agg #[.slice A g.length c],.slice Ap n cp] w fun e w'=>∃ A1 c1 A2 c2,e = .returned (.tuple #[.slice A1 (Sg.inputsL g).length c1,.slice A2 (Sg.inputsL g).length c2]) ∧
   Own w' w.heap.size 3 1 A1 (Sg.inputsL g).length c1 (ints (Sg.inputsL g))∧Own w' w.heap.size 3 1 A2 (Sg.inputsL g).length c2 (ints (Sg.valuesL g p))∧(∀ b,blk A1=some b→blk A2≠some b)∧Ext w w':=by
 have hgl:=h.1;have H:=lh h;have HP:=lh hp;have HNG:=lh hng;have e0:=(((Ext.rfl' w).al (.cells #[.slice A g.length c] 33)).al (.cells #[] 3)).al (.cells #[] 3);have b0:=((Bx.new w #[.slice A g.length c] 33).al (.cells #[] 3)).al (.cells #[] 3);have o1:=(Own.new (World.alloc w (.cells #[.slice A g.length c] 33)) (B:=w.heap.size) 3 1 #[] 0 (by simp) (by unfold maxLen;omega) rfl).al (.cells #[] 3);have o2:=Own.new (World.alloc (World.alloc w (.cells #[.slice A g.length c] 33)) (.cells #[] 3)) (B:=w.heap.size) 3 1 #[] 0 (by simp;omega) (by unfold maxLen;omega) rfl;simp only [World.size_alloc] at o1 o2
 have SS:Hid (Sep [Th.own w.heap.size 3 1 (some ⟨w.heap.size + 1,0,none⟩) (inTo g 0).length 0 (ints (inTo g 0)),Th.own w.heap.size 3 1 (some ⟨w.heap.size + 1 + 1,0,none⟩) (inTo g 0).length 0 (ints ((inTo g 0).map (Sg.rd p))),Th.box w.heap.size w.heap.size [.slice A g.length c]] _):=lh
  ⟨o1,fun s hs b hb=>by
   simp only [List.mem_cons,List.not_mem_nil,or_false] at hs;have h1:w.heap.size + 1=b:=by have:=hb;simpa [Th.own,blk] using this
   rcases hs with rfl | rfl
   ·intro e;have e2:w.heap.size + 1 + 1=b:=by simpa [Th.own,blk] using e
    omega
   ·intro (e:b=w.heap.size);omega,o2,fun s hs b hb=>by
   simp only [List.mem_cons,List.not_mem_nil,or_false] at hs;have h1:w.heap.size + 1 + 1=b:=by have:=hb;simpa [Th.own,blk] using this
   subst hs;intro (e:b=w.heap.size);omega,⟨b0,Nat.le_refl _⟩,by simp,trivial⟩
 have EE:=lh e0;have HQ:=lh (inTo_succ g);have HL:=lh (inTo_len g);have HA:=lh (show inTo g g.length=Sg.inputsL g from rfl);have HV:=lh (show (inTo g g.length).map (Sg.rd p)=Sg.valuesL g p from rfl);have H0:=lh (show (inTo g 0).length=0 from rfl);generalize inTo g=V at *;clear h hp e0 b0 o1 o2 hng;go_enter Tryz.func74,Tryz.ntmps74;go_wp2_with fail
 go_loopw [6,7,8] (fun s6 s7 i wr=>∃ (k:Nat) (A1:Option Addr) (c1:Nat) (A2:Option Addr) (c2:Nat),k≤g.length∧i = .int .i64 k∧s6 = .slice A1 (V k).length c1∧s7 = .slice A2 (V k).length c2∧Hid (Ext w wr) ∧
  Hid (Sep [Th.own w.heap.size 3 1 A1 (V k).length c1 (ints (V k)),Th.own w.heap.size 3 1 A2 (V k).length c2 (ints ((V k).map (Sg.rd p))),Th.box w.heap.size w.heap.size [.slice A g.length c]] wr)) (fun _ _ i _=>g.length - (intOf i).toNat)
 case atStart=>exact ⟨0,_,0,_,0,Nat.zero_le _,rfl,by rw [H0.out],by rw [H0.out],EE,SS⟩
 case round =>
  clear SS EE;obtain ⟨k,A1,c1,A2,c2,hk,rfl,rfl,rfl,hX,hS⟩:=hrel;have lg:wr.cell? ⟨w.heap.size,0,none⟩=some (.slice A g.length c):=((Sep.get hS.out 2 rfl:Bx _ _ _∧_).1).cell (j:=0) rfl;have bg:=blt lg;have hl:=HL.out k;by_cases hlt:k<g.length
  ·obtain ⟨⟨nk,nf⟩,b,oo,Aq,cq,hn,rfl,hkc,hsc,hf,hfl⟩:=(H.out.ext hX.out).at_ hlt;dsimp only at *;have HK:=lh (show Sg.kindAt g (k:Int)=nk by unfold Sg.kindAt;simp [hn]);have bk:=blt hkc;have hkx:(k:Int)<(g.length:Int):=by omega
   clear hn hsc hf hfl;have hs:=HQ.out k;rw [HK.out] at hs;by_cases hz:nk=0
   ·subst hz;rw [if_pos rfl] at hs;have Hs:=lh hs;have hkn:k<n:=by have:=HNG.out;omega
    have hkny:(k:Int)<(n:Int):=by omega
    obtain ⟨ba,oa,y,rfl,hy,hcy⟩:=HP.out.at1 hkn;have hba:=blt hcy;have HY:=lh (show Sg.rd p (k:Int)=y by unfold Sg.rd;simp [hy]);have CY:=lh hcy;clear hs hy hcy;have hO1:Own wr w.heap.size 3 1 A1 (V k).length c1 (ints (V k)):=Sep.get hS.out 0 rfl;go_upto_region 8 with (at_builtin;refine wpList_app1 rfl rfl eiInt rfl hO1 rfl rfl (one_int _ _) (by omega) (by omega) (by omega) ?_;intro A3 c3 w3 ho3 hg3 hat3;have S3:=lh (Sep.app hS.out 0 rfl ho3 hg3 hat3);have X3:=lh (hX.out.gr hg3 fun x hx=>(hO1.lt hx).1);clear ho3 hg3 hat3)
    have cy3:=X3.out.cellE CY.out;have by3:=blt cy3;have sz3:=X3.out.size;have hO2:Own w3 w.heap.size 3 1 A2 (V k).length c2 (ints ((V k).map (Sg.rd p))):=Sep.get S3.out 1 rfl;clear hO1 lg bg hkc bk hX hS;go_wp2_with (at_builtin;refine wpList_app1 rfl rfl eiInt rfl hO2 rfl rfl (one_int _ _) (by omega) (by omega) (by omega) ?_;intro A4 c4 w4 ho4 hg4 hat4;have S4:=lh (Sep.app S3.out 1 rfl ho4 hg4 hat4);have X4:=lh (X3.out.gr hg4 fun x hx=>(hO2.lt hx).1);clear ho4 hg4 hat4)
    have S5:=lh (show Sep [Th.own w.heap.size 3 1 A3 (V (k + 1)).length c3 (ints (V (k + 1))),Th.own w.heap.size 3 1 A4 (V (k + 1)).length c4 (ints ((V (k + 1)).map (Sg.rd p))),Th.box w.heap.size w.heap.size [.slice (some ⟨b,oo,none⟩) g.length c]] w4 from by
     have h9:=S4.out;rw [Hs.out,List.map_append,List.map_singleton,HY.out];simpa [ints] using h9)
    have hl5:(V (k + 1)).length=(V k).length + 1:=by rw [Hs.out];simp
    have HL5:=lh hl5;clear hl5 hO2 cy3 by3;go_roundw
    case rel=>exact ⟨k + 1,A3,c3,A4,c4,by omega,by go_num,by rw [HL5.out],by rw [HL5.out],X4,S5⟩
    case measure=>simp [intOf];omega
   ·rw [if_neg hz] at hs;have Hs:=lh hs;have z1:(nk == 0)=false:=by simp [hz]
    clear hs hz;go_wp2;go_roundw
    case rel=>exact ⟨k + 1,A1,c1,A2,c2,by omega,by go_num,by rw [Hs.out],by rw [Hs.out],hX,lh (by rw [Hs.out];exact hS.out)⟩
    case measure=>simp [intOf];omega
  ·obtain rfl:k=g.length:=by omega
   have h9:=hS.out;rw [HV.out,HA.out] at h9;have S9:=lh h9;have HAL:=lh (show (V g.length).length=(Sg.inputsL g).length by rw [HA.out]);clear h9;go_wp2;go_ret2;rw [HAL.out];exact ⟨A1,c1,A2,c2,rfl,Sep.get S9.out 0 rfl,Sep.get S9.out 1 rfl,fun b hb=>S9.out.2.1 (Th.own w.heap.size 3 1 A2 (Sg.inputsL g).length c2 (ints (Sg.valuesL g p))) (by simp) b hb,hX.out⟩
theorem Sep.add2 {B:Nat} {ts:List (Th B)} {W W':World} (h:Sep ts W) (e:Ext W W') (t1 t2:Th B) (h1:t1.ok W') (h2:t2.ok W') (n1:∀ b,t1.fp b→W.heap.size≤b) (n2:∀ b,t2.fp b→W.heap.size≤b) (hd:∀ b,t1.fp b→¬ t2.fp b):Sep (t1 :: t2 :: ts) W' :=
 ⟨h1,fun s hs b hb=>by
  rcases List.mem_cons.1 hs with rfl | hs
  ·exact hd b hb
  ·intro hb';have:=n1 b hb;have:=(h.lt hs hb').2;omega,Sep.add h e t2 h2 n2⟩
end Go.Proofs.YtgojnefiephafaaGreat
