/- The program's which, for any function value that answers: its contract. Conditions: bounds on lengths. -/
import Derived.Test.YtgojnefiephafaaGreatImplTwo
import Derived.Test.YtgojnefiephafaaGreatModelsA
namespace Go.Proofs.YtgojnefiephafaaGreat
open Go.RowKit
set_option maxHeartbeats 1000000 in
theorem i_which {fid:Nat} {caps:List Value} {inv:World→Prop} {p:Int→Bool} {dom:Int→Prop} (C:Prd Tryz.prog fid caps inv p dom) (A:Option Addr) (n c:Nat) (w:World) (hi:inv w) (hd:∀ k:Nat,k<n→dom k) (hn:n≤1048576) :
  Calls Tryz.prog 83 #[.agg #[.slice A n c],.func (.func fid) #[] caps.toArray] w fun e w'=>∃ A',e = .returned (.slice A' (Sg.whichL (fun i=>p i) n).length (Sg.whichL (fun i=>p i) n).length) ∧
   Own w' w.heap.size 3 1 A' (Sg.whichL (fun i=>p i) n).length (Sg.whichL (fun i=>p i) n).length (ints (Sg.whichL (fun i=>p i) n))∧Ext w w':=by
 have hent:=C.ent;have HC:=lh C;have HD:=lh hd;have e0:=(Ext.rfl' w).al (.cells #[.slice A n c] 33);have HI:=lh (C.ext _ _ hi e0);have HE:=lh e0;have hq:∀ k,Sg.whichL (fun i=>p i) (k + 1)=if p k=true then Sg.whichL (fun i=>p i) k++[(k:Int)] else Sg.whichL (fun i=>p i) k:=fun k=>Sg.whichL_succ _ k
 have hL:∀ k,(Sg.whichL (fun i=>p i) k).length≤k:=fun k=>Sg.whichL_len _ k;have h0:Sg.whichL (fun i=>p i) 0=[]:=rfl;generalize Sg.whichL (fun i=>p i)=V at *;have HQ:=lh hq;have HL:=lh hL;have H0:=lh h0;clear C hd hi e0 hq hL h0;go_enter Tryz.func83,Tryz.ntmps83;go_wp2;go_loopw [5,10] (fun v i wr=>∃ (k:Nat) (A':Option Addr) (c':Nat),k≤n∧i = .int .i64 k∧v = .slice A' (V k).length c'∧Own wr (w.heap.size + 1) 3 1 A' (V k).length c' (ints (V k))∧Ext (w.alloc (.cells #[.slice A n c] 33)) wr) (fun _ i _=>n - (intOf i).toNat)
 case atStart=>exact ⟨0,none,0,Nat.zero_le _,rfl,by rw [H0.out];rfl,by rw [H0.out];exact Own.nil _ _ _ _,Ext.rfl' _⟩
 case round =>
  obtain ⟨k,A',c',hk,rfl,rfl,hown,he⟩:=hrel;have hl:=HL.out k;have He:=lh he;have Ho:=lh hown;have hcm:=And.intro hown.2.1 hown.2.2.1;clear he hown;by_cases hlt:k<n
  ·have hq:=HQ.out k;cases hp:p (k:Int)
   ·rw [hp] at hq;simp only [Bool.false_eq_true,if_false] at hq;have Hq:=lh hq;have Hp:=lh hp;clear hp hq;go_wp2_with fail
    refine (HC.out.call _ (k:Int) (HC.out.ext _ _ HI.out He.out) (HD.out k hlt)).mono ?_;rw [Hp.out];rintro e w1 ⟨rfl,he1⟩;go_wp2;go_roundw
    case rel=>exact ⟨k + 1,A',c',by omega,by go_num,by rw [Hq.out],by rw [Hq.out];exact Ho.out.ext he1,He.out.tr he1⟩
    case measure=>simp [intOf];omega
   ·rw [hp] at hq;simp only [if_true] at hq;have Hq:=lh hq;have Hp:=lh hp;clear hp hq;go_wp2_with fail
    refine (HC.out.call _ (k:Int) (HC.out.ext _ _ HI.out He.out) (HD.out k hlt)).mono ?_;rw [Hp.out];rintro e w1 ⟨rfl,he1⟩;have Ho1:=lh (Ho.out.ext he1);have s1:=(He.out.tr he1).size;simp only [World.size_alloc] at s1;go_wp2_with (at_builtin;refine wpList_app1 rfl rfl eiInt rfl Ho1.out rfl rfl (one_int _ _) (by omega) (by omega) (by omega) ?_;intro A2 c2 w9 hown2 hg2 hat2)
    go_roundw
    case rel=>exact ⟨k + 1,A2,c2,by omega,by go_num,by rw [Hq.out];simp,by rw [Hq.out];simpa using hown2,(He.out.tr he1).gr hg2 fun x hx=>(by have:=(Ho1.out.lt hx).1;simpa using this)⟩
    case measure=>simp [intOf];omega
  ·obtain rfl:k=n:=by omega
   go_wp2_with (go_at_call 89;refine (i_Clip _ _ _ _ hcm.1 hcm.2).mono ?_;rintro e w' ⟨rfl,rfl⟩)
   go_ret;exact ⟨A',rfl,Ho.out.clip.mono (by omega),HE.out.tr He.out⟩
end Go.Proofs.YtgojnefiephafaaGreat
