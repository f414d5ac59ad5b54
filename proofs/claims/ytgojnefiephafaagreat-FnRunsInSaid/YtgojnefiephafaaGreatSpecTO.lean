/- Parts of one proof, joined. The reference's cellsOf and CellsOf: contracts. Conditions: bounds on lengths. The reference's meets and MustRun: contracts. Conditions: bounds on lengths. -/
import Derived.Test.YtgojnefiephafaaGreatLawAll
import Derived.Test.YtgojnefiephafaaGreatModelsA
import Derived.Test.YtgojnefiephafaaGreatSpecThree
namespace Go.Proofs.YtgojnefiephafaaGreat
open Go.RowKit
end Go.Proofs.YtgojnefiephafaaGreat
namespace Go.Proofs.YtgojnefiephafaaGreat
open Go.RowKit
theorem s_meets (A B:Option Addr) (ca cb na nb:Nat) (a b:List Int) (w:World) (h:Rd w 1 A na (ints a)) (k:Rd w 1 B nb (ints b)) :
  Calls Tryz.prog 143 #[.slice A na ca,.slice B nb cb] w fun e w'=>e = .returned (.bool (Sg.meets a b))∧Ext w w':=by
 have hm:=h.big;obtain rfl:=h.len;have HP:=lh (fun n=>s_placeIn B nb cb b n w k);have HN:=lh (fun n=>placeIn_neg b n);go_enter Tryz.func143,Tryz.ntmps143;go_wp2;go_loop [5] (fun i=>∃ j:Nat,j≤a.length∧i = .int .i64 j∧((a.drop j).any fun x=>decide (x ∈ b))=Sg.meets a b) (fun i=>a.length - (intOf i).toNat)
 case atStart=>exact ⟨0,Nat.zero_le _,rfl,rfl⟩
 case round =>
  obtain ⟨j,hj,rfl,hpl⟩:=hrel;by_cases hlt:j<a.length
  ·obtain ⟨bb,o,x,rfl,hx,hc⟩:=h.at1 hlt;rw [drop_cons a j hx,List.any_cons] at hpl;have H:=lh hpl;clear hpl hx;by_cases hr:x ∈ b
   ·have Hr:=lh (show decide (x ∈ b)=true by simpa using hr);have hp:decide (placeIn b x ≥ 0)=true:=by have:=(HN.out x).1;simp only [decide_eq_true_eq];by_cases h0:placeIn b x<0;exact absurd hr (this h0);omega
    clear hr;go_wp2_with (go_at_call 119;refine (HP.out _).mono ?_;rintro e w' ⟨rfl,rfl⟩)
    go_ret;exact ⟨ret_bool (by rw [← H.out,Hr.out];rfl),Ext.rfl' _⟩
   ·have Hr:=lh (show decide (x ∈ b)=false by simpa using hr);have hp:decide (placeIn b x ≥ 0)=false:=by have:=(HN.out x).2 hr;simp only [decide_eq_false_iff_not];omega
    clear hr;go_wp2_with (go_at_call 119;refine (HP.out _).mono ?_;rintro e w' ⟨rfl,rfl⟩)
    go_round
    case rel=>exact ⟨j + 1,by omega,by go_num,by rw [← H.out,Hr.out,Bool.false_or]⟩
    case measure=>simp [intOf];omega
  ·have H:=lh hpl;clear hpl;go_wp2;go_ret;exact ⟨ret_bool (by rw [← H.out,List.drop_eq_nil_of_le (by omega)];rfl),Ext.rfl' _⟩
end Go.Proofs.YtgojnefiephafaaGreat
