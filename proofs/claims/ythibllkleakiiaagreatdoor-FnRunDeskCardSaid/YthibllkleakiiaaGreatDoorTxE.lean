/- The program's OrderParts, in memory: its contract. Conditions: at most 2^20 parts. -/
import Derived.Test.YthibllkleakiiaaGreatDoorImplTwo
import Derived.Test.YthibllkleakiiaaGreatDoorTxB
namespace Go.Proofs.YthibllkleakiiaaGreatDoor
open Go.RowKit
theorem Ws (A:Option Addr)(n c:Nat)(w:World)(h:n<=c)(_hm:c<=maxLen):Calls Tryz.prog 121 #[.slice A n c] w fun e w'=>e= .returned (.slice A n n)/\w=w':=by
 unfold maxLen at _hm;go_enter Tryz.func121,Tryz.ntmps121;go_wp2;go_ret;exact⟨rfl,rfl⟩
set_option maxRecDepth 100000 in
set_option maxHeartbeats 2000000 in
theorem KA (A:Option Addr)(c:Nat)(f:List Sg.At)(w:World)(h:Rd w 5 A f.length (AH f))(hb:f.length<=1048576) :
  Calls Tryz.prog 85 #[.agg #[.slice A f.length c]] w fun e w'=>∃ A1,e= .returned (.agg #[.slice A1 (Sg.Bv f).length (Sg.Bv f).length])/\Aa w w' /\
   Au w' w.heap.size 111 5 A1 (Sg.Bv f).length (Sg.Bv f).length (AH (Sg.Bv f)):=by
 have HV:=lh fun w' (e:Aa w w')=>Hh A c f w' (h.ext e) hb;have e1:=(Aa.rfl' w).al (.cells #[.slice A f.length c] 68);have e0:=e1.al (.cells #[.slice none 0 0] 68);have E0:=lh e0;have q0:World.cell? (World.alloc (World.alloc w (.cells #[.slice A f.length c] 68)) (.cells #[.slice none 0 0] 68)) ⟨w.heap.size,0,none⟩=some (.slice A f.length c):=by simp[go_sem]
 have Q0:=lh q0;have HB:=lh (show Bx (World.alloc (World.alloc w (.cells #[.slice A f.length c] 68)) (.cells #[.slice none 0 0] 68)) (w.heap.size+1) [.slice none 0 0] by have:=Bx.new (World.alloc w (.cells #[.slice A f.length c] 68)) #[.slice none 0 0] 68;simpa[go_sem] using this);have H:=lh h;clear h e0 e1 q0;cases hv:Sg.AR f
 ·have HN:Hid (Sg.Bv f=[]):=lh (by unfold Sg.Bv;rw[if_neg (by rw[hv];decide)]);have HVF:=lh hv;clear hv;go_enter Tryz.func85,Tryz.ntmps85;go_wp2_with fail
  refine(HV.out _ E0.out).mono ?_;rintro e w2 ⟨rfl,he⟩;rw[HVF.out];have HB2:=HB.out.ext he;have E2:=lh (E0.out.tr he);have z0:=HB2.cell (j:=0) rfl;have zf:=HB2.free 0;have zl:=HB2.lt;have HB3:=lh (HB2.set 0 (.slice none 0 0));clear HB2 he;go_wp2;have s0:=HB3.out.cell (j:=0) rfl;refine bodyPost_ret (v := .agg #[.slice none 0 0]) (by simp[results,Tryz.results85,go_sem,s0];try rfl) rfl ?_;refine⟨none,by rw[HN.out];rfl,E2.out.set (p:=⟨w.heap.size+1,0,none⟩) (by simp) _,?_⟩;rw[HN.out];exact Au.nil _ _ _ _
 ·have hl:=Sg.Cg hv;have hi:((f.length - 1:Nat):Int)=(f.length:Int) - 1:=by omega
  have hO:Sg.Bv f=Sg.CF f f.length ((f.length - 1:Nat):Int) []:=by rw[hi];unfold Sg.Bv;rw[if_pos hv]
  have hz:=Sg.JE hv;have hol:=Sg.JF hv;rw[<- hi] at hz;have HP:=lh fun w' (e:Aa w w')=>YN w' A c f (Sg.CY hv) (H.out.ext e) f.length (f.length - 1) [] none 0 [] w' (by omega) (by omega) (by simp;omega) xr ⟨Au.nil _ _ _ _,by simp,trivial⟩;rw[<- hO,hi] at HP;have HVF:=lh hv;clear hv hO hi hz H;generalize Sg.Bv f=l at *;have HOL:=lh hol;clear hol;go_enter Tryz.func85,Tryz.ntmps85;go_wp2_with fail
  refine(HV.out _ E0.out).mono ?_;rintro e w2 ⟨rfl,he⟩;rw[HVF.out];have HB2:=lh (HB.out.ext he);have EW:=lh (E0.out.tr he);have Q2:=lh (he.cellE Q0.out);have q2:=Q2.out;have bq2:=AA q2;clear he Q0 E0 HB;have E0:=lh ((Aa.rfl' w2).dr);go_wp2_with fail
  refine zb 6 (fun W=>W.cell? ⟨w.heap.size,0,none⟩=some (.slice A f.length c)) ?_ (fun hHeld=>?_)
  ·exact E0.out.cellE Q2.out
  refine zy 0 ?_;refine zy 1 ?_;refine zr 2 rfl fun K hK=>?_;go_simp;refine(Vj A f.length c _ (by omega) (by omega)).mono ?_;rintro e v1 ⟨rfl,he1⟩;have E1:=lh (E0.out.tr he1);clear he1;try go_wp2_with fail
  refine zh (hK.out _ _) (E1.out.cellE Q2.out) fun hHeld=>?_;clear hK K;try simp only[Act.put,pu]
  refine zr 3 rfl fun K hK=>?_;go_simp;refine(HP.out _ (EW.out.tr E1.out)).mono ?_;rintro e v2 ⟨A1,c1,rfl,he2,hS2⟩;have E2:=lh (E1.out.tr he2);have HO2:=lh (show Au v2 v1.heap.size 111 5 A1 l.length c1 (AH l) from hS2.1);clear hS2 he2;have hc1:=HO2.out.2.1;have hc2:=HO2.out.2.2.1;try go_wp2_with fail
  refine zh (hK.out _ _) (E2.out.cellE Q2.out) fun hHeld=>?_;clear hK K;try simp only[Act.put,pu]
  refine zr 4 rfl fun K hK=>?_;go_simp;refine(Ws A1 l.length c1 _ hc1 hc2).mono ?_;rintro e v3 ⟨rfl,rfl⟩;try go_wp2_with fail
  refine zh (hK.out _ _) (E2.out.cellE Q2.out) fun hHeld=>?_;clear hK K;try simp only[Act.put,pu]
  refine zy 5 ?_;refine zr 6 rfl fun K hK=>?_;have hb3:=HB2.out.ext E2.out;have z0:=hb3.cell (j:=0) rfl;have zf:=hb3.free 0;have zl:=hb3.lt;have HB3:=lh (hb3.set 0 (.slice A1 l.length l.length));clear hb3;go_simp;refine hK.out _ _ (fun e=>absurd rfl e) (fun hh=>?_);clear hK K hHeld hh;try simp only[Act.put]
  refine zn ?_;go_wp2;have s0:=HB3.out.cell (j:=0) rfl;refine bodyPost_ret (v := .agg #[.slice A1 l.length l.length]) (by simp[results,Tryz.results85,go_sem,s0];try rfl) rfl ?_;have hn:AE A1≠some (w.heap.size+1):=fun e=>by have h1:=HO2.out.lt e;have h2:=HB2.out.lt;have h3:=E1.out.size;omega
  exact⟨A1,rfl,(EW.out.tr E2.out).set (p:=⟨w.heap.size+1,0,none⟩) (by simp) _,(HO2.out.clip.mono (Nat.le_trans EW.out.size E1.out.size)).set hn _⟩
end Go.Proofs.YthibllkleakiiaaGreatDoor
