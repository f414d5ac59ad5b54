/- Parts of one proof, joined. The program's which, for any function value that answers: its contract. Conditions: bounds on lengths. -/
import Derived.Deep.RegionHeld3
import Derived.Deep.QuietTactic
import Derived.BigQuiet
import Derived.Test.YthibllkleakiiaaGreatDoorImplTwo
import Derived.Test.YthibllkleakiiaaGreatDoorTy
import Derived.Test.YthibllkleakiiaaGreatDoorModelsA
namespace Go.Proofs.YthibllkleakiiaaGreatDoor
open Go.RowKit
theorem Gn:∀ (n:Nat)(l:List Int),l.Nodup->(∀ x ∈ l,0<=x/\x<n)->l.length<=n
 | 0,l,_,h=>by
  cases l with
  | nil=>simp
  | cons x l=>have:=h x (by simp);omega
 | n+1,l,hd,h=>by
  by_cases hn:(n:Int) ∈ l
  ·have hle:=Gn n (l.erase n) (hd.erase _) fun x hx=>by
    rw[List.Nodup.mem_erase_iff hd] at hx;have:=h x hx.2;have:=hx.1;omega
   have:=List.length_erase_of_mem hn;omega
  ·have:=Gn n l hd fun x hx=>by
    have h1:=h x hx;have:x≠n:=fun e=>hn (e ▸ hx);omega
   omega
structure TX (B1 B2 fid:Nat) (caps:List Value) {σ:Type} (inv:σ->(Nat->Prop)->World->Prop) (l:List Int) (s:σ) (F:Nat->Prop) (w:World) (F0:Nat->Prop) (A:Option Addr) (c:Nat):Prop where
 i:inv s F0 w
 r:w.heap[B2]? = some (.cells #[.slice A l.length c] 36 (0,0))
 o:AA w (B2+1) 3 1 A l.length c (Ah l)
 v:w.cell? ⟨B1,0,none⟩=some (.func (.func fid) #[] caps.toArray)
 n1:¬ F0 B1
 n2:¬ F0 B2
 nA:∀ b,AD A=some b->¬ F0 b
 nd:l.Nodup
 rg:∀ x ∈ l,0<=x/\x<(10:Nat)
 fe:∀ b,F b↔(F0 b\/b=B2\/AD A=some b)
def QX (B1 B2 fid:Nat)(caps:List Value){σ:Type}(inv:σ->(Nat->Prop)->World->Prop)(t:List Int × σ)(F:Nat->Prop)(w:World):Prop :=
 ∃ F0 A c,TX B1 B2 fid caps inv t.1 t.2 F w F0 A c
theorem J5 {w:World}{b:Nat}{v:Value}{t:Nat}(h:w.heap[b]? = some (.cells #[v] t (0,0))):w.cell? ⟨b,0,none⟩=some v:=by rw[cell_of_row w b 0 _ _ _ h];rfl
theorem J6 {w:World}{b:Nat}{v:Value}{t:Nat}(h:w.heap[b]? = some (.cells #[v] t (0,0))):w.frozen? ⟨b,0,none⟩=false:=by simp[World.frozen?,h]
set_option maxRecDepth 100000 in
set_option maxHeartbeats 2000000 in
theorem V6 {fid:Nat}{caps:List Value}{σ:Type}{inv:σ->(Nat->Prop)->World->Prop}{val:σ->Int->Int}{nxt:σ->Int->σ}{dom:Int->Prop}{L:Nat}(C:TP Tryz.prog fid caps σ inv val nxt dom L)(hdom:∀ n,dom n->0<=n/\n<=9)(B1 B2:Nat)(h12:B1<B2)(hLB:L<=B1)(l:List Int)(s:σ)(F:Nat->Prop)(w:World)(n:Int)(F0:Nat->Prop)(A:Option Addr)(c:Nat)(R:TX B1 B2 fid caps inv l s F w F0 A c)(hn:dom n) :
  Calls Tryz.prog 126 #[.int .i64 n,.pointer (some ⟨B2,0,none⟩),.pointer (some ⟨B1,0,none⟩)] w fun e w' =>
   e= .returned (.int .i64 (val s n))/\∃ F',QX B1 B2 fid caps inv (Sg.CT l n,nxt s n) F' w'/\AH F w w'/\∀ b,F' b->F b\/w.heap.size<=b:=by
 have hent:=C.ent;have hr:=J5 R.r;have hfz:=J6 R.r;have hv:=R.v;have hl:=Gn 10 l R.nd R.rg;have hB2:B2<w.heap.size:=Au hr;have hlt1:=Au hv;have HR:=lh R;have HC:=lh C;have Hn:=lh hn;have Hcon:=lh (Eo A l.length c l n w R.o.rd);clear R C hn;by_cases hm:n ∈ l
 ·have hd:decide (n ∈ l)=true:=by simp[hm]
  have Hd:=lh hd;have Hm:=lh hm;clear hd hm;go_enter Tryz.func126,Tryz.ntmps126;go_wp2_with fail
  refine Hcon.out.mono ?_;rw[Hd.out];rintro e w1 ⟨rfl,he1⟩;have hv1:=he1.cellE hv;go_wp2_with fail
  refine(HC.out.call s F0 _ n (HC.out.ext _ _ _ _ HR.out.i he1) Hn.out).mono ?_;rintro e w2 ⟨rfl,F1,hi2,hm2,hF1⟩;go_wp2_with fail
  go_ret;have R:=HR.out;have hon:Sg.CT l n=l:=by unfold Sg.CT;rw[if_pos Hm.out]
  have nF1:∀ b,b<w.heap.size->¬ F0 b->¬ F1 b:=fun b hb hn0 hf=>(hF1 b hf).elim hn0 fun e=>by have:=he1.size;omega
  have hAw:∀ b,AD A=some b->b<w.heap.size:=fun b hb=>(R.o.lt hb).2;have hB1F:¬ F0 B1:=R.n1;refine⟨rfl,fun b=>F1 b\/b=B2\/AD A=some b,⟨F1,A,c,?_⟩,?_,?_⟩
  ·rw[hon];refine⟨hi2,?_,?_,hm2.cellE hv1 hB1F,nF1 _ hlt1 R.n1,nF1 _ hB2 R.n2,fun b hb=>nF1 b (hAw b hb) (R.nA b hb),R.nd,R.rg,fun b=>Iff.rfl⟩
   ·rw[hm2.block _ (Nat.lt_of_lt_of_le hB2 he1.size) R.n2,he1.block _ hB2];exact R.r
   ·exact(R.o.ext he1).mod hm2 fun b hb=>R.nA b hb
  ·exact(AH.of he1).tr' (hm2.mono fun b _ hb=>(R.fe b).2 (.inl hb))
  ·intro b hb;rcases hb with hb | hb | hb
   ·rcases hF1 b hb with hb | hb
    ·exact .inl ((R.fe b).2 (.inl hb))
    ·exact .inr (Nat.le_trans he1.size hb)
   ·exact .inl ((R.fe b).2 (.inr (.inl hb)))
   ·exact .inl ((R.fe b).2 (.inr (.inr hb)))
 ·have hd:decide (n ∈ l)=false:=by simp[hm]
  have Hd:=lh hd;have Hm:=lh hm;have hne:¬ B2=B1:=by omega
  have hne':¬ B1=B2:=by omega
  clear hd hm;go_enter Tryz.func126,Tryz.ntmps126;go_wp2_with fail
  refine Hcon.out.mono ?_;rw[Hd.out];rintro e w1 ⟨rfl,he1⟩;have hv1:=he1.cellE hv;have hr1:=he1.cellE hr;have ho1:=HR.out.o.ext he1;have hw1:=Au hr1;have hAB:AD A≠some B2:=fun e=>by have:=(HR.out.o.lt e).1;omega
  have hAB1:AD A≠some B1:=fun e=>by have:=(HR.out.o.lt e).1;omega
  have HAB:=lh hAB;have HAB1:=lh hAB1;have Hhe1:=lh he1;clear hr hfz hv hAB hAB1 he1;go_wp2_with (at_builtin;refine AF rfl rfl Bc rfl ho1 rfl rfl (B_ _ _) (by omega) (by omega) (by omega) ?_;intro A2 c2 w2 ho2 hg2 hat2;have q2:=(World.cell?_of_block (a:=⟨B2,0,none⟩) (hg2.block B2 hw1 (fun e=>HAB.out e.symm))).trans hr1;have q1:=(World.cell?_of_block (a:=⟨B1,0,none⟩) (hg2.block B1 (by omega) (fun e=>HAB1.out e.symm))).trans hv1;have qf:w2.frozen? ⟨B2,0,none⟩=false:=(World.frozen?_of_block (a:=⟨B2,0,none⟩) (hg2.block B2 hw1 (fun e=>HAB.out e.symm))).trans (J6 ((Hhe1.out.block _ hB2).trans HR.out.r)))
  have R:=HR.out;have he1:=Hhe1.out;obtain⟨W3,hW3⟩:∃ W3,W3=w2.setCell ⟨B2,0,none⟩ (.slice A2 (l.length+1) c2):=⟨_,rfl⟩;rw[<- hW3];have m12:AH (fun b=>AD A=some b) w1 w2:=⟨hg2.os,hg2.tape,hg2.output,hg2.size,fun b hb hn=>hg2.block b hb fun e=>hn e.symm⟩;have m23:AH (fun b=>b=B2) w2 W3:=⟨by rw[hW3];rfl,by rw[hW3];rfl,by rw[hW3];rfl,by rw[hW3];simp[World.setCell],fun b _ hn=>by rw[hW3];exact Below.heap_setCell _ _ _ _ hn⟩;have m13:AH (fun b=>AD A=some b\/b=B2) w1 W3:=(m12.mono fun b _ e=>.inl e).tr' (m23.mono fun b _ e=>.inr e);have hi3:=HC.out.md s F0 _ w1 W3 (HC.out.ext _ _ _ _ R.i he1) m13 (fun b hb hG=>hG.elim (fun e=>R.nA b e hb) (fun e=>R.n2 (e ▸ hb))) (fun b hb hG=>hG.elim (fun e=>by have:=(R.o.lt e).1;omega) (fun e=>by omega));have hold:=HC.out.old s F0 w;have h2h:w2.heap[B2]? = some (.cells #[.slice A l.length c] 36 (0,0)):=(hg2.block B2 hw1 (fun e=>HAB.out e.symm)).trans ((he1.block _ hB2).trans R.r);have h3h:W3.heap[B2]? = some (.cells #[.slice A2 (l.length+1) c2] 36 (0,0)):=by rw[hW3];simp[World.setCell,Array.getElem?_modify,h2h]
  have hA2B:AD A2≠some B2:=fun e=>by have:=(ho2.lt e).1;omega
  have ho3:AA W3 (B2+1) 3 1 A2 (l.length+1) c2 (Ah l++[.int .i64 n]):=by rw[hW3];exact ho2.set hA2B _
  have hv3:W3.cell? ⟨B1,0,none⟩=some (.func (.func fid) #[] caps.toArray):=by rw[hW3,co];exact q1
  have hnA2:∀ b,AD A2=some b->¬ F0 b:=by
   intro b hb hf;rcases hat2 with e | ⟨g,e,hg⟩
   ·exact R.nA b (by rw[<- e];exact hb) hf
   ·rw[e] at hb;injection hb with hb;have:=hold b R.i hf;have:=he1.size;omega
  have hsz13:=m13.size;have hsz1:=he1.size;clear q1 q2 qf hr1 hv1;refine(HC.out.call s F0 _ n hi3 Hn.out).mono ?_;rintro e w4 ⟨rfl,F1,hi4,hm4,hF1⟩;have Hfin:=lh (And.intro hi4 (And.intro hm4 hF1));clear hi4 hm4 hF1;go_wp2_with fail
  go_ret;obtain⟨hi4,hm4,hF1⟩:=Hfin.out;have hon:Sg.CT l n=l++[n]:=by unfold Sg.CT;rw[if_neg Hm.out]
  have nF1:∀ b,b<W3.heap.size->¬ F0 b->¬ F1 b:=fun b hb hn0 hf=>(hF1 b hf).elim hn0 fun e=>by omega
  refine⟨rfl,fun b=>F1 b\/b=B2\/AD A2=some b,⟨F1,A2,c2,?_⟩,?_,?_⟩
  ·rw[hon];have hdn:=hdom n Hn.out;refine⟨hi4,?_,?_,hm4.cellE hv3 R.n1,nF1 _ (Au hv3) R.n1,nF1 _ (by omega) R.n2,fun b hb=>nF1 b (ho3.lt hb).2 (hnA2 b hb),?_,?_,fun b=>Iff.rfl⟩
   ·rw[hm4.block _ (by omega) R.n2,h3h];simp
   ·have:=ho3.mod hm4 hnA2;simpa using this
   ·rw[List.nodup_append];exact⟨R.nd,by simp,fun a ha b hb=>by simp at hb;subst hb;exact fun e=>Hm.out (e ▸ ha)⟩
   ·intro x hx;rcases List.mem_append.1 hx with hx | hx
    ·exact R.rg x hx
    ·simp at hx;subst hx;omega
  ·refine(AH.of he1).tr' ((m13.mono fun b _ hb=>(R.fe b).2 (hb.elim (fun e=>.inr (.inr e)) (fun e=>.inr (.inl e)))).tr' (hm4.mono fun b _ hb=>(R.fe b).2 (.inl hb)))
  ·intro b hb;rcases hb with hb | hb | hb
   ·rcases hF1 b hb with hb | hb
    ·exact .inl ((R.fe b).2 (.inl hb))
    ·exact .inr (by omega)
   ·exact .inl ((R.fe b).2 (.inr (.inl hb)))
   ·rcases hat2 with e | ⟨g,e,hg⟩
    ·exact .inl ((R.fe b).2 (.inr (.inr (by rw[<- e];exact hb))))
    ·rw[e] at hb;injection hb with hb;exact .inr (by omega)
theorem UW {fid:Nat}{caps:List Value}{σ:Type}{inv:σ->(Nat->Prop)->World->Prop}{val:σ->Int->Int}{nxt:σ->Int->σ}{dom:Int->Prop}{L:Nat}(C:TP Tryz.prog fid caps σ inv val nxt dom L)(hdom:∀ n,dom n->0<=n/\n<=9)(B1 B2:Nat)(h12:B1<B2)(hLB:L<=B1) :
  TP Tryz.prog 126 [.pointer (some ⟨B2,0,none⟩),.pointer (some ⟨B1,0,none⟩)] (List Int × σ) (QX B1 B2 fid caps inv) (fun t n=>val t.2 n) (fun t n=>(Sg.CT t.1 n,nxt t.2 n)) dom (B1+1) where
 ent:=GC Tryz.func126 rfl (by kernel_rfl)
 call:=fun t F w n h hn=>by
  obtain⟨F0,A,c,R⟩:=h;exact V6 C hdom B1 B2 h12 hLB t.1 t.2 F w n F0 A c R hn
 old:=fun t F w b h hb=>by
  obtain⟨F0,A,c,R⟩:=h;rcases (R.fe b).1 hb with hb | hb | hb
  ·exact C.old _ _ _ _ R.i hb
  ·subst hb;exact(Array.getElem?_eq_some_iff.1 R.r).1
  ·exact(R.o.lt hb).2
 md:=fun t F G w w' h hm h1 h2=>by
  obtain⟨F0,A,c,R⟩:=h;have g1:∀ b,F0 b->¬ G b:=fun b hb=>h1 b ((R.fe b).2 (.inl hb));refine⟨F0,A,c,C.md _ _ G _ _ R.i hm g1 (fun b hb=>h2 b (by omega)),?_,?_,hm.cellE R.v (h2 _ (by omega)),R.n1,R.n2,R.nA,R.nd,R.rg,R.fe⟩
  ·rw[hm.block _ (Array.getElem?_eq_some_iff.1 R.r).1 (h1 _ ((R.fe _).2 (.inr (.inl rfl))))];exact R.r
  ·exact R.o.mod hm fun b hb=>h1 b ((R.fe b).2 (.inr (.inr hb)))
 ran:=fun t F w n h hn=>by
  obtain⟨F0,A,c,R⟩:=h;exact C.ran _ _ _ _ R.i hn
end Go.Proofs.YthibllkleakiiaaGreatDoor
namespace Sg
def II {σ:Type}(f:List At)(val:σ->Int->Int)(N0:σ->Int->σ)(s:σ):Int × (List Int × σ) :=
 Cl f (fun (t:List Int × σ) n=>val t.2 n) (fun t n=>(CT t.1 n,N0 t.2 n)) f.length ((f.length:Int) - 1) ([],s)
end Sg
namespace Go.Proofs.YthibllkleakiiaaGreatDoor
open Go.RowKit
set_option maxRecDepth 100000 in
set_option maxHeartbeats 2000000 in
theorem RC {fid:Nat}{caps:List Value}{σ:Type}{inv:σ->(Nat->Prop)->World->Prop}{val:σ->Int->Int}{nxt:σ->Int->σ}{dom:Int->Prop}{L:Nat}(C:TP Tryz.prog fid caps σ inv val nxt dom L)(hdom:∀ n,dom n->0<=n/\n<=9)(Af:Option Addr)(cf:Nat)(f:List Sg.At)(ok:Sg.WO f dom)(s:σ)(F:Nat->Prop)(w:World)(hL:L<=w.heap.size)(hinv:inv s F w)(hf:Rd w 5 Af f.length (AL f))(hoff:Mj F Af) :
  Calls Tryz.prog 87 #[.agg #[.slice Af f.length cf],.func (.func fid) #[] caps.toArray] w fun e w' =>
   ∃ A' F',e= .returned (.tuple #[.int .i64 (Sg.II f val nxt s).1,.slice A' (Sg.II f val nxt s).2.1.length (Sg.II f val nxt s).2.1.length]) /\
    AA w' w.heap.size 3 1 A' (Sg.II f val nxt s).2.1.length (Sg.II f val nxt s).2.1.length (Ah (Sg.II f val nxt s).2.1) /\
    inv (Sg.II f val nxt s).2.2 F' w'/\AH F w w'/\(∀ b,F' b->F b\/w.heap.size<=b)/\Mj F' A'/\0<=(Sg.II f val nxt s).1/\(Sg.II f val nxt s).1<=999:=by
 have hlen:=ok.len;have hone:=ok.one;obtain⟨n,hn⟩:∃ n:Nat,n=f.length - 1:=⟨_,rfl⟩;have hcast:((f.length:Int) - 1)=(n:Int):=by omega
 have C':=UW C hdom (w.heap.size+1) (w.heap.size+1+1) (by omega) (by omega);have Hev:=V7 C' Af cf f ok f.length;have hdef:Sg.II f val nxt s=Sg.Cl f (fun (t:List Int × σ) n=>val t.2 n) (fun t n=>(Sg.CT t.1 n,nxt t.2 n)) f.length n ([],s):=by unfold Sg.II;rw[hcast]
 rw[hdef];generalize hr:Sg.Cl f (fun (t:List Int × σ) n=>val t.2 n) (fun t n=>(Sg.CT t.1 n,nxt t.2 n)) f.length n ([],s)=r at *;obtain⟨v,l,s'⟩:=r;obtain⟨W0,hW0⟩:∃ W0,W0=((w.alloc (.cells #[.slice Af f.length cf] 68)).alloc (.cells #[.func (.func fid) #[] caps.toArray] 107)).alloc (.cells #[.slice none 0 0] 36):=⟨_,rfl⟩;have e0:Aa w W0:=by rw[hW0];exact(((Aa.rfl' w).al _).al _).al _
 have hz0:W0.heap.size=w.heap.size+1+1+1:=by rw[hW0];simp
 have hq0:W0.cell? ⟨w.heap.size,0,none⟩=some (.slice Af f.length cf):=by rw[hW0];simp[go_sem]
 have hq1:W0.cell? ⟨w.heap.size+1,0,none⟩=some (.func (.func fid) #[] caps.toArray):=by rw[hW0];simp[go_sem]
 have hq2:W0.heap[w.heap.size+1+1]? = some (.cells #[.slice none 0 0] 36 (0,0)):=by
  rw[hW0];have:=heap_alloc_new ((w.alloc (.cells #[.slice Af f.length cf] 68)).alloc (.cells #[.func (.func fid) #[] caps.toArray] 107)) (.cells #[.slice none 0 0] 36);simpa using this
 have hold:∀ b,F b->b<w.heap.size:=fun b=>C.old s F w b hinv
 have hinit:∀ W,Aa W0 W->QX (w.heap.size+1) (w.heap.size+1+1) fid caps inv ([],s) (fun b=>F b\/b=w.heap.size+1+1\/AD none=some b) W:=by
  intro W e;refine⟨F,none,0,C.ext _ _ _ _ hinv (e0.tr e),?_,AA.nil _ _ _ _,e.cellE hq1,fun h=>?_,fun h=>?_,fun b h=>?_,List.nodup_nil,fun x hx=>?_,fun b=>Iff.rfl⟩
  ·rw[e.block _ (by omega)];exact hq2
  ·have:=hold _ h;omega
  ·have:=hold _ h;omega
  ·simp[AD] at h
  ·cases hx
 have Hinit:=lh hinit
 have hoffB:Mj (fun b=>F b\/b=w.heap.size+1+1\/AD none=some b) Af:=by
  intro b hb h;rcases h with h | h | h
  ·exact hoff b hb h
  ·have hfl:0<f.length * 5:=by omega
   obtain⟨b',o',ha,hcell⟩:=hf.2.2 hfl;have hlt:=Au (hcell 0 _ (List.getElem?_eq_getElem (by rw[hf.1];exact hfl)));rw[ha] at hb;simp[AD] at hb
   omega
  ·simp[AD] at h
 have HoffB:=lh hoffB;have Hold:=lh hold
 have hnB:¬ (fun b=>F b\/b=w.heap.size+1+1\/AD none=some b) w.heap.size:=by
  intro h;rcases h with h | h | h
  ·have:=hold _ h;omega
  ·omega
  ·simp[AD] at h
 have HnB:=lh hnB;clear hnB;have He0:=lh e0;have Hq0:=lh hq0;clear hinit hoffB hq0 hq1 hq2 hold e0 hz0;have HC:=lh C;have HI:=lh hinv;have HO:=lh hoff;have Hr:=lh hr;have Hn:=lh hn;have Hc:=lh hcast;have HE:=lh Hev;dsimp only at *;clear C C' hinv hoff hr hn hcast Hev hdef hdom ok;go_enter Tryz.func87,Tryz.ntmps87;go_wp2;rw[<- hW0];have HW:=lh hW0;clear hW0;have q0:=Hq0.out
 go_region_held3 (fun W=>W.cell? ⟨w.heap.size,0,none⟩=some (.slice Af f.length cf)) (first | exact k1 | go_keep)
  (first
   | (go_at_call 123;refine(TY Af f.length cf _ hone (by omega)).mono ?_;rintro e w1 ⟨rfl,he1⟩;have e1:=((Aa.rfl' W0).dr).tr he1;have k1:=e1.cellE q0)
   | (go_at_call 125;rw[Hc.out];refine(HE.out n ([],s) _ _ (by have:=Hn.out;omega) (by have:=Hn.out;omega) hlen (Hinit.out _ e1) ((hf.ext He0.out).ext e1) HoffB.out).mono ?_;rw[Hr.out];rintro e w2 ⟨rfl,⟨F2,hi2,hm2,hF2⟩,hx0,hx1⟩;have k1:=hm2.cellE k1 HnB.out))
 go_goals
 all_goals
  obtain⟨F0,A2,c2,R⟩:=hi2;dsimp only at R;have hq:=J5 R.r;have hle:=R.o.2.1;have hmx:=R.o.2.2.1;have HR:=lh R;have H2:=lh (And.intro hm2 (And.intro hF2 (And.intro hx0 (And.intro hx1 e1))));clear R hm2 hF2 hx0 hx1 e1;go_wp2_with (go_at_call 48;refine(JG A2 l.length c2 _ hle hmx).mono ?_;rintro e w3 ⟨rfl,hw3⟩;subst hw3)
  go_ret2;obtain⟨hm2,hF2,hx0,hx1,e1⟩:=H2.out;have R:=HR.out;have hsz:=e1.size;have hsz0:W0.heap.size=w.heap.size+1+1+1:=by rw[HW.out];simp
  have hold:=Hold.out;refine⟨A2,F0,rfl,R.o.clip.mono (by omega),R.i,⟨hm2.os.trans (e1.os.trans He0.out.os),hm2.tape.trans (e1.tape.trans He0.out.tape),hm2.output.trans (e1.output.trans He0.out.output),by have:=hm2.size;omega,?_⟩,?_,R.nA,hx0,hx1⟩
  ·intro b hb hnF;refine(hm2.block b (by omega) ?_).trans ((e1.block b (by omega)).trans (He0.out.block b hb));intro h;rcases h with h | h | h
   ·exact hnF h
   ·omega
   ·simp[AD] at h
  ·intro b hb;rcases hF2 b ((R.fe b).2 (.inl hb)) with h | h
   ·rcases h with h | h | h
    ·exact .inl h
    ·exact .inr (by omega)
    ·simp[AD] at h
   ·exact .inr (by omega)
end Go.Proofs.YthibllkleakiiaaGreatDoor
namespace Sg
theorem Qf (f:List At)(vals:List Int):∀ (k:Nat) (i:Int) (l:List Int),
  Cl f (fun (_:List Int × Unit) n=>rd vals n) (fun t n=>(CT t.1 n,())) k i (l,())=((Cj f vals k i).1,((Cj f vals k i).2.foldl CT l,())):=by
 intro k;induction k with
 | zero=>intro i l;rfl
 | succ k ih =>
  intro i l;simp only[Cl,Cj];generalize f.getD i.toNat default=p;by_cases h0:p.kind=0
  ·simp[h0]
  ·by_cases h1:p.kind=1
   ·simp[h1]
   ·by_cases h8:p.kind=8
    ·simp[h8,ih,List.foldl_append]
    ·simp[h0,h1,h8,ih,List.foldl_append]
theorem Kk (f:List At)(vals:List Int):II f (fun (_:Unit) n=>rd vals n) (fun _ _=>()) ()=((AK f vals).1,((AK f vals).2,())):=by
 unfold II AK AV;exact Qf f vals _ _ _
end Sg
namespace Go.Proofs.YthibllkleakiiaaGreatDoor
open Go.RowKit
theorem DZ (A:Option Addr)(n c:Nat)(w:World):Calls Tryz.prog 51 #[.agg #[.slice A n c]] w fun e w'=>e= .returned (.int .i64 n)/\Aa w w':=by
 go_enter Tryz.func51,Tryz.ntmps51;go_wp2;go_ret;exact⟨rfl,(Aa.rfl' w).al _⟩
set_option maxHeartbeats 1000000 in
theorem UX (A B:Option Addr)(ca cb:Nat)(a b:List Int)(w:World)(h:Rd w 1 A a.length (Ah a))(k:Rd w 1 B b.length (Ah b)) :
  Calls Tryz.prog 185 #[.slice A a.length ca,.slice B b.length cb] w fun e w'=>e= .returned (.bool (decide (a=b)))/\Aa w w':=by
 have hk:=k.big;have hh:=h.big;by_cases hab:a.length=b.length
 ·have h1:((a.length:Int) != (b.length:Int))=false:=by simp[hab]
  have Hab:=lh hab;clear hab;go_enter Tryz.func185,Tryz.ntmps185;go_wp2;go_loopw [13] (fun i wr=>∃ n:Nat,n<=a.length/\i= .int .i64 n/\a.take n=b.take n/\Aa w wr) (fun i _=>a.length - (intOf i).toNat)
  case atStart=>exact⟨0,Nat.zero_le _,rfl,rfl,Aa.rfl' w⟩
  case round =>
   obtain⟨n,hn,rfl,htk,hext⟩:=hrel;have Htk:=lh htk;clear htk;by_cases hlt:n<a.length
   ·have hlt2:n<b.length:=by have:=Hab.out;omega
    obtain⟨ba,oa,x,rfl,hx,hcx⟩:=(h.ext hext).at1 hlt;obtain⟨bb,ob,y,rfl,hy,hcy⟩:=(k.ext hext).at1 hlt2;have Hx:=lh hx;have Hy:=lh hy;clear hx hy;by_cases hxy:x=y
    ·have hb1:(x != y)=false:=by simp[hxy]
     have Hxy:=lh hxy;clear hxy;go_wp2;go_quiet (fail)
     go_wp2;go_roundw
     case rel=>exact⟨n+1,by omega,by go_num,by rw[List.take_add_one,List.take_add_one,Htk.out,Hx.out,Hy.out,Hxy.out],hext.drN _⟩
     case measure=>simp[intOf];omega
    ·have hb1:(x != y)=true:=by simp[hxy]
     have Hxy:=lh hxy;clear hxy;go_wp2;go_quiet (fail)
     go_wp2;go_ret;refine⟨Aj ?_,hext.drN _⟩;symm
     rw[decide_eq_false_iff_not];intro e;have hx:=Hx.out;have hy:=Hy.out;rw[e,hy] at hx;injection hx with hx;exact Hxy.out hx.symm
   ·obtain rfl:n=a.length:=by omega
    go_wp2;go_ret;refine⟨Aj ?_,hext⟩;have htk:=Htk.out;rw[List.take_length,Hab.out,List.take_length] at htk;simp[htk]
 ·have h1:((a.length:Int) != (b.length:Int))=true:=by simp;omega
  have Hab:=lh hab;clear hab;go_enter Tryz.func185,Tryz.ntmps185;go_wp2;go_ret;refine⟨Aj ?_,Aa.rfl' w⟩;symm
  rw[decide_eq_false_iff_not];exact fun e=>Hab.out (by rw[e])
structure V8 (B:Nat) (Av:Option Addr) (cv:Nat) (v:List Int) (F:Nat->Prop) (w:World):Prop where
 b:w.cell? ⟨B,0,none⟩=some (.slice Av v.length cv)
 r:Rd w 1 Av v.length (Ah v)
 e:∀ b,¬ F b
theorem Rd.mod0 {F:Nat->Prop}{w w':World}{size n:Nat}{A:Option Addr}{xs:List Value}(h:Rd w size A n xs)(k:AH F w w')(hF:0<n * size->Mj F A):Rd w' size A n xs :=
 ⟨h.1,h.2.1,fun hn=>let ⟨b,o,ha,hc⟩:=h.2.2 hn;⟨b,o,ha,fun j u hu=>k.cellE (hc j u hu) (hF hn b (by rw[ha];rfl))⟩⟩
theorem SL (B:Nat)(Av:Option Addr)(cv:Nat)(v:List Int)(L:Nat)(hB:B<L)(hA:0<v.length->∀ b,AD Av=some b->b<L)(hv:Sg.Bk v) :
  TP Tryz.prog 184 [.pointer (some ⟨B,0,none⟩)] Unit (fun _=>V8 B Av cv v) (fun _ n=>Sg.rd v n) (fun _ _=>()) (fun n=>0<=n/\n<v.length/\n<=9) L where
 ent:=GC Tryz.func184 rfl (by kernel_rfl)
 call:=fun s F w n h hn=>by
  obtain⟨hb,hr,he⟩:=h;obtain⟨hn0,hn1,hn2⟩:=hn;obtain⟨k,rfl⟩:∃ k:Nat,n=k:=⟨n.toNat,by omega⟩;obtain⟨ba,oa,x,rfl,hx,hcx⟩:=hr.at1 (show k<v.length by omega);have Hx:=lh hx;have HI:=lh (And.intro hb (And.intro hr he));have hr0:=hr.big;clear hx hr he;go_enter Tryz.func184,Tryz.ntmps184;go_wp2;go_ret;refine⟨by simp[Sg.rd,Hx.out],F,⟨HI.out.1,HI.out.2.1,HI.out.2.2⟩,AH.rfl' _ _,fun b hb=>.inl hb⟩
 old:=fun s F w b h hb=>absurd hb (h.e b)
 md:=fun s F G w w' h hm h1 h2=>⟨hm.cellE h.b (h2 _ hB),h.r.mod0 hm (fun h0 b hb=>h2 b (hA (by omega) b hb)),h.e⟩
 ran:=fun s F w n h hn=>by
  have:n.toNat<v.length:=by omega
  have hm:=hv (v[n.toNat]) (List.getElem_mem this);simp only[Sg.rd,List.getD_eq_getElem?_getD,List.getElem?_eq_getElem this,Option.getD_some];exact hm
theorem QY {f:List Sg.At}{k:Nat}(h:Sg.RZ f k)(L:Nat)(hk:k<=L):Sg.WO f (fun n=>0<=n/\n<(L:Int)/\n<=9):=by
 refine⟨h.good,h.len,h.one,fun p hp hk1=>?_⟩;obtain⟨i,hi⟩:=List.getElem?_of_mem hp;have h1:=h.good i p hi;have h2:=h.reads p hp hk1;simp[Sg.A_,Sg.C8,Sg.BZ,hk1] at h1
 omega
set_option maxHeartbeats 1000000 in
theorem RD (A Av Al:Option Addr)(c cv cl:Nat)(g:Sg.Ae)(v l:List Int)(k:Nat)(n:Sg.BQ)(x:Int)(w:World)(h:Eg w A g)(hv:Rd w 1 Av v.length (Ah v))(hl:Rd w 1 Al l.length (Ah l))(hn:g[k]? = some n)(hx:v[k]? = some x)(hok:Sg.RZ n.f k)(hin:Sg.Bk v) :
  Calls Tryz.prog 164 #[.agg #[.slice A g.length c],.int .i64 k,.slice Av v.length cv,.slice Al l.length cl] w fun e w' =>
   e= .returned (.bool (decide ((Sg.AK n.f v).1=x) && decide ((Sg.AK n.f v).2=l)))/\Aa w w':=by
 have hkg:k<g.length:=(List.getElem?_eq_some_iff.1 hn).1;have hkv:k<v.length:=(List.getElem?_eq_some_iff.1 hx).1;have hgl:=h.1;have hvl:=hv.big;obtain⟨⟨nk,nf⟩,b,o,Ap,cp,hn',rfl,hkc,hs,hf,hfl⟩:=h.at_ hkg;rw[hn] at hn';injection hn' with hn';subst hn';obtain⟨bv,ov,x',rfl,hx',hxc⟩:=hv.at1 hkv;rw[hx] at hx';injection hx' with hx';subst hx';dsimp only at *;have e0:=((Aa.rfl' w).al (.cells #[.slice (some ⟨b,o,none⟩) g.length c] 35)).al (.cells #[.slice (some ⟨bv,ov,none⟩) v.length cv] 36);have hbv:=Au hxc;have C:=SL (w.heap.size+1) (some ⟨bv,ov,none⟩) cv v (w.heap.size+1+1) (by omega) (fun _ b hb=>by simp[AD] at hb;omega) hin
 have HR:=RC C (fun n hn=>⟨hn.1,hn.2.2⟩) Ap cp nf (QY hok v.length (by omega)) () (fun _=>False)
  ((w.alloc (.cells #[.slice (some ⟨b,o,none⟩) g.length c] 35)).alloc (.cells #[.slice (some ⟨bv,ov,none⟩) v.length cv] 36)) (by simp)
  ⟨by simp[go_sem],hv.ext e0,fun _ h=>h⟩ (hf.ext e0) (fun _ _ h=>h)
 rw[Sg.Kk] at HR;dsimp only at HR
 have HR:Calls Tryz.prog 87 #[.agg #[.slice Ap nf.length cp],.func (.func 184) #[] #[.pointer (some ⟨w.heap.size+1,0,none⟩)]]
  ((w.alloc (.cells #[.slice (some ⟨b,o,none⟩) g.length c] 35)).alloc (.cells #[.slice (some ⟨bv,ov,none⟩) v.length cv] 36)) fun e w' =>
   ∃ A',e= .returned (.tuple #[.int .i64 (Sg.AK nf v).1,.slice A' (Sg.AK nf v).2.length (Sg.AK nf v).2.length])/\Rd w' 1 A' (Sg.AK nf v).2.length (Ah (Sg.AK nf v).2) /\
    Aa ((w.alloc (.cells #[.slice (some ⟨b,o,none⟩) g.length c] 35)).alloc (.cells #[.slice (some ⟨bv,ov,none⟩) v.length cv] 36)) w':=by
  refine HR.mono ?_;rintro e w1 ⟨A',F',rfl,ho,hi,hm,hF,hfo,hx0,hx1⟩;exact⟨A',rfl,ho.rd,hm.ext fun _=>id⟩
 have HR:=lh HR;have Heq:=lh (fun A c w h=>UX A Al c cl (Sg.AK nf v).2 l w h);have hbs:=Au hs;have H0:=lh e0;have KX:=lh (e0.cellE hxc);have KB0:(((w.alloc (.cells #[.slice (some ⟨b,o,none⟩) g.length c] 35)).alloc (.cells #[.slice (some ⟨bv,ov,none⟩) v.length cv] 36)).cell? ⟨w.heap.size+1,0,none⟩=some (.slice (some ⟨bv,ov,none⟩) v.length cv)):=by simp[go_sem]
 have KB:=lh KB0;clear KB0;have HL:=lh hl;clear hn hx hok hin C e0 hl hv hf h;by_cases hxe:(Sg.AK nf v).1=x
 ·have hb0:((Sg.AK nf v).1 == x)=true:=by simp[hxe]
  have Hxe:=lh hxe;clear hxe;by_cases hle:(Sg.AK nf v).2=l
  ·have hd:decide ((Sg.AK nf v).2=l)=true:=by simp[hle]
   have Hd:=lh hd;clear hd hle;go_enter Tryz.func164,Tryz.ntmps164
   go_wp2_with (first
    | (go_at_call 87;refine HR.out.mono ?_;rintro e w1 ⟨A',rfl,ho,he1⟩;have k1:=he1.cellE KB.out;have k2:=he1.cellE KX.out)
    | (go_at_call 185;refine(Heq.out A' _ w1 ho (HL.out.ext (H0.out.tr he1))).mono ?_;rintro e w2 ⟨rfl,he2⟩;rw[Hd.out]))
   go_ret;exact⟨Aj (by rw[Hd.out];simp[Hxe.out]),(H0.out.tr he1).tr he2⟩
  ·have hd:decide ((Sg.AK nf v).2=l)=false:=by simp[hle]
   have Hd:=lh hd;clear hd hle;go_enter Tryz.func164,Tryz.ntmps164
   go_wp2_with (first
    | (go_at_call 87;refine HR.out.mono ?_;rintro e w1 ⟨A',rfl,ho,he1⟩;have k1:=he1.cellE KB.out;have k2:=he1.cellE KX.out)
    | (go_at_call 185;refine(Heq.out A' _ w1 ho (HL.out.ext (H0.out.tr he1))).mono ?_;rintro e w2 ⟨rfl,he2⟩;rw[Hd.out]))
   go_ret;exact⟨Aj (by rw[Hd.out];simp),(H0.out.tr he1).tr he2⟩
 ·have hb0:((Sg.AK nf v).1 == x)=false:=by simp[hxe]
  have Hxe:=lh hxe;clear hxe;go_enter Tryz.func164,Tryz.ntmps164;go_wp2_with (go_at_call 87;refine HR.out.mono ?_;rintro e w1 ⟨A',rfl,ho,he1⟩;have k1:=he1.cellE KB.out;have k2:=he1.cellE KX.out)
  go_ret;exact⟨Aj (by simp[Hxe.out]),H0.out.tr he1⟩
open Go.RowKit
open Go.RowKit
set_option maxHeartbeats 1000000 in
theorem Va {fid:Nat}{caps:List Value}{inv:World->Prop}{p:Int->Bool}{dom:Int->Prop}(C:VV Tryz.prog fid caps inv p dom)(A:Option Addr)(n c:Nat)(w:World)(hi:inv w)(hd:∀ k:Nat,k<n->dom k)(hn:n<=1048576) :
  Calls Tryz.prog 93 #[.agg #[.slice A n c],.func (.func fid) #[] caps.toArray] w fun e w'=>∃ A',e= .returned (.slice A' (Sg.Ch (fun i=>p i) n).length (Sg.Ch (fun i=>p i) n).length) /\
   AA w' w.heap.size 3 1 A' (Sg.Ch (fun i=>p i) n).length (Sg.Ch (fun i=>p i) n).length (Ah (Sg.Ch (fun i=>p i) n))/\Aa w w':=by
 have hent:=C.ent;have HC:=lh C;have HD:=lh hd;have e0:=(Aa.rfl' w).al (.cells #[.slice A n c] 35);have HI:=lh (C.ext _ _ hi e0);have HE:=lh e0;have hq:∀ k,Sg.Ch (fun i=>p i) (k+1)=if p k=true then Sg.Ch (fun i=>p i) k++[(k:Int)] else Sg.Ch (fun i=>p i) k:=fun k=>Sg.Dr _ k
 have hL:∀ k,(Sg.Ch (fun i=>p i) k).length<=k:=fun k=>Sg.Fn _ k;have h0:Sg.Ch (fun i=>p i) 0=[]:=rfl;generalize Sg.Ch (fun i=>p i)=V at *;have HQ:=lh hq;have HL:=lh hL;have H0:=lh h0;clear C hd hi e0 hq hL h0;go_enter Tryz.func93,Tryz.ntmps93;go_wp2;go_loopw [5,10] (fun v i wr=>∃ (k:Nat) (A':Option Addr) (c':Nat),k<=n/\i= .int .i64 k/\v= .slice A' (V k).length c'/\AA wr (w.heap.size+1) 3 1 A' (V k).length c' (Ah (V k))/\Aa (w.alloc (.cells #[.slice A n c] 35)) wr) (fun _ i _=>n - (intOf i).toNat)
 case atStart=>exact⟨0,none,0,Nat.zero_le _,rfl,by rw[H0.out];rfl,by rw[H0.out];exact AA.nil _ _ _ _,Aa.rfl' _⟩
 case round =>
  obtain⟨k,A',c',hk,rfl,rfl,hown,he⟩:=hrel;have hl:=HL.out k;have He:=lh he;have Ho:=lh hown;have hcm:=And.intro hown.2.1 hown.2.2.1;clear he hown;by_cases hlt:k<n
  ·have hq:=HQ.out k;cases hp:p (k:Int)
   ·rw[hp] at hq;simp only[Bool.false_eq_true,if_false] at hq;have Hq:=lh hq;have Hp:=lh hp;clear hp hq;go_wp2_with fail
    refine(HC.out.call _ (k:Int) (HC.out.ext _ _ HI.out He.out) (HD.out k hlt)).mono ?_;rw[Hp.out];rintro e w1 ⟨rfl,he1⟩;go_wp2;go_roundw
    case rel=>exact⟨k+1,A',c',by omega,by go_num,by rw[Hq.out],by rw[Hq.out];exact Ho.out.ext he1,He.out.tr he1⟩
    case measure=>simp[intOf];omega
   ·rw[hp] at hq;simp only[if_true] at hq;have Hq:=lh hq;have Hp:=lh hp;clear hp hq;go_wp2_with fail
    refine(HC.out.call _ (k:Int) (HC.out.ext _ _ HI.out He.out) (HD.out k hlt)).mono ?_;rw[Hp.out];rintro e w1 ⟨rfl,he1⟩;have Ho1:=lh (Ho.out.ext he1);have s1:=(He.out.tr he1).size;simp only[World.size_alloc] at s1;go_wp2_with (at_builtin;refine AF rfl rfl Bc rfl Ho1.out rfl rfl (B_ _ _) (by omega) (by omega) (by omega) ?_;intro A2 c2 w9 hown2 hg2 hat2)
    go_roundw
    case rel=>exact⟨k+1,A2,c2,by omega,by go_num,by rw[Hq.out];simp,by rw[Hq.out];simpa using hown2,(He.out.tr he1).gr hg2 fun x hx=>(by have:=(Ho1.out.lt hx).1;simpa using this)⟩
    case measure=>simp[intOf];omega
  ·obtain rfl:k=n:=by omega
   go_wp2_with (go_at_call 48;refine(JG _ _ _ _ hcm.1 hcm.2).mono ?_;rintro e w' ⟨rfl,rfl⟩)
   go_ret;exact⟨A',rfl,Ho.out.clip.mono (by omega),HE.out.tr He.out⟩
end Go.Proofs.YthibllkleakiiaaGreatDoor
