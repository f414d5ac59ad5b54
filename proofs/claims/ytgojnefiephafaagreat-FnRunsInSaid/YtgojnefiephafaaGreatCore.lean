/- Parts of one proof, joined. Predicates on memory, and the laws of append, make and stores over them, for any program. Conditions: bounds on lengths. Closed facts on this seat's program: the rows of its element types. Conditions: none. The plain model of formulas, graphs and the eager machine: no program in sight. Conditions: none. The plain model of graphs and states: no program in sight. Conditions: none. The plain model of the meaning of graphs, and of the eager machine's start: no program in sight. Conditions: none. Words and small lemmas for the walks: lists of numbers in memory. Conditions: none. Graphs and lists of lists in memory. Conditions: none. Calls that may turn some blocks of what was there; function values that read. Conditions: none. append of one element, the new block's number given apart. Conditions: none. Slices of elements that hold slices, all of the call's own: laws. Conditions: none. Slices of elements that hold slices, after one element was turned; numbered contents. Conditions: none. append inside a region that draws its order; a list of owned slices with one more. Conditions: bounds on lengths. -/
import Derived.WalkKit
import Derived.Lib.Hide
import Derived.Deep.Draws
import Derived.Maps.AppendAt
import Derived.Test.YtgojnefiephafaaGreatProg
import Derived.KernelRfl
import Derived.Outline
import Derived.Deep.RegionHeld3
namespace Go.Proofs.YtgojnefiephafaaGreat
open Go.RowKit
theorem lh {p:Prop} (h:p):Hid p:=h
abbrev Ext (w w':World):Prop:=Below w.heap.size w w'
theorem Ext.rfl' (w:World):Ext w w:=Below.refl _ _
theorem Ext.tr {a b c:World} (h:Ext a b) (k:Ext b c):Ext a c:=Below.trans h (Below.mono k h.size)
theorem Ext.al {a w:World} (h:Ext a w) (o:Obj):Ext a (w.alloc o):=Below.alloc h h.size o
theorem Ext.dr {a w:World} (h:Ext a w):Ext a w.drew:=Below.drew h
theorem Ext.drN {a w:World} (h:Ext a w) (n:Nat):Ext a (w.drewN n):=⟨h.os,h.tape,h.output,h.size,h.block⟩
theorem Ext.set {a w:World} (h:Ext a w) {p:Addr} (hp:a.heap.size≤p.block) (u:Value):Ext a (w.setCell p u):=Below.setCell h hp u
theorem Ext.gr {a w w':World} {row:Option Nat} (h:Ext a w) (hg:w.grownBy w' row) (hr:∀ k,row=some k→a.heap.size≤k):Ext a w':=Below.grown h hg h.size hr
theorem Ext.cellE {w w':World} (h:Ext w w') {p:Addr} {u:Value} (hc:w.cell? p=some u):w'.cell? p=some u :=
 (Below.cell h (World.block_lt_of_cell? w p hc)).trans hc
theorem add0 (b o j:Nat):(⟨b,o,none⟩:Addr).add j=⟨b,o + j,none⟩:=by unfold Addr.add;split <;> simp_all
def Rd (w:World) (size:Nat) (A:Option Addr) (n:Nat) (xs:List Value):Prop :=
 xs.length=n * size∧n≤maxLen∧(0<n * size→∃ b o,A=some ⟨b,o,none⟩∧∀ j u,xs[j]? = some u→w.cell? ⟨b,o + j,none⟩=some u)
theorem Rd.ext {w w':World} {size n:Nat} {A:Option Addr} {xs:List Value} (h:Rd w size A n xs) (e:Ext w w'):Rd w' size A n xs :=
 ⟨h.1,h.2.1,fun hn=>let ⟨b,o,ha,hc⟩:=h.2.2 hn;⟨b,o,ha,fun j u hu=>Ext.cellE e (hc j u hu)⟩⟩
theorem Rd.nil (w:World) (size:Nat) (A:Option Addr):Rd w size A 0 []:=⟨by simp,by unfold maxLen;omega,fun h=>absurd h (by omega)⟩
def Own (w:World) (B e size:Nat) (A:Option Addr) (n c:Nat) (xs:List Value):Prop :=
 xs.length=n * size∧n≤c∧c≤maxLen ∧
  ((A=none∧c=0)∨∃ g cur,A=some ⟨g,0,none⟩∧B≤g∧w.heap[g]? = some (.cells cur e (0,0))∧c * size≤cur.size∧cur.toList.take (n * size)=xs)
def blk (A:Option Addr):Option Nat:=A.map (·.block)
theorem Own.lt {w:World} {B e size:Nat} {A:Option Addr} {n c:Nat} {xs:List Value} (h:Own w B e size A n c xs) {g:Nat} (hg:blk A=some g):B≤g∧g<w.heap.size:=by
 rcases h.2.2.2 with ⟨rfl,_⟩ | ⟨g',cur,rfl,hb,hh,_⟩
 ·simp [blk] at hg
 ·simp [blk] at hg
  subst hg
  exact ⟨hb,(Array.getElem?_eq_some_iff.1 hh).1⟩
theorem Own.nil (w:World) (B e size:Nat):Own w B e size none 0 0 []:=⟨by simp,by omega,by unfold maxLen;omega,.inl ⟨rfl,rfl⟩⟩
theorem Own.new (w:World) {B:Nat} (e size:Nat) (cs:Array Value) (n:Nat) (hB:B≤w.heap.size) (hn:n≤maxLen) (hs:cs.size=n * size) :
  Own (w.alloc (.cells cs e)) B e size (some ⟨w.heap.size,0,none⟩) n n cs.toList :=
 ⟨by simpa using hs,Nat.le_refl _,hn,.inr ⟨w.heap.size,cs,rfl,hB,heap_alloc_new w _,by omega,by rw [← hs,← Array.length_toList];exact List.take_length⟩⟩
theorem Own.mono {w:World} {B B' e size:Nat} {A:Option Addr} {n c:Nat} {xs:List Value} (h:Own w B e size A n c xs) (hB:B'≤B):Own w B' e size A n c xs:=by
 refine ⟨h.1,h.2.1,h.2.2.1,?_⟩
 rcases h.2.2.2 with h2 | ⟨g,cur,ha,hb,r⟩
 ·exact .inl h2
 ·exact .inr ⟨g,cur,ha,by omega,r⟩
theorem Own.keep {w w':World} {B e size:Nat} {A:Option Addr} {n c:Nat} {xs:List Value} (h:Own w B e size A n c xs) (hk:∀ g,blk A=some g→w'.heap[g]? = w.heap[g]?):Own w' B e size A n c xs:=by
 refine ⟨h.1,h.2.1,h.2.2.1,?_⟩
 rcases h.2.2.2 with h2 | ⟨g,cur,rfl,hb,hh,r⟩
 ·exact .inl h2
 ·exact .inr ⟨g,cur,rfl,hb,(hk g rfl).trans hh,r⟩
theorem Own.ext {w w':World} {B e size:Nat} {A:Option Addr} {n c:Nat} {xs:List Value} (h:Own w B e size A n c xs) (k:Ext w w'):Own w' B e size A n c xs :=
 h.keep fun g hg=>k.block g (h.lt hg).2
theorem Own.al {w:World} {B e size:Nat} {A:Option Addr} {n c:Nat} {xs:List Value} (h:Own w B e size A n c xs) (o:Obj):Own (w.alloc o) B e size A n c xs:=h.ext ((Ext.rfl' w).al o)
theorem Own.dr {w:World} {B e size:Nat} {A:Option Addr} {n c:Nat} {xs:List Value} (h:Own w B e size A n c xs):Own w.drew B e size A n c xs:=h.ext (Ext.rfl' w).dr
theorem Own.set {w:World} {B e size:Nat} {A:Option Addr} {n c:Nat} {xs:List Value} (h:Own w B e size A n c xs) {p:Addr} (hp:blk A≠some p.block) (u:Value):Own (w.setCell p u) B e size A n c xs :=
 h.keep fun g hg=>Below.heap_setCell w p u g (fun e=>hp (by rw [hg,e]))
theorem Own.gr {w w':World} {B e size:Nat} {A:Option Addr} {n c:Nat} {xs:List Value} (h:Own w B e size A n c xs) {row:Option Nat} (hg:w.grownBy w' row) (hne:blk A=none∨blk A≠row):Own w' B e size A n c xs :=
 h.keep fun g hb=>hg.block g (h.lt hb).2 (fun e=>hne.elim (fun h=>by simp [h] at hb) (fun h=>h (hb.trans e)))
theorem Own.rd {w:World} {B e size:Nat} {A:Option Addr} {n c:Nat} {xs:List Value} (h:Own w B e size A n c xs):Rd w size A n xs:=by
 refine ⟨h.1,Nat.le_trans h.2.1 h.2.2.1,fun hn=>?_⟩
 rcases h.2.2.2 with ⟨_,hc⟩ | ⟨g,cur,rfl,_,hh,_,ht⟩
 ·have:=h.2.1
  subst hc
  have:n=0:=by omega
  subst this
  simp at hn
 ·refine ⟨_,_,rfl,fun j u hu=>?_⟩
  rw [Nat.zero_add,cell_of_row w g j cur e (0,0) hh]
  rw [← ht,List.getElem?_take] at hu
  split at hu
  ·simpa using hu
  ·cases hu
theorem Own.at_ {w:World} {B e size:Nat} {A:Option Addr} {n c:Nat} {xs:List Value} (h:Own w B e size A n c xs) (hn:0<n * size):∃ g,A=some ⟨g,0,none⟩∧B≤g:=by
 rcases h.2.2.2 with ⟨_,hc⟩ | ⟨g,cur,rfl,hb,_⟩
 ·have:=h.2.1
  subst hc
  have:n=0:=by omega
  subst this
  simp at hn
 ·exact ⟨g,rfl,hb⟩
theorem Own.cell {w:World} {B e size g n c:Nat} {xs:List Value} (h:Own w B e size (some ⟨g,0,none⟩) n c xs) {j:Nat} {u:Value} (hu:xs[j]? = some u):w.cell? ⟨g,j,none⟩=some u:=by
 rcases h.2.2.2 with ⟨h,_⟩ | ⟨g',cur,ha,_,hh,_,ht⟩
 ·cases h
 ·simp only [Option.some.injEq,Addr.mk.injEq,and_true] at ha
  subst ha
  rw [cell_of_row w g j cur e (0,0) hh]
  rw [← ht,List.getElem?_take] at hu
  split at hu
  ·simpa using hu
  ·cases hu
theorem Own.free {w:World} {B e size g n c:Nat} {xs:List Value} (h:Own w B e size (some ⟨g,0,none⟩) n c xs) (j:Nat):w.frozen? ⟨g,j,none⟩=false:=by
 rcases h.2.2.2 with ⟨h,_⟩ | ⟨g',cur,ha,_,hh,_,ht⟩
 ·cases h
 ·simp only [Option.some.injEq,Addr.mk.injEq,and_true] at ha
  subst ha
  simp [World.frozen?,hh]
theorem Own.st {w:World} {B e size g n c:Nat} {xs:List Value} (h:Own w B e size (some ⟨g,0,none⟩) n c xs) (j:Nat) (u:Value):Own (w.setCell ⟨g,j,none⟩ u) B e size (some ⟨g,0,none⟩) n c (xs.set j u):=by
 refine ⟨by simpa using h.1,h.2.1,h.2.2.1,?_⟩
 rcases h.2.2.2 with ⟨h,_⟩ | ⟨g',cur,ha,hb,hh,hc,ht⟩
 ·cases h
 ·simp only [Option.some.injEq,Addr.mk.injEq,and_true] at ha
  subst ha
  refine .inr ⟨g,cur.setIfInBounds j u,rfl,hb,by simp [World.setCell,Array.getElem?_modify,hh],by simpa using hc,?_⟩
  rw [← ht]
  simp [List.take_set]
structure EI (P:Program) (t e size bytes:Nat) (z:Value):Prop where
 ht:P.underlying t=some (.slice e)
 hi:(P.info? e).map (fun i=>(i.zero,i.size,i.bytes))=some (some z,size,bytes)
 hz:z.cells.size=size
 h0:0<size
section
variable {P:Program}
theorem run_app (w:World) {t e size bytes ty:Nat} {z:Value} (E:EI P t e size bytes z) {B:Nat} {A:Option Addr} {n c:Nat} {xs:List Value} (hown:Own w B e size A n c xs)
  {ad:Addr} {m c':Nat} {news:List Value} (hl:news.length=m * size) (hnews:∀ j u,news[j]? = some u→w.cell? (ad.add j)=some u) (h1:∀ u ∈ news,u.oneCell'=true)
  (h63:n + m≤maxLen) (hbytes:(n + m) * bytes≤140737488355328) (hbase:B≤w.heap.size) :
  ∃ A' c'' w',(Builtin.append_ #[t,t] ty #[.slice A n c,.slice (some ad) m c']).run P w = .ok (.slice A' (n + m) c'') w'∧Own w' B e size A' (n + m) c'' (xs++news)∧w.grownBy w' (blk A) ∧
   (blk A'=blk A∨blk A'=some w.heap.size):=by
 obtain ⟨i,hi,hz,hsize,hby⟩:=info_parts E.hi
 have ht:=E.ht
 have hzs:=E.hz
 subst hsize
 subst hby
 have hsmall:n + m≤9223372036854775807:=by simp only [maxLen] at h63;omega
 have hlen:(xs++news).length=(n + m) * i.size:=by rw [List.length_append,hown.1,hl,Nat.add_mul]
 have grown:∀ (old:Nat),old<n + m→∀ (row:Option Nat),
   Own (w.drew.alloc (.cells (xs.toArray++news.toArray++Builtin.zeroCells z.cells (grownCap w (n + m) old e - (n + m))) e)) B e i.size
    (some ⟨w.heap.size,0,none⟩) (n + m) (grownCap w (n + m) old e) (xs++news) ∧
   w.grownBy (w.drew.alloc (.cells (xs.toArray++news.toArray++Builtin.zeroCells z.cells (grownCap w (n + m) old e - (n + m))) e)) row:=by
  intro old ho row
  have hge:=grownCap_ge w (n + m) old e
  have hcm:grownCap w (n + m) old e≤maxLen:=grownCap_le_maxLen w (n + m) old e h63
  refine ⟨⟨hlen,hge,hcm,.inr ⟨w.heap.size,_,rfl,hbase,heap_alloc_new w.drew _,?_,?_⟩⟩,⟨rfl,rfl,rfl,by simp,fun k hk _=>heap_alloc_old w.drew _ hk⟩⟩
  ·simp only [Array.size_append,List.size_toArray,size_zeroCells,hzs,hown.1,hl,← Nat.add_mul]
   rw [show n + m + (grownCap w (n + m) old e - (n + m))=grownCap w (n + m) old e from by omega]
   exact Nat.le_refl _
  ·simp only [Array.toList_append,List.append_assoc]
   rw [← List.append_assoc,← hlen]
   exact List.take_left
 have hown':=hown
 obtain ⟨hxl,hnc,hcm,hcase⟩:=hown
 rcases hcase with ⟨rfl,rfl⟩ | ⟨g,cur,rfl,hbg,hg,hcs,htake⟩
 ·obtain rfl:n=0:=by omega
  have hx:xs=[]:=List.eq_nil_of_length_eq_zero (by simpa using hxl)
  subst hx
  by_cases hm:m=0
  ·subst hm
   have hn:news=[]:=List.eq_nil_of_length_eq_zero (by simpa using hl)
   subst hn
   refine ⟨none,0,w,?_,by simpa using Own.nil w B e i.size,⟨rfl,rfl,rfl,Nat.le_refl _,fun _ _ _=>rfl⟩,Or.inl rfl⟩
   simp [Builtin.append_,run_underlying ht,sizeOf,typeInfo,hi,Builtin.lenOf,Builtin.firstCells,loadCells,loadCellsFrom]
  ·have hr:=run_append_nil (P:=P) w t ty e i z ht hi hz ad m c' news hl hnews (by omega) (by omega) (by have hb:=hbytes;simp only [Nat.zero_add] at hb;omega)
   have hgr:=grown 0 (by omega) (blk none)
   simp only [Nat.zero_add,List.nil_append,Array.empty_append] at hgr ⊢
   exact ⟨_,_,_,hr,hgr.1,hgr.2,Or.inr rfl⟩
 ·by_cases hroom:n + m≤c
  ·have hfit:n * i.size + news.length≤cur.size:=by rw [hl,← Nat.add_mul];exact Nat.le_trans (Nat.mul_le_mul_right _ hroom) hcs
   have hr:=run_append_room (P:=P) w t ty e i ht hi g n c cur hg ad m c' news hl hnews h1 hroom hfit
   refine ⟨_,_,_,hr,⟨hlen,hroom,hcm,.inr ⟨g,_,rfl,hbg,setRow_heap w g cur _ e _ hg,?_,?_⟩⟩,⟨rfl,rfl,rfl,by simp,fun k _ hk=>setRow_other w g k _ (fun e=>hk (by simp [blk,e]))⟩,Or.inl rfl⟩
   ·simp only [List.size_toArray,List.length_append,List.length_take,List.length_drop,Array.length_toList]
    omega
   ·rw [htake,← hlen]
    exact List.take_left
  ·have holds:∀ j u,xs[j]? = some u→w.cell? ((⟨g,0,none⟩:Addr).add j)=some u:=by
    intro j u hu
    rw [add0,Nat.zero_add,cell_of_row w g j cur e (0,0) hg]
    rw [← htake,List.getElem?_take] at hu
    split at hu
    ·simpa using hu
    ·cases hu
   have hr:=run_append_grow (P:=P) w t ty e i z ht hi hz ⟨g,0,none⟩ n c xs hxl holds ad m c' news hl hnews (by omega) (by omega) (growslice_fits (by omega) hbytes)
   have hgr:=grown c (by omega) (blk (some ⟨g,0,none⟩))
   exact ⟨_,_,_,hr,hgr.1,hgr.2,Or.inr rfl⟩
theorem run_app_none (w:World) {t e size bytes ty:Nat} {z:Value} (E:EI P t e size bytes z) {B:Nat} {A:Option Addr} {n c:Nat} {xs:List Value} (hown:Own w B e size A n c xs) (c':Nat) :
  (Builtin.append_ #[t,t] ty #[.slice A n c,.slice none 0 c']).run P w = .ok (.slice A n c) w:=by
 obtain ⟨i,hi,hz,hsize,hby⟩:=info_parts E.hi
 have ht:=E.ht
 obtain ⟨hxl,hnc,hcm,hcase⟩:=hown
 rcases hcase with ⟨rfl,rfl⟩ | ⟨g,cur,rfl,hbg,hg,hcs,htake⟩
 ·obtain rfl:n=0:=by omega
  simp [Builtin.append_,run_underlying ht,sizeOf,typeInfo,hi,Builtin.lenOf,Builtin.firstCells]
 ·simp [Builtin.append_,run_underlying ht,sizeOf,typeInfo,hi,Builtin.lenOf,Builtin.firstCells,hnc,storeCells]
theorem run_appR (w:World) {t e size bytes ty:Nat} {z:Value} (E:EI P t e size bytes z) {B:Nat} {A:Option Addr} {n c:Nat} {xs:List Value} (hown:Own w B e size A n c xs)
  {A2:Option Addr} {m c':Nat} {news:List Value} (hr:Rd w size A2 m news) (h1:∀ u ∈ news,u.oneCell'=true)
  (h63:n + m≤maxLen) (hbytes:(n + m) * bytes≤140737488355328) (hbase:B≤w.heap.size) :
  ∃ A' c'' w',(Builtin.append_ #[t,t] ty #[.slice A n c,.slice A2 m c']).run P w = .ok (.slice A' (n + m) c'') w'∧Own w' B e size A' (n + m) c'' (xs++news)∧w.grownBy w' (blk A) ∧
   (blk A'=blk A∨blk A'=some w.heap.size):=by
 have h0:=E.h0
 rcases A2 with _ | ad
 ·have hm:m=0:=by
   rcases Nat.eq_zero_or_pos m with h | h
   ·exact h
   ·obtain ⟨b,o,h,_⟩:=hr.2.2 (Nat.mul_pos h h0)
    cases h
  subst hm
  have hn:news=[]:=List.eq_nil_of_length_eq_zero (by simpa using hr.1)
  subst hn
  exact ⟨A,c,w,run_app_none w E hown c',by simpa using hown,⟨rfl,rfl,rfl,Nat.le_refl _,fun _ _ _=>rfl⟩,.inl rfl⟩
 ·refine run_app w E hown hr.1 (fun j u hu=>?_) h1 h63 hbytes hbase
  obtain ⟨b,o,h,hc⟩:=hr.2.2 (by rw [← hr.1];exact Nat.lt_of_le_of_lt (Nat.zero_le _) (List.getElem?_eq_some_iff.1 hu).1)
  injection h with h
  subst h
  rw [add0]
  exact hc j u hu
theorem wpList_appR {ops:Array Oper} {rest:List Oper} {o:Oper} {a:Act} {Q:Exit→Act→World→Prop} {w:World} (hgd:o.guard=none) {s x:Operand} {t:TypeId}
  (ho:o.op = .call { callee := .builtin .append,args:=#[s,x],argTypes:=#[t,t] })
  {e size bytes:Nat} {z:Value} (E:EI P t e size bytes z) {B:Nat} {A:Option Addr} {n c:Nat} {xs:List Value} (hs:a.eval s = .slice A n c) (hown:Own w B e size A n c xs)
  {A2:Option Addr} {m c':Nat} {news:List Value} (hx:a.eval x = .slice A2 m c') (hr:Rd w size A2 m news) (h1:∀ u ∈ news,u.oneCell'=true)
  (h63:n + m≤maxLen) (hbytes:(n + m) * bytes≤140737488355328) (hbase:B≤w.heap.size)
  (h:∀ A' c'' w',Own w' B e size A' (n + m) c'' (xs++news)→w.grownBy w' (blk A)→(blk A'=blk A∨blk A'=some w.heap.size)→wpList P ops Q rest (a.put o.dst (.slice A' (n + m) c'')) w'):wpList P ops Q (o :: rest) a w :=
 wpList_plain hgd fun K hK=>by
  obtain ⟨A',c'',w',hrun,h2,h3,h4⟩:=run_appR (P:=P) w (ty:=o.type) E hown (c':=c') hr h1 h63 hbytes hbase
  unfold Oper.wp execOp
  simp only [ho,resolve,invoke,builtin,Sem.run_bind,Sem.run_pure,Result.andThen_ok,List.map_toArray,List.map_cons,List.map_nil,hs,hx,hrun]
  exact hK _ _ (h A' c'' w' h2 h3 h4)
theorem wpList_app1 {ops:Array Oper} {rest:List Oper} {o:Oper} {a:Act} {Q:Exit→Act→World→Prop} {w:World} (hgd:o.guard=none) {s x:Operand} {t:TypeId}
  (ho:o.op = .call { callee := .builtin .append,args:=#[s,x],argTypes:=#[t,t] })
  {e size bytes:Nat} {z:Value} (E:EI P t e size bytes z) {B:Nat} {A:Option Addr} {n c:Nat} {xs:List Value} (hs:a.eval s = .slice A n c) (hown:Own w B e size A n c xs)
  {cs:List Value} (hx:a.eval x = .slice (some ⟨w.heap.size,0,none⟩) 1 1) (hl:cs.length=size) (h1:∀ u ∈ cs,u.oneCell'=true)
  (h63:n + 1≤1099511627776) (hbytes:bytes≤64) (hbase:B≤w.heap.size)
  (h:∀ A' c'' w',Own w' B e size A' (n + 1) c'' (xs++cs)→w.grownBy w' (blk A)→(blk A'=blk A∨∃ g,blk A'=some g∧w.heap.size≤g)→wpList P ops Q rest (a.put o.dst (.slice A' (n + 1) c'')) w') :
  wpList P ops Q (o :: rest) a (w.alloc (.cells cs.toArray e)):=by
 have hrd:Rd (w.alloc (.cells cs.toArray e)) size (some ⟨w.heap.size,0,none⟩) 1 cs:=by
  have:=(Own.new w (B:=B) e size cs.toArray 1 hbase (by unfold maxLen;omega) (by simpa using hl)).rd
  simpa using this
 refine wpList_appR hgd ho E hs (hown.al _) hx hrd h1 (by unfold maxLen;omega) ?_ (by simp;omega) ?_
 ·refine Nat.le_trans (Nat.mul_le_mul h63 hbytes) (by omega)
 ·intro A' c'' w' h2 h3 h4
  refine h A' c'' w' h2 ?_ ?_
  ·refine ⟨h3.os,h3.tape,h3.output,Nat.le_trans (by simp) h3.size,fun k hk hne=>?_⟩
   exact (h3.block k (by simp;omega) hne).trans (heap_alloc_old w _ hk)
  ·rcases h4 with h4 | h4
   ·exact .inl h4
   ·exact .inr ⟨_,h4,by simp⟩
theorem wpList_mk {ops:Array Oper} {rest:List Oper} {o:Oper} {a:Act} {Q:Exit→Act→World→Prop} {w:World} (hgd:o.guard=none) {l c:Operand} {t:TypeId}
  (ho:o.op=Op.makeSlice t l c) {e size bytes:Nat} {z:Value} (E:EI P t e size bytes z) {B:Nat} {n:Nat} (hl:a.eval l = .int .i64 (n:Int)) (hc:a.eval c = .int .i64 (n:Int))
  (hb:n≤1099511627776) (hbytes:bytes≤64) (hbase:B≤w.heap.size)
  (h:∀ w',Own w' B e size (some ⟨w.heap.size,0,none⟩) n n (madeCells z.cells (n * size)).toList→Ext w w'→wpList P ops Q rest (a.put o.dst (.slice (some ⟨w.heap.size,0,none⟩) n n)) w'):wpList P ops Q (o :: rest) a w:=by
 obtain ⟨i,hi,hz,hsize,hby⟩:=info_parts E.hi
 subst hsize
 refine wpList_make_full w hgd l c t ho B e i z i.size E.ht hi hz rfl .i64 .i64 n n n hl hc rfl rfl ?_ (by unfold maxLen;omega) hbase ?_
 ·refine Nat.le_trans (Nat.mul_le_mul (by rw [hby];exact hbytes) hb) (by omega)
 ·intro w' hown hg
  refine h w' ?_ ((Ext.rfl' w).gr hg (by simp))
  obtain ⟨h1,h2⟩:=hown
  rcases h2 with ⟨h2,_⟩ | ⟨g,cap,cur,hv,hbg,hh,hnc,hcm,hcs,ht⟩
  ·cases h2
  ·simp only [Value.slice.injEq,Option.some.injEq,Addr.mk.injEq,and_true,true_and] at hv
   obtain ⟨rfl,rfl⟩:=hv
   exact ⟨h1,Nat.le_refl _,hcm,.inr ⟨_,cur,rfl,hbg,hh,by omega,ht⟩⟩
theorem made_one (z:Value) (n:Nat) (h:z.cells=#[z]):(madeCells z.cells (n * 1)).toList=List.replicate n z:=by
 rw [h,Nat.mul_one,toList_madeCells_one]
end
end Go.Proofs.YtgojnefiephafaaGreat
namespace Go.Proofs.YtgojnefiephafaaGreat
open Go.RowKit
theorem eiInt:EI Tryz.prog 25 3 1 8 (.int .i64 0):=⟨Tryz.underlying25,by kernel_rfl,rfl,by decide⟩
theorem eiBool:EI Tryz.prog 82 4 1 1 (.bool false):=⟨Tryz.underlying82,by kernel_rfl,rfl,by decide⟩
theorem eiInts:EI Tryz.prog 92 25 1 24 (.slice none 0 0):=⟨Tryz.underlying92,by kernel_rfl,rfl,by decide⟩
theorem eiPart:EI Tryz.prog 61 157 5 40 (.agg #[.int .i64 0,.int .i64 0,.int .i64 0,.int .i64 0,.int .i64 0]):=⟨Tryz.underlying61,by kernel_rfl,rfl,by decide⟩
theorem eiNode:EI Tryz.prog 31 65 2 32 (.agg #[.int .i64 0,.slice none 0 0]):=⟨Tryz.underlying31,by kernel_rfl,rfl,by decide⟩
end Go.Proofs.YtgojnefiephafaaGreat
namespace Sg
structure Part where
 kind:Int
 a:Int
 b:Int
 c:Int
 n:Int
deriving DecidableEq,Inhabited
structure Node where
 kind:Int
 f:List Part
deriving DecidableEq,Inhabited
abbrev Graph:=List Node
def inR (n lo hi:Int):Bool:=decide (lo≤n) && decide (n≤hi)
def below (p:Part):List Int :=
 if p.kind=8 then [p.a,p.b,p.c] else if 2≤p.kind∧p.kind≤7 then [p.a,p.b] else []
def alone (p:Part):Bool :=
 if p.kind=0 then inR p.n 0 99 && p.a == -1 && p.b == -1 && p.c == -1
 else if p.kind=1 then inR p.n 0 9 && p.a == -1 && p.b == -1 && p.c == -1
 else if p.kind=8 then p.n == 0
 else if 2≤p.kind∧p.kind≤7 then p.n == 0 && p.c == -1
 else false
def goodPart (p:Part) (i:Nat):Bool:=alone p && (below p).all fun k=>inR k 0 ((i:Int) - 1)
def goodFrom:Nat→List Part→Bool
 | _,[]=>true
 | i,p :: ps=>goodPart p i && goodFrom (i + 1) ps
def belows (f:List Part):List Int:=f.flatMap below
def usesOk (f:List Part):Bool:=(List.range (f.length - 1)).all fun i=>(belows f).count (i:Int) == 1
def validF (f:List Part):Bool:=inR f.length 1 12 && goodFrom 0 f && usesOk f
def joined (k x y:Int):Int :=
 if k=2 then (x + y) % 1000
 else if k=3 then (x - y + 1000) % 1000
 else if k=4 then x * y % 1000
 else if k=5 then min x y
 else if k=6 then max x y
 else if x<y then 1 else 0
def rd (vals:List Int) (n:Int):Int:=vals.getD n.toNat 0
def reck (f:List Part) (vals:List Int):Nat→Int→Int × List Int
 | 0,_=>(0,[])
 | k + 1,i =>
  let p:=f.getD i.toNat default
  if p.kind=0 then (p.n,[])
  else if p.kind=1 then (rd vals p.n,[p.n])
  else
   let x:=reck f vals k p.a
   if p.kind=8 then
    let y:=reck f vals k (if x.1=0 then p.c else p.b)
    (y.1,x.2++y.2)
   else
    let y:=reck f vals k p.b
    (joined p.kind x.1 y.1,x.2++y.2)
def once (out:List Int) (x:Int):List Int:=if x ∈ out then out else out++[x]
def firstOnly (l:List Int):List Int:=l.foldl once []
def runF (f:List Part) (vals:List Int):Int × List Int :=
 let r:=reck f vals f.length ((f.length:Int) - 1)
 (r.1,firstOnly r.2)
def hasRead (f:List Part) (n:Int):Bool:=f.any fun p=>p.kind == 1 && p.n == n
def mayRead (f:List Part):List Int:=((List.range 10).map Int.ofNat).filter (hasRead f)
def inc (U:List Int) (x:Int):List Int:=U.set x.toNat (U.getD x.toNat 0 + 1)
def cnt (n:Nat) (l:List Int):List Int:=l.foldl inc (List.replicate n 0)
theorem length_inc (U:List Int) (x:Int):(inc U x).length=U.length:=by simp [inc]
theorem length_foldl_inc (l U:List Int):(l.foldl inc U).length=U.length:=by
 induction l generalizing U with
 | nil=>rfl
 | cons x l ih=>simp [ih,length_inc]
theorem length_cnt (n:Nat) (l:List Int):(cnt n l).length=n:=by simp [cnt,length_foldl_inc]
theorem cnt_snoc (n:Nat) (l:List Int) (x:Int):cnt n (l++[x])=inc (cnt n l) x:=by simp [cnt]
theorem foldl_inc_at (l U:List Int) (i:Nat) (h:∀ x ∈ l,0≤x) (hi:i<U.length):(l.foldl inc U).getD i 0=U.getD i 0 + (l.count (i:Int):Int):=by
 induction l generalizing U with
 | nil=>simp
 | cons x l ih =>
  have hx:=h x (by simp)
  rw [List.foldl_cons,ih _ (fun y hy=>h y (by simp [hy])) (by rw [length_inc];exact hi)]
  unfold inc
  by_cases e:x=(i:Int)
  ·subst e
   simp [hi];omega
  ·have:x.toNat≠i:=by omega
   have e':¬ (x == (i:Int))=true:=by simpa using e
   rw [List.count_cons,if_neg e']
   simp [List.getElem?_set_ne this]
theorem cnt_at (n:Nat) (l:List Int) (i:Nat) (h:∀ x ∈ l,0≤x) (hi:i<n):(cnt n l).getD i 0=(l.count (i:Int):Int):=by
 unfold cnt;rw [foldl_inc_at l _ i h (by simpa using hi)];simp [hi]
theorem cnt_le (n:Nat) (l:List Int) (i:Nat) (h:∀ x ∈ l,0≤x) (hi:i<n):0≤(cnt n l).getD i 0∧(cnt n l).getD i 0≤l.length:=by
 rw [cnt_at n l i h hi];exact ⟨by omega,by have:=List.count_le_length (a:=(i:Int)) (l:=l);omega⟩
theorem goodPart_below {p:Part} {i:Nat} (h:goodPart p i=true):∀ x ∈ below p,0≤x∧x<i:=by
 intro x hx
 unfold goodPart at h
 simp only [Bool.and_eq_true,List.all_eq_true] at h
 have:=h.2 x hx
 simp [inR] at this
 omega
theorem goodFrom_take (f:List Part) (k j:Nat) (h:goodFrom j (f.take k)=true):∀ x ∈ belows (f.take k),0≤x:=by
 induction f generalizing k j with
 | nil=>simp [belows]
 | cons p f ih =>
  cases k with
  | zero=>simp [belows]
  | succ k =>
   simp only [List.take_succ_cons,goodFrom,Bool.and_eq_true] at h
   intro x hx
   simp only [belows,List.take_succ_cons,List.flatMap_cons,List.mem_append] at hx
   rcases hx with hx | hx
   ·exact (goodPart_below h.1 x hx).1
   ·exact ih k (j + 1) h.2 x hx
theorem goodFrom_snoc (f:List Part) (p:Part) (j:Nat):goodFrom j (f++[p])=(goodFrom j f && goodPart p (j + f.length)):=by
 induction f generalizing j with
 | nil=>simp [goodFrom]
 | cons q f ih =>
  simp only [List.cons_append,goodFrom,ih,Bool.and_assoc,List.length_cons]
  rw [show j + 1 + f.length=j + (f.length + 1) from by omega]
theorem below_len (p:Part):(below p).length≤3:=by
 unfold below
 by_cases h:p.kind=8
 ·rw [if_pos h];simp
 ·rw [if_neg h];split <;> simp
theorem belows_len (f:List Part):(belows f).length≤3 * f.length:=by
 induction f with
 | nil=>simp [belows]
 | cons p f ih=>have:=below_len p;simp [belows] at ih ⊢;omega
theorem usesOk_of (f:List Part) (h0:∀ x ∈ belows f,0≤x) (h:∀ i,i + 1<f.length→(cnt f.length (belows f)).getD i 0=1):usesOk f=true:=by
 unfold usesOk
 rw [List.all_eq_true]
 intro i hi
 rw [List.mem_range] at hi
 have:=h i (by omega)
 rw [cnt_at _ _ _ h0 (by omega)] at this
 simp;omega
theorem usesOk_not (f:List Part) (h0:∀ x ∈ belows f,0≤x) (i:Nat) (hi:i + 1<f.length) (h:¬ (cnt f.length (belows f)).getD i 0=1):usesOk f=false:=by
 rw [← Bool.not_eq_true]
 intro hu
 unfold usesOk at hu
 rw [List.all_eq_true] at hu
 have:=hu i (by rw [List.mem_range];omega)
 rw [cnt_at _ _ _ h0 (by omega)] at h
 simp at this;omega
structure FOK (f:List Part) (n:Nat):Prop where
 good:∀ (i:Nat) (p:Part),f[i]? = some p→goodPart p i=true
 len:f.length≤12
 one:0<f.length
 reads:∀ p ∈ f,p.kind=1→p.n<n
def inRange (vals:List Int):Prop:=∀ x ∈ vals,0≤x∧x≤999
theorem reck_succ (f:List Part) (vals:List Int) (k i:Nat) {p:Part} (h:f[i]? = some p):reck f vals (k + 1) i =
  if p.kind=0 then (p.n,[]) else if p.kind=1 then (rd vals p.n,[p.n]) else
   if p.kind=8 then ((reck f vals k (if (reck f vals k p.a).1=0 then p.c else p.b)).1,(reck f vals k p.a).2++(reck f vals k (if (reck f vals k p.a).1=0 then p.c else p.b)).2)
   else (joined p.kind (reck f vals k p.a).1 (reck f vals k p.b).1,(reck f vals k p.a).2++(reck f vals k p.b).2):=by
 simp [reck,h]
theorem reck_len (f:List Part) (vals:List Int) (k:Nat) (i:Int):(reck f vals k i).2.length≤2 ^ k:=by
 induction k generalizing i with
 | zero=>simp [reck]
 | succ k ih =>
  have h1:1≤2 ^ k:=Nat.one_le_two_pow
  have h2:2 ^ (k + 1)=2 ^ k + 2 ^ k:=by rw [Nat.pow_succ];omega
  simp only [reck]
  split
  ·simp
  ·split
   ·simp;omega
   ·split
    ·have a:=ih (f.getD i.toNat default).a
     have b:=ih (if (reck f vals k (f.getD i.toNat default).a).1=0 then (f.getD i.toNat default).c else (f.getD i.toNat default).b)
     simp only [List.length_append];omega
    ·have a:=ih (f.getD i.toNat default).a
     have b:=ih (f.getD i.toNat default).b
     simp only [List.length_append];omega
theorem joined_range (k x y:Int) (hx:0≤x∧x≤999) (hy:0≤y∧y≤999):0≤joined k x y∧joined k x y≤999:=by
 unfold joined
 generalize x * y=z
 repeat' split
 all_goals omega
end Sg
namespace Sg
def kindAt (g:Graph) (x:Int):Int:=(g.getD x.toNat default).kind
def goodRead (g:Graph) (i:Nat) (x:Int):Bool:=decide (x<i) && (kindAt g x != 2)
def goodReads (g:Graph) (i:Nat):Bool:=(mayRead (g.getD i default).f).all (goodRead g i)
def goodNode (g:Graph) (i:Nat):Bool :=
 let n:=g.getD i default
 if n.kind=0 then n.f.length == 0 else if n.kind=1∨n.kind=2 then validF n.f && goodReads g i else false
def validG (g:Graph):Bool:=((List.range g.length).all (goodNode g)) && decide (g.length≤10)
theorem mayRead_range {f:List Part} {x:Int} (h:x ∈ mayRead f):0≤x∧x≤9:=by
 unfold mayRead at h
 rw [List.mem_filter,List.mem_map] at h
 obtain ⟨⟨y,hy,rfl⟩,_⟩:=h
 rw [List.mem_range] at hy
 simp;omega
theorem validF_good {f:List Part} (h:validF f=true):∀ (i:Nat) (p:Part),f[i]? = some p→goodPart p i=true:=by
 unfold validF at h
 simp only [Bool.and_eq_true] at h
 have key:∀ (f:List Part) (j i:Nat) (p:Part),goodFrom j f=true→f[i]? = some p→goodPart p (j + i)=true:=by
  intro f
  induction f with
  | nil=>intro j i p _ h;simp at h
  | cons q f ih =>
   intro j i p hg hp
   simp only [goodFrom,Bool.and_eq_true] at hg
   cases i with
   | zero=>simp at hp;subst hp;exact hg.1
   | succ i =>
    have:=ih (j + 1) i p hg.2 (by simpa using hp)
    rwa [show j + 1 + i=j + (i + 1) from by omega] at this
 intro i p hp
 have:=key f 0 i p h.1.2 hp
 rwa [Nat.zero_add] at this
theorem validF_len {f:List Part} (h:validF f=true):1≤f.length∧f.length≤12:=by
 unfold validF inR at h
 simp only [Bool.and_eq_true,decide_eq_true_eq] at h
 omega
theorem mem_mayRead {f:List Part} (h:validF f=true) {p:Part} (hp:p ∈ f) (hk:p.kind=1):p.n ∈ mayRead f:=by
 obtain ⟨i,hi⟩:=List.getElem?_of_mem hp
 have hg:=validF_good h i p hi
 unfold goodPart alone at hg
 rw [if_neg (by omega),if_pos hk] at hg
 simp only [Bool.and_eq_true,inR,decide_eq_true_eq] at hg
 unfold mayRead
 rw [List.mem_filter,List.mem_map]
 refine ⟨⟨p.n.toNat,by rw [List.mem_range];omega,by simp;omega⟩,?_⟩
 unfold hasRead
 rw [List.any_eq_true]
 exact ⟨p,hp,by simp [hk]⟩
theorem validG_node {g:Graph} (h:validG g=true) (i:Nat) (hi:i<g.length):goodNode g i=true:=by
 unfold validG at h
 simp only [Bool.and_eq_true,List.all_eq_true,List.mem_range] at h
 exact h.1 i hi
theorem validG_fok {g:Graph} (h:validG g=true) (i:Nat) {n:Node} (hn:g[i]? = some n) (hk:n.kind≠0):FOK n.f i:=by
 have hi:i<g.length:=(List.getElem?_eq_some_iff.1 hn).1
 have hgn:=validG_node h i hi
 unfold goodNode at hgn
 have hd:g.getD i default=n:=by simp [hn]
 rw [hd] at hgn
 dsimp only at hgn
 rw [if_neg hk] at hgn
 split at hgn
 ·simp only [Bool.and_eq_true] at hgn
  have hl:=validF_len hgn.1
  refine ⟨validF_good hgn.1,hl.2,hl.1,fun p hp hpk=>?_⟩
  have hm:=mem_mayRead hgn.1 hp hpk
  have:=hgn.2
  unfold goodReads at this
  rw [List.all_eq_true] at this
  rw [hd] at this
  have:=this _ hm
  unfold goodRead at this
  simp only [Bool.and_eq_true,decide_eq_true_eq] at this
  exact this.1
 ·cases hgn
structure Eager where
 vals:List Int
 reads:List (List Int)
deriving DecidableEq,Inhabited
def inR999 (l:List Int):Bool:=l.all fun x=>inR x 0 999
def rightAt (g:Graph) (vals:List Int) (reads:List (List Int)) (i:Nat):Bool :=
 let n:=g.getD i default
 if n.kind=0 then (reads.getD i []).isEmpty else decide ((runF n.f vals).1=vals.getD i 0) && decide ((runF n.f vals).2=reads.getD i [])
def validE (g:Graph) (st:Eager):Bool :=
 validG g && decide (st.vals.length=g.length) && decide (st.reads.length=g.length) && inR999 st.vals && (List.range g.length).all (rightAt g st.vals st.reads)
theorem inR999_range {l:List Int} (h:inR999 l=true):inRange l:=by
 intro x hx
 unfold inR999 at h
 rw [List.all_eq_true] at h
 have:=h x hx
 simp [inR] at this
 omega
end Sg
namespace Sg
theorem getD_mem {f:List Part} {i:Nat} (h:(f.getD i default).kind=1):f.getD i default ∈ f:=by
 by_cases hi:i<f.length
 ·rw [List.getD_eq_getElem?_getD,List.getElem?_eq_getElem hi]
  exact List.getElem_mem hi
 ·rw [List.getD_eq_getElem?_getD,List.getElem?_eq_none (by omega)] at h
  exact absurd h (by decide)
theorem reck_congr (f:List Part) (k:Nat) (a b:List Int) (hf:∀ p ∈ f,p.kind=1→0≤p.n∧p.n<k) (hab:∀ j:Nat,j<k→a.getD j 0=b.getD j 0) (m:Nat) (i:Int):reck f a m i=reck f b m i:=by
 induction m generalizing i with
 | zero=>rfl
 | succ m ih =>
  have hr:(f.getD i.toNat default).kind=1→rd a (f.getD i.toNat default).n=rd b (f.getD i.toNat default).n:=by
   intro h1
   obtain ⟨h0,hk⟩:=hf _ (getD_mem h1) h1
   unfold rd
   exact hab _ (by omega)
  simp only [reck,ih]
  by_cases h0:(f.getD i.toNat default).kind=0
  ·rw [if_pos h0,if_pos h0]
  ·rw [if_neg h0,if_neg h0]
   by_cases h1:(f.getD i.toNat default).kind=1
   ·rw [if_pos h1,if_pos h1,hr h1]
   ·rw [if_neg h1,if_neg h1]
theorem FOK.read0 {f:List Part} {k:Nat} (h:FOK f k):∀ p ∈ f,p.kind=1→0≤p.n∧p.n<k:=by
 intro p hp h1
 obtain ⟨i,hi⟩:=List.getElem?_of_mem hp
 have hg:=h.good i p hi
 have:=h.reads p hp h1
 unfold goodPart alone at hg
 rw [if_neg (by omega),if_pos h1] at hg
 simp only [Bool.and_eq_true,inR,decide_eq_true_eq] at hg
 omega
theorem runF_congr {f:List Part} {k:Nat} (h:FOK f k) {a b:List Int} (hab:∀ j:Nat,j<k→a.getD j 0=b.getD j 0):runF f a=runF f b:=by
 unfold runF
 rw [reck_congr f k a b h.read0 hab]
theorem reck_range (f:List Part) (v:List Int) (hf:∀ p ∈ f,p.kind=0→0≤p.n∧p.n≤999) (hv:inRange v) (m:Nat) (i:Int):0≤(reck f v m i).1∧(reck f v m i).1≤999:=by
 induction m generalizing i with
 | zero=>simp [reck]
 | succ m ih =>
  simp only [reck]
  by_cases h0:(f.getD i.toNat default).kind=0
  ·rw [if_pos h0]
   by_cases hi:i.toNat<f.length
   ·refine hf _ ?_ h0
    rw [List.getD_eq_getElem?_getD,List.getElem?_eq_getElem hi]
    exact List.getElem_mem hi
   ·rw [List.getD_eq_getElem?_getD,List.getElem?_eq_none (by omega)]
    decide
  ·rw [if_neg h0]
   by_cases h1:(f.getD i.toNat default).kind=1
   ·rw [if_pos h1]
    show 0≤rd v _∧rd v _≤999
    unfold rd
    generalize (f.getD i.toNat default).n.toNat=j
    by_cases hj:j<v.length
    ·rw [List.getD_eq_getElem?_getD,List.getElem?_eq_getElem hj]
     exact hv _ (List.getElem_mem hj)
    ·rw [List.getD_eq_getElem?_getD,List.getElem?_eq_none (by omega)]
     decide
   ·rw [if_neg h1]
    by_cases h8:(f.getD i.toNat default).kind=8
    ·rw [if_pos h8];exact ih _
    ·rw [if_neg h8];exact joined_range _ _ _ (ih _) (ih _)
theorem runF_range {f:List Part} {k:Nat} (h:FOK f k) {v:List Int} (hv:inRange v):0≤(runF f v).1∧(runF f v).1≤999:=by
 refine reck_range f v (fun p hp h0=>?_) hv _ _
 obtain ⟨i,hi⟩:=List.getElem?_of_mem hp
 have hg:=h.good i p hi
 unfold goodPart alone at hg
 rw [if_pos h0] at hg
 simp only [Bool.and_eq_true,inR,decide_eq_true_eq] at hg
 omega
def cellOk (g:Graph) (cells:List Int) (i:Nat):Bool:=inR (cells.getD i 0) 0 999 && (decide (kindAt g (i:Int)=0) || decide (cells.getD i 0=0))
def validC (g:Graph) (cells:List Int):Bool:=decide (cells.length=g.length) && (List.range cells.length).all (cellOk g cells)
def valAt (g:Graph) (cells out:List Int) (i:Nat):Int:=if (g.getD i default).kind=0 then cells.getD i 0 else (runF (g.getD i default).f out).1
def meanTo (g:Graph) (cells:List Int):Nat→List Int
 | 0=>[]
 | k + 1=>meanTo g cells k++[valAt g cells (meanTo g cells k) k]
def mean (g:Graph) (cells:List Int):List Int:=meanTo g cells g.length
def depAt (g:Graph) (vals:List Int) (i:Nat):List Int:=if (g.getD i default).kind=0 then [] else (runF (g.getD i default).f vals).2
def depsTo (g:Graph) (vals:List Int) (k:Nat):List (List Int):=(List.range k).map (depAt g vals)
def startE (g:Graph) (cells:List Int):Eager:=⟨mean g cells,depsTo g (mean g cells) g.length⟩
theorem depsTo_succ (g:Graph) (vals:List Int) (k:Nat):depsTo g vals (k + 1)=depsTo g vals k++[depAt g vals k]:=by simp [depsTo,List.range_succ]
@[simp] theorem length_depsTo (g:Graph) (vals:List Int) (k:Nat):(depsTo g vals k).length=k:=by simp [depsTo]
@[simp] theorem length_meanTo (g:Graph) (cells:List Int) (k:Nat):(meanTo g cells k).length=k:=by
 induction k with
 | zero=>rfl
 | succ k ih=>simp [meanTo,ih]
@[simp] theorem length_mean (g:Graph) (cells:List Int):(mean g cells).length=g.length:=length_meanTo _ _ _
theorem meanTo_take (g:Graph) (cells:List Int) (k m:Nat) (h:k≤m):(meanTo g cells m).take k=meanTo g cells k:=by
 induction m with
 | zero =>
  obtain rfl:k=0:=by omega
  rfl
 | succ m ih =>
  by_cases hk:k=m + 1
  ·subst hk
   rw [List.take_of_length_le (by simp)]
  ·simp only [meanTo]
   rw [List.take_append_of_le_length (by simp;omega),ih (by omega)]
theorem meanTo_getD (g:Graph) (cells:List Int) (k m j:Nat) (h:k≤m) (hj:j<k):(meanTo g cells m).getD j 0=(meanTo g cells k).getD j 0:=by
 rw [← meanTo_take g cells k m h,List.getD_eq_getElem?_getD,List.getD_eq_getElem?_getD,List.getElem?_take,if_pos hj]
theorem validC_len {g:Graph} {cells:List Int} (h:validC g cells=true):cells.length=g.length:=by
 unfold validC at h
 simp only [Bool.and_eq_true,decide_eq_true_eq] at h
 exact h.1
theorem validC_range {g:Graph} {cells:List Int} (h:validC g cells=true):inRange cells:=by
 intro x hx
 obtain ⟨i,hi⟩:=List.getElem?_of_mem hx
 unfold validC at h
 simp only [Bool.and_eq_true,List.all_eq_true,List.mem_range] at h
 have:=h.2 i (List.getElem?_eq_some_iff.1 hi).1
 unfold cellOk at this
 simp only [Bool.and_eq_true,List.getD_eq_getElem?_getD,hi,Option.getD_some,inR,decide_eq_true_eq] at this
 omega
theorem meanTo_range {g:Graph} {cells:List Int} (hg:validG g=true) (hc:validC g cells=true) (k:Nat) (hk:k≤g.length):inRange (meanTo g cells k):=by
 induction k with
 | zero=>intro x hx;cases hx
 | succ k ih =>
  intro x hx
  simp only [meanTo,List.mem_append,List.mem_singleton] at hx
  rcases hx with hx | rfl
  ·exact ih (by omega) x hx
  ·unfold valAt
   obtain ⟨n,hn⟩:∃ n,g[k]? = some n:=⟨_,List.getElem?_eq_getElem (by omega)⟩
   have hd:g.getD k default=n:=by simp [hn]
   rw [hd]
   by_cases h0:n.kind=0
   ·rw [if_pos h0]
    have hl:=validC_len hc
    have:k<cells.length:=by omega
    rw [List.getD_eq_getElem?_getD,List.getElem?_eq_getElem this]
    exact validC_range hc _ (List.getElem_mem this)
   ·rw [if_neg h0]
    exact runF_range (validG_fok hg k hn h0) (ih (by omega))
theorem mean_run {g:Graph} {cells:List Int} (hg:validG g=true) {k:Nat} {n:Node} (hn:g[k]? = some n) (h0:n.kind≠0) (m:Nat):runF n.f (meanTo g cells k++List.replicate m 0)=runF n.f (meanTo g cells k) :=
 runF_congr (validG_fok hg k hn h0) fun j hj=>by
  rw [List.getD_eq_getElem?_getD,List.getD_eq_getElem?_getD,List.getElem?_append_left (by simpa using hj)]
theorem mean_dep {g:Graph} {cells:List Int} (hg:validG g=true) {k:Nat} {n:Node} (hn:g[k]? = some n) (h0:n.kind≠0):runF n.f (mean g cells)=runF n.f (meanTo g cells k) :=
 runF_congr (validG_fok hg k hn h0) fun j hj=>meanTo_getD g cells k _ j (Nat.le_of_lt (List.getElem?_eq_some_iff.1 hn).1) hj
end Sg
namespace Go.Proofs.YtgojnefiephafaaGreat
open Go.RowKit
def ints (l:List Int):List Value:=l.map (Value.int .i64)
def bools (l:List Bool):List Value:=l.map Value.bool
@[simp] theorem ints_snoc (l:List Int) (x:Int):ints l++[.int .i64 x]=ints (l++[x]):=by simp [ints]
@[simp] theorem ints_app (l m:List Int):ints l++ints m=ints (l++m):=by simp [ints]
@[simp] theorem length_ints (l:List Int):(ints l).length=l.length:=by simp [ints]
@[simp] theorem length_bools (l:List Bool):(bools l).length=l.length:=by simp [bools]
theorem ints_at (l:List Int) (k:Nat):(ints l)[k]? = (l[k]?).map (Value.int .i64):=by simp [ints]
theorem bools_at (l:List Bool) (k:Nat):(bools l)[k]? = (l[k]?).map Value.bool:=by simp [bools]
theorem ints_take (l:List Int) (k:Nat):(ints l).take k=ints (l.take k):=by simp [ints,List.map_take]
theorem ints_drop (l:List Int) (k:Nat):(ints l).drop k=ints (l.drop k):=by simp [ints,List.map_drop]
theorem ints_set (l:List Int) (k:Nat) (x:Int):(ints l).set k (.int .i64 x)=ints (l.set k x):=by simp [ints,List.map_set]
theorem bools_set (l:List Bool) (k:Nat) (x:Bool):(bools l).set k (.bool x)=bools (l.set k x):=by simp [bools,List.map_set]
theorem one_int (k:IntKind) (n:Int):∀ u ∈ [Value.int k n],u.oneCell'=true:=by intro u hu;simp at hu;subst hu;rfl
theorem one_slice (A:Option Addr) (n c:Nat):∀ u ∈ [Value.slice A n c],u.oneCell'=true:=by intro u hu;simp at hu;subst hu;rfl
theorem one_ints (l:List Int):∀ u ∈ ints l,u.oneCell'=true:=by intro u hu;simp [ints] at hu;obtain ⟨x,_,rfl⟩:=hu;rfl
theorem Rd.len {w:World} {A:Option Addr} {n:Nat} {l:List Int} (h:Rd w 1 A n (ints l)):l.length=n:=by have:=h.1;simp at this;omega
theorem Rd.lenB {w:World} {A:Option Addr} {n:Nat} {l:List Bool} (h:Rd w 1 A n (bools l)):l.length=n:=by have:=h.1;simp at this;omega
theorem Own.len {w:World} {B e:Nat} {A:Option Addr} {n c:Nat} {l:List Int} (h:Own w B e 1 A n c (ints l)):l.length=n:=by have:=h.1;simp at this;omega
theorem Rd.big {w:World} {s:Nat} {A:Option Addr} {n:Nat} {l:List Value} (h:Rd w s A n l):n≤9223372036854775807:=by have:=h.2.1;unfold maxLen at this;omega
theorem Rd.at1 {w:World} {A:Option Addr} {n:Nat} {l:List Int} (h:Rd w 1 A n (ints l)) {k:Nat} (hk:k<n) :
  ∃ b o x,A=some ⟨b,o,none⟩∧l[k]? = some x∧w.cell? ⟨b,o + k,none⟩=some (.int .i64 x):=by
 have hl:=h.len
 obtain ⟨h1,_,h2⟩:=h
 obtain ⟨b,o,rfl,h3⟩:=h2 (by omega)
 have hx:l[k]? = some l[k]:=List.getElem?_eq_getElem (by omega)
 exact ⟨b,o,_,rfl,hx,h3 k _ (by rw [ints_at,hx];rfl)⟩
theorem Rd.atB {w:World} {A:Option Addr} {n:Nat} {l:List Bool} (h:Rd w 1 A n (bools l)) {k:Nat} (hk:k<n) :
  ∃ b o x,A=some ⟨b,o,none⟩∧l[k]? = some x∧w.cell? ⟨b,o + k,none⟩=some (.bool x):=by
 have hl:=h.lenB
 obtain ⟨h1,_,h2⟩:=h
 obtain ⟨b,o,rfl,h3⟩:=h2 (by omega)
 have hx:l[k]? = some l[k]:=List.getElem?_eq_getElem (by omega)
 exact ⟨b,o,_,rfl,hx,h3 k _ (by rw [bools_at,hx];rfl)⟩
def pcs (p:Sg.Part):List Value:=[.int .i64 p.kind,.int .i64 p.a,.int .i64 p.b,.int .i64 p.c,.int .i64 p.n]
def parts (l:List Sg.Part):List Value:=l.flatMap pcs
abbrev pv (p:Sg.Part):Value := .agg #[.int .i64 p.kind,.int .i64 p.a,.int .i64 p.b,.int .i64 p.c,.int .i64 p.n]
theorem length_flat {α:Type} (f:α→List Value) (s:Nat) (hs:∀ x,(f x).length=s) (l:List α):(l.flatMap f).length=l.length * s:=by
 induction l with
 | nil=>simp
 | cons x l ih=>simp only [List.flatMap_cons,List.length_append,ih,hs,List.length_cons];rw [Nat.add_mul,Nat.one_mul,Nat.add_comm]
theorem at_flat {α:Type} (f:α→List Value) (s:Nat) (hs:∀ x,(f x).length=s) (l:List α) (k j:Nat) (hj:j<s) {x:α} (hx:l[k]? = some x):(l.flatMap f)[k * s + j]? = (f x)[j]? := by
 induction l generalizing k with
 | nil=>simp at hx
 | cons y l ih =>
  cases k with
  | zero =>
   simp at hx;subst hx
   simp only [List.flatMap_cons,Nat.zero_mul,Nat.zero_add]
   rw [List.getElem?_append_left (by rw [hs];exact hj)]
  | succ k =>
   simp only [List.getElem?_cons_succ] at hx
   simp only [List.flatMap_cons]
   rw [List.getElem?_append_right (by rw [hs,Nat.add_mul];omega),hs,show (k + 1) * s + j - s=k * s + j from by rw [Nat.add_mul];omega]
   exact ih k hx
@[simp] theorem length_parts (l:List Sg.Part):(parts l).length=l.length * 5:=length_flat pcs 5 (fun _=>rfl) l
theorem parts_snoc (l:List Sg.Part) (p:Sg.Part):parts l++pcs p=parts (l++[p]):=by simp [parts]
theorem Rd.lenP {w:World} {A:Option Addr} {n:Nat} {l:List Sg.Part} (h:Rd w 5 A n (parts l)):l.length=n:=by have:=h.1;simp at this;omega
theorem Rd.atP {w:World} {A:Option Addr} {n:Nat} {l:List Sg.Part} (h:Rd w 5 A n (parts l)) {k:Nat} (hk:k<n) :
  ∃ b o p,A=some ⟨b,o,none⟩∧l[k]? = some p∧w.cell? ⟨b,o + k * 5,none⟩=some (.int .i64 p.kind)∧w.cell? ⟨b,o + k * 5 + 1,none⟩=some (.int .i64 p.a) ∧
   w.cell? ⟨b,o + k * 5 + 2,none⟩=some (.int .i64 p.b)∧w.cell? ⟨b,o + k * 5 + 3,none⟩=some (.int .i64 p.c)∧w.cell? ⟨b,o + k * 5 + 4,none⟩=some (.int .i64 p.n):=by
 have hl:=h.lenP
 obtain ⟨h1,_,h2⟩:=h
 obtain ⟨b,o,rfl,h3⟩:=h2 (by omega)
 have hx:l[k]? = some l[k]:=List.getElem?_eq_getElem (by omega)
 have hc:∀ j u,j<5→(pcs l[k])[j]? = some u→w.cell? ⟨b,o + k * 5 + j,none⟩=some u:=by
  intro j u hj hu
  have:=h3 (k * 5 + j) u (by unfold parts;rw [at_flat pcs 5 (fun _=>rfl) l k j hj hx];exact hu)
  rwa [← Nat.add_assoc] at this
 exact ⟨b,o,_,rfl,hx,hc 0 _ (by omega) rfl,hc 1 _ (by omega) rfl,hc 2 _ (by omega) rfl,hc 3 _ (by omega) rfl,hc 4 _ (by omega) rfl⟩
theorem bcell {W w1:World} (hb:Ext W w1):(∀ b o,b<W.heap.size→w1.cell? ⟨b,o,none⟩=W.cell? ⟨b,o,none⟩)∧(∀ b o,b<W.heap.size→w1.frozen? ⟨b,o,none⟩=W.frozen? ⟨b,o,none⟩) :=
 ⟨fun b o h=>hb.cell (p:=⟨b,o,none⟩) h,fun b o h=>hb.frozen (p:=⟨b,o,none⟩) h⟩
theorem ret_int {k:IntKind} {a b:Int} (h:a=b):Ending.returned (.int k a) = .returned (.int k b):=by rw [h]
theorem ret_slice {A:Option Addr} {n m c:Nat} (h:n=m):Ending.returned (.slice A n c) = .returned (.slice A m c):=by rw [h]
theorem ret_bool {a b:Bool} (h:a=b):Ending.returned (.bool a) = .returned (.bool b):=by rw [h]
theorem take_snoc {α:Type} (l:List α) (k:Nat) {x:α} (h:l[k]? = some x):l.take (k + 1)=l.take k++[x]:=by
 obtain ⟨hk,rfl⟩:=List.getElem?_eq_some_iff.1 h
 rw [List.take_succ_eq_append_getElem hk]
theorem drop_cons {α:Type} (l:List α) (k:Nat) {x:α} (h:l[k]? = some x):l.drop k=x :: l.drop (k + 1):=by
 obtain ⟨hk,rfl⟩:=List.getElem?_eq_some_iff.1 h
 rw [List.drop_eq_getElem_cons hk]
end Go.Proofs.YtgojnefiephafaaGreat
namespace Go.Proofs.YtgojnefiephafaaGreat
open Go.RowKit
theorem blt {w:World} {b o:Nat} {u:Value} (h:w.cell? ⟨b,o,none⟩=some u):b<w.heap.size:=World.block_lt_of_cell? w ⟨b,o,none⟩ h
def RdN (w:World) (A:Option Addr) (g:Sg.Graph):Prop :=
 g.length≤1048576∧∀ (i:Nat) (n:Sg.Node),g[i]? = some n→∃ b o Ap cp,A=some ⟨b,o,none⟩∧w.cell? ⟨b,o + i * 2,none⟩=some (.int .i64 n.kind) ∧
  w.cell? ⟨b,o + i * 2 + 1,none⟩=some (.slice Ap n.f.length cp)∧Rd w 5 Ap n.f.length (parts n.f)∧n.f.length≤1048576
theorem RdN.ext {w w':World} {A:Option Addr} {g:Sg.Graph} (h:RdN w A g) (e:Ext w w'):RdN w' A g :=
 ⟨h.1,fun i n hn=>let ⟨b,o,Ap,cp,ha,h1,h2,h3,h4⟩:=h.2 i n hn;⟨b,o,Ap,cp,ha,e.cellE h1,e.cellE h2,h3.ext e,h4⟩⟩
theorem RdN.at_ {w:World} {A:Option Addr} {g:Sg.Graph} (h:RdN w A g) {i:Nat} (hi:i<g.length):∃ n b o Ap cp,g[i]? = some n∧A=some ⟨b,o,none⟩∧w.cell? ⟨b,o + i * 2,none⟩=some (.int .i64 n.kind) ∧
  w.cell? ⟨b,o + i * 2 + 1,none⟩=some (.slice Ap n.f.length cp)∧Rd w 5 Ap n.f.length (parts n.f)∧n.f.length≤1048576:=by
 have hx:g[i]? = some g[i]:=List.getElem?_eq_getElem hi
 obtain ⟨b,o,Ap,cp,r⟩:=h.2 i _ hx
 exact ⟨_,b,o,Ap,cp,hx,r⟩
def RdL (w:World) (A:Option Addr) (ll:List (List Int)):Prop :=
 ll.length≤1048576∧∀ (i:Nat) (l:List Int),ll[i]? = some l→∃ b o Al cl,A=some ⟨b,o,none⟩∧w.cell? ⟨b,o + i,none⟩=some (.slice Al l.length cl)∧Rd w 1 Al l.length (ints l)∧l.length≤1048576
theorem RdL.ext {w w':World} {A:Option Addr} {ll:List (List Int)} (h:RdL w A ll) (e:Ext w w'):RdL w' A ll :=
 ⟨h.1,fun i l hl=>let ⟨b,o,Al,cl,ha,h1,h2,h3⟩:=h.2 i l hl;⟨b,o,Al,cl,ha,e.cellE h1,h2.ext e,h3⟩⟩
theorem RdL.at_ {w:World} {A:Option Addr} {ll:List (List Int)} (h:RdL w A ll) {i:Nat} (hi:i<ll.length):∃ l b o Al cl,ll[i]? = some l∧A=some ⟨b,o,none⟩∧w.cell? ⟨b,o + i,none⟩=some (.slice Al l.length cl)∧Rd w 1 Al l.length (ints l)∧l.length≤1048576:=by
 have hx:ll[i]? = some ll[i]:=List.getElem?_eq_getElem hi
 obtain ⟨b,o,Al,cl,r⟩:=h.2 i _ hx
 exact ⟨_,b,o,Al,cl,hx,r⟩
end Go.Proofs.YtgojnefiephafaaGreat
namespace Go.Proofs.YtgojnefiephafaaGreat
open Go.RowKit
structure Mod (F:Nat→Prop) (w w':World):Prop where
 os:w'.os=w.os
 tape:w'.tape=w.tape
 output:w'.output=w.output
 size:w.heap.size≤w'.heap.size
 block:∀ b,b<w.heap.size→¬ F b→w'.heap[b]? = w.heap[b]?
theorem Mod.of {F:Nat→Prop} {w w':World} (h:Ext w w'):Mod F w w':=⟨h.os,h.tape,h.output,h.size,fun b hb _=>h.block b hb⟩
theorem Mod.ext {F:Nat→Prop} {w w':World} (h:Mod F w w') (hF:∀ b,¬ F b):Ext w w':=⟨h.os,h.tape,h.output,h.size,fun b hb=>h.block b hb (hF b)⟩
theorem Mod.rfl' (F:Nat→Prop) (w:World):Mod F w w:=Mod.of (Ext.rfl' w)
theorem Mod.tr {F F':Nat→Prop} {a b c:World} (h:Mod F a b) (k:Mod F' b c) (hF:∀ x,F' x→F x∨a.heap.size≤x):Mod F a c :=
 ⟨k.os.trans h.os,k.tape.trans h.tape,k.output.trans h.output,Nat.le_trans h.size k.size,fun x hx hn =>
  (k.block x (Nat.lt_of_lt_of_le hx h.size) (fun e=>(hF x e).elim hn (fun e=>by omega))).trans (h.block x hx hn)⟩
theorem Mod.tr' {F:Nat→Prop} {a b c:World} (h:Mod F a b) (k:Mod F b c):Mod F a c:=h.tr k fun _ e=>.inl e
theorem Mod.mono {F F':Nat→Prop} {w w':World} (h:Mod F w w') (hF:∀ b,b<w.heap.size→F b→F' b):Mod F' w w' :=
 ⟨h.os,h.tape,h.output,h.size,fun b hb hn=>h.block b hb fun e=>hn (hF b hb e)⟩
theorem Mod.cellE {F:Nat→Prop} {w w':World} (h:Mod F w w') {b o:Nat} {u:Value} (hc:w.cell? ⟨b,o,none⟩=some u) (hF:¬ F b):w'.cell? ⟨b,o,none⟩=some u :=
 (World.cell?_of_block (a:=⟨b,o,none⟩) (h.block b (blt hc) hF)).trans hc
def off (F:Nat→Prop) (A:Option Addr):Prop:=∀ b,blk A=some b→¬ F b
theorem Rd.mod {F:Nat→Prop} {w w':World} {size n:Nat} {A:Option Addr} {xs:List Value} (h:Rd w size A n xs) (k:Mod F w w') (hF:off F A):Rd w' size A n xs :=
 ⟨h.1,h.2.1,fun hn=>let ⟨b,o,ha,hc⟩:=h.2.2 hn;⟨b,o,ha,fun j u hu=>k.cellE (hc j u hu) (hF b (by rw [ha];rfl))⟩⟩
theorem Own.mod {F:Nat→Prop} {w w':World} {B e size n c:Nat} {A:Option Addr} {xs:List Value} (h:Own w B e size A n c xs) (k:Mod F w w') (hF:off F A):Own w' B e size A n c xs :=
 h.keep fun g hg=>k.block g (h.lt hg).2 (hF g hg)
theorem bcellM {F:Nat→Prop} {W w1:World} (hb:Mod F W w1) (L:Nat) (hF:∀ b,F b→b<L):(∀ b o,L≤b→b<W.heap.size→w1.cell? ⟨b,o,none⟩=W.cell? ⟨b,o,none⟩) :=
 fun b _ hL h=>World.cell?_of_block (hb.block b h fun e=>by have:=hF b e;omega)
theorem ent_of {P:Program} {fid:Nat} {fn:Func} {c:Code} (h:P.funcs[fid]? = some fn) (hb:fn.body=some c) (hn:(fn.name == "runtime.NumGoroutine")=false) (args:Array Value) (w:World) :
  (callFunc fid args).run P w = .ok (.enter fid args) w:=by
 have hn':¬ fn.name= "runtime.NumGoroutine":=by simpa using hn
 simp [callFunc,program,h,hb,hn',Sem.run_bind,Result.andThen,Sem.run]
structure Clo (P:Program) (fid:Nat) (caps:List Value) (σ:Type) (inv:σ→(Nat→Prop)→World→Prop) (val:σ→Int→Int) (nxt:σ→Int→σ) (dom:Int→Prop) (L:Nat):Prop where
 ent:∀ (args:Array Value) (w:World),(callFunc fid args).run P w = .ok (.enter fid args) w
 call:∀ (s:σ) (F:Nat→Prop) (w:World) (n:Int),inv s F w→dom n→Calls P fid ((.int .i64 n :: caps).toArray) w fun e w' =>
  e = .returned (.int .i64 (val s n))∧∃ F',inv (nxt s n) F' w'∧Mod F w w'∧∀ b,F' b→F b∨w.heap.size≤b
 old:∀ (s:σ) (F:Nat→Prop) (w:World) (b:Nat),inv s F w→F b→b<w.heap.size
 md:∀ (s:σ) (F G:Nat→Prop) (w w':World),inv s F w→Mod G w w'→(∀ b,F b→¬ G b)→(∀ b,b<L→¬ G b)→inv s F w'
 ran:∀ (s:σ) (F:Nat→Prop) (w:World) (n:Int),inv s F w→dom n→0≤val s n∧val s n≤999
theorem Clo.ext {P:Program} {fid:Nat} {caps:List Value} {σ:Type} {inv:σ→(Nat→Prop)→World→Prop} {val:σ→Int→Int} {nxt:σ→Int→σ} {dom:Int→Prop} {L:Nat} (C:Clo P fid caps σ inv val nxt dom L)
  (s:σ) (F:Nat→Prop) (w w':World) (h:inv s F w) (e:Ext w w'):inv s F w':=C.md s F (fun _=>False) w w' h (Mod.of e) (fun _ _=>id) (fun _ _=>id)
end Go.Proofs.YtgojnefiephafaaGreat
namespace Sg
def evalM {σ:Type} (f:List Part) (val:σ→Int→Int) (nxt:σ→Int→σ):Nat→Int→σ→Int × σ
 | 0,_,s=>(0,s)
 | k + 1,i,s =>
  let p:=f.getD i.toNat default
  if p.kind=0 then (p.n,s)
  else if p.kind=1 then (val s p.n,nxt s p.n)
  else
   let x:=evalM f val nxt k p.a s
   if p.kind=8 then evalM f val nxt k (if x.1=0 then p.c else p.b) x.2
   else
    let y:=evalM f val nxt k p.b x.2
    (joined p.kind x.1 y.1,y.2)
theorem evalM_succ {σ:Type} (f:List Part) (val:σ→Int→Int) (nxt:σ→Int→σ) (k i:Nat) (s:σ) {p:Part} (h:f[i]? = some p):evalM f val nxt (k + 1) i s =
  if p.kind=0 then (p.n,s) else if p.kind=1 then (val s p.n,nxt s p.n) else
   if p.kind=8 then evalM f val nxt k (if (evalM f val nxt k p.a s).1=0 then p.c else p.b) (evalM f val nxt k p.a s).2
   else (joined p.kind (evalM f val nxt k p.a s).1 (evalM f val nxt k p.b (evalM f val nxt k p.a s).2).1,(evalM f val nxt k p.b (evalM f val nxt k p.a s).2).2):=by
 simp [evalM,h]
structure FOD (f:List Part) (dom:Int→Prop):Prop where
 good:∀ (i:Nat) (p:Part),f[i]? = some p→goodPart p i=true
 len:f.length≤12
 one:0<f.length
 reads:∀ p ∈ f,p.kind=1→dom p.n
end Sg
namespace Go.Proofs.YtgojnefiephafaaGreat
open Go.RowKit
theorem wpList_app1g {P:Program} {ops:Array Oper} {rest:List Oper} {o:Oper} {a:Act} {Q:Exit→Act→World→Prop} {w:World} (hgd:o.guard=none) {s x:Operand} {t:TypeId}
  (ho:o.op = .call { callee := .builtin .append,args:=#[s,x],argTypes:=#[t,t] })
  {e size bytes:Nat} {z:Value} (E:EI P t e size bytes z) {B:Nat} {A:Option Addr} {n c:Nat} {xs:List Value} (hs:a.eval s = .slice A n c) (hown:Own w B e size A n c xs)
  {cs:List Value} {g:Nat} (hx:a.eval x = .slice (some ⟨g,0,none⟩) 1 1) (hg:w.heap.size=g) (hl:cs.length=size) (h1:∀ u ∈ cs,u.oneCell'=true)
  (h63:n + 1≤1099511627776) (hbytes:bytes≤64) (hbase:B≤w.heap.size)
  (h:∀ A' c'' w',Own w' B e size A' (n + 1) c'' (xs++cs)→w.grownBy w' (blk A)→(blk A'=blk A∨∃ g,blk A'=some g∧w.heap.size≤g)→wpList P ops Q rest (a.put o.dst (.slice A' (n + 1) c'')) w') :
  wpList P ops Q (o :: rest) a (w.alloc (.cells cs.toArray e)):=by
 subst hg
 exact wpList_app1 hgd ho E hs hown hx hl h1 h63 hbytes hbase h
end Go.Proofs.YtgojnefiephafaaGreat
namespace Go.Proofs.YtgojnefiephafaaGreat
open Go.RowKit
structure It where
 pre:List Value
 n:Nat
 xs:List Value
def itc (it:It) (h:Option Addr × Nat):List Value:=it.pre++[.slice h.1 it.n h.2]
def dcells:List It→List (Option Addr × Nat)→List Value
 | it :: its,h :: hs=>itc it h++dcells its hs
 | _,_=>[]
theorem dcells_nil (its:List It):dcells its []=[]:=by cases its <;> rfl
theorem length_dcells {its:List It} {hs:List (Option Addr × Nat)} {s:Nat} (hp:∀ it ∈ its,it.pre.length + 1=s) (hl:hs.length≤its.length):(dcells its hs).length=hs.length * s:=by
 induction its generalizing hs with
 | nil =>
  cases hs with
  | nil=>simp [dcells]
  | cons h hs=>simp at hl
 | cons it its ih =>
  cases hs with
  | nil=>simp [dcells]
  | cons h hs =>
   have h1:=hp it (by simp)
   have h2:=ih (hs:=hs) (fun i hi=>hp i (by simp [hi])) (by simpa using hl)
   simp only [dcells,itc,List.length_append,List.length_cons,List.length_nil,h2]
   rw [Nat.add_mul,Nat.one_mul]
   omega
theorem at_dcells {its:List It} {hs:List (Option Addr × Nat)} {s:Nat} (hp:∀ it ∈ its,it.pre.length + 1=s) (i j:Nat) (hj:j<s) {it:It} {h:Option Addr × Nat} (hi:its[i]? = some it) (hh:hs[i]? = some h) :
  (dcells its hs)[i * s + j]? = (itc it h)[j]? := by
 induction its generalizing hs i with
 | nil=>simp at hi
 | cons it' its ih =>
  cases hs with
  | nil=>simp at hh
  | cons h' hs =>
   have h1:=hp it' (by simp)
   have hl:(itc it' h').length=s:=by simp only [itc,List.length_append,List.length_cons,List.length_nil];omega
   cases i with
   | zero =>
    simp at hi hh
    subst hi
    subst hh
    simp only [dcells,Nat.zero_mul,Nat.zero_add]
    rw [List.getElem?_append_left (by rw [hl];exact hj)]
   | succ i =>
    simp only [dcells]
    rw [List.getElem?_append_right (by rw [hl,Nat.add_mul];omega),hl,show (i + 1) * s + j - s=i * s + j from by rw [Nat.add_mul];omega]
    exact ih (fun x hx=>hp x (by simp [hx])) i (by simpa using hi) (by simpa using hh)
theorem dcells_snoc {its:List It} {hs:List (Option Addr × Nat)} {it:It} (h:Option Addr × Nat) (hi:its[hs.length]? = some it):dcells its (hs++[h])=dcells its hs++itc it h:=by
 induction its generalizing hs with
 | nil=>simp at hi
 | cons it' its ih =>
  cases hs with
  | nil =>
   simp at hi
   subst hi
   simp [dcells,dcells_nil]
  | cons h' hs =>
   simp only [List.cons_append,dcells,List.append_assoc]
   rw [ih (by simpa using hi)]
structure InnD (w:World) (B ei si o:Nat) (its:List It) (hs:List (Option Addr × Nat)):Prop where
 len:hs.length≤its.length
 inn:∀ (i:Nat) (it:It) (h:Option Addr × Nat),its[i]? = some it→hs[i]? = some h→Own w B ei si h.1 it.n h.2 it.xs
 dis:∀ (i j:Nat) (h h':Option Addr × Nat),i<j→hs[i]? = some h→hs[j]? = some h'→∀ b,blk h.1=some b→blk h'.1≠some b
 dio:∀ (i:Nat) (h:Option Addr × Nat),hs[i]? = some h→blk h.1≠some o
theorem InnD.nil (w:World) (B ei si o:Nat) (its:List It):InnD w B ei si o its []:=⟨by simp,by simp,by simp,by simp⟩
theorem InnD.at_ {w:World} {B ei si o:Nat} {its:List It} {hs:List (Option Addr × Nat)} (k:InnD w B ei si o its hs) {i:Nat} {h:Option Addr × Nat} (hh:hs[i]? = some h):∃ it,its[i]? = some it∧Own w B ei si h.1 it.n h.2 it.xs:=by
 have hi:i<its.length:=Nat.lt_of_lt_of_le (List.getElem?_eq_some_iff.1 hh).1 k.len
 exact ⟨_,List.getElem?_eq_getElem hi,k.inn i _ h (List.getElem?_eq_getElem hi) hh⟩
theorem InnD.fr {w w':World} {B ei si o:Nat} {its:List It} {hs:List (Option Addr × Nat)} (k:InnD w B ei si o its hs) (hk:∀ b,B≤b→b<w.heap.size→b≠o→w'.heap[b]? = w.heap[b]?):InnD w' B ei si o its hs :=
 ⟨k.len,fun i it h hi hh=>(k.inn i it h hi hh).keep fun g hg=>hk g ((k.inn i it h hi hh).lt hg).1 ((k.inn i it h hi hh).lt hg).2 (fun e=>k.dio i h hh (by rw [hg,e])),k.dis,k.dio⟩
theorem InnD.ext {w w':World} {B ei si o:Nat} {its:List It} {hs:List (Option Addr × Nat)} (k:InnD w B ei si o its hs) (e:Ext w w'):InnD w' B ei si o its hs:=k.fr fun b _ h _=>e.block b h
theorem InnD.st {w:World} {B ei si o:Nat} {its:List It} {hs:List (Option Addr × Nat)} (k:InnD w B ei si o its hs) (j:Nat) (u:Value):InnD (w.setCell ⟨o,j,none⟩ u) B ei si o its hs :=
 k.fr fun _ _ _ h=>Below.heap_setCell _ _ _ _ h
theorem InnD.dr {w:World} {B ei si o:Nat} {its:List It} {hs:List (Option Addr × Nat)} (k:InnD w B ei si o its hs):InnD w.drew B ei si o its hs:=k.ext (Ext.rfl' w).dr
theorem InnD.snoc {w w1:World} {B ei si o:Nat} {its:List It} {hs:List (Option Addr × Nat)} (k:InnD w B ei si o its hs) (e:Ext w w1) (hB:B≤w.heap.size) (ho:o<w.heap.size) {it:It} (hi:its[hs.length]? = some it) {A:Option Addr} {c:Nat}
  (own:Own w1 w.heap.size ei si A it.n c it.xs):InnD w1 B ei si o its (hs++[(A,c)]):=by
 have k1:=k.ext e
 have hlt:=(List.getElem?_eq_some_iff.1 hi).1
 have key:∀ (i:Nat) (h:Option Addr × Nat),(hs++[(A,c)])[i]? = some h→(i<hs.length∧hs[i]? = some h)∨(i=hs.length∧h=(A,c)):=by
  intro i h hh
  by_cases hik:i<hs.length
  ·rw [List.getElem?_append_left hik] at hh
   exact .inl ⟨hik,hh⟩
  ·have h1:=(List.getElem?_eq_some_iff.1 hh).1
   simp at h1
   obtain rfl:i=hs.length:=by omega
   rw [List.getElem?_append_right (Nat.le_refl _)] at hh
   simp at hh
   exact .inr ⟨rfl,hh.symm⟩
 refine ⟨by simp;omega,?_,?_,?_⟩
 ·intro i it' h hi' hh
  rcases key i h hh with ⟨_,hh⟩ | ⟨rfl,rfl⟩
  ·exact k1.inn i it' h hi' hh
  ·rw [hi] at hi'
   injection hi' with hi'
   subst hi'
   exact own.mono hB
 ·intro i j h h' hij hh hh' b hb hb'
  rcases key i h hh with ⟨_,hh⟩ | ⟨rfl,rfl⟩
  ·rcases key j h' hh' with ⟨_,hh'⟩ | ⟨rfl,rfl⟩
   ·exact k.dis i j h h' hij hh hh' b hb hb'
   ·obtain ⟨it1,_,ow⟩:=k.at_ hh
    have:=(ow.lt hb).2
    have:=(own.lt hb').1
    omega
  ·have:=(List.getElem?_eq_some_iff.1 hh').1
   simp at this
   omega
 ·intro i h hh hb
  rcases key i h hh with ⟨_,hh⟩ | ⟨rfl,rfl⟩
  ·exact k.dio i h hh hb
  ·have:=(own.lt hb).1
   omega
structure OwnD (w:World) (B eo so ei si:Nat) (A:Option Addr) (c:Nat) (its:List It) (hs:List (Option Addr × Nat)):Prop where
 len:hs.length=its.length
 out:Own w B eo so A its.length c (dcells its hs)
 inn:∀ (i:Nat) (it:It) (h:Option Addr × Nat),its[i]? = some it→hs[i]? = some h→Own w B ei si h.1 it.n h.2 it.xs
 dis:∀ (i j:Nat) (h h':Option Addr × Nat),i<j→hs[i]? = some h→hs[j]? = some h'→∀ b,blk h.1=some b→blk h'.1≠some b
 dio:∀ (i:Nat) (h:Option Addr × Nat),hs[i]? = some h→∀ b,blk A=some b→blk h.1≠some b
def fpD (A:Option Addr) (hs:List (Option Addr × Nat)) (b:Nat):Prop:=blk A=some b∨∃ h ∈ hs,blk h.1=some b
theorem InnD.own {w:World} {B eo so ei si o:Nat} {its:List It} {hs:List (Option Addr × Nat)} {c:Nat} (k:InnD w B ei si o its hs) (hl:hs.length=its.length) (out:Own w B eo so (some ⟨o,0,none⟩) its.length c (dcells its hs)) :
  OwnD w B eo so ei si (some ⟨o,0,none⟩) c its hs :=
 ⟨hl,out,k.inn,k.dis,fun i h hh b hb=>by simp [blk] at hb;subst hb;exact k.dio i h hh⟩
section
variable {w w':World} {B eo so ei si c:Nat} {A:Option Addr} {its:List It} {hs:List (Option Addr × Nat)}
theorem OwnD.at_ (k:OwnD w B eo so ei si A c its hs) {i:Nat} {it:It} (hi:its[i]? = some it):∃ h,hs[i]? = some h∧Own w B ei si h.1 it.n h.2 it.xs:=by
 have hl:i<hs.length:=by rw [k.len];exact (List.getElem?_eq_some_iff.1 hi).1
 exact ⟨_,List.getElem?_eq_getElem hl,k.inn i it _ hi (List.getElem?_eq_getElem hl)⟩
theorem OwnD.lt (k:OwnD w B eo so ei si A c its hs) {b:Nat} (hb:fpD A hs b):B≤b∧b<w.heap.size:=by
 rcases hb with hb | ⟨h,hh,hb⟩
 ·exact k.out.lt hb
 ·obtain ⟨i,hi⟩:=List.getElem?_of_mem hh
  have hl:i<its.length:=by rw [← k.len];exact (List.getElem?_eq_some_iff.1 hi).1
  exact (k.inn i _ h (List.getElem?_eq_getElem hl) hi).lt hb
theorem OwnD.fr (k:OwnD w B eo so ei si A c its hs) (hk:∀ b,fpD A hs b→w'.heap[b]? = w.heap[b]?):OwnD w' B eo so ei si A c its hs :=
 ⟨k.len,k.out.keep fun g hg=>hk g (.inl hg),fun i it h hi hh=>(k.inn i it h hi hh).keep fun g hg=>hk g (.inr ⟨h,List.mem_of_getElem? hh,hg⟩),k.dis,k.dio⟩
theorem OwnD.ext (k:OwnD w B eo so ei si A c its hs) (e:Ext w w'):OwnD w' B eo so ei si A c its hs:=k.fr fun b hb=>e.block b (k.lt hb).2
theorem OwnD.mod {F:Nat→Prop} (k:OwnD w B eo so ei si A c its hs) (m:Mod F w w') (hF:∀ b,fpD A hs b→¬ F b):OwnD w' B eo so ei si A c its hs:=k.fr fun b hb=>m.block b (k.lt hb).2 (hF b hb)
theorem OwnD.mono {B':Nat} (k:OwnD w B eo so ei si A c its hs) (hB:B'≤B):OwnD w B' eo so ei si A c its hs:=⟨k.len,k.out.mono hB,fun i it h hi hh=>(k.inn i it h hi hh).mono hB,k.dis,k.dio⟩
theorem OwnD.set (k:OwnD w B eo so ei si A c its hs) {p:Addr} (hp:¬ fpD A hs p.block) (u:Value):OwnD (w.setCell p u) B eo so ei si A c its hs :=
 k.fr fun b hb=>Below.heap_setCell _ _ _ _ (fun e=>hp (by rw [← e];exact hb))
theorem OwnD.below (k:OwnD w B eo so ei si A c its hs) {p:Addr} (hp:p.block<B) (u:Value):OwnD (w.setCell p u) B eo so ei si A c its hs :=
 k.set (fun e=>by have:=(k.lt e).1;omega) u
end
def nodeIts (g:Sg.Graph):List It:=g.map fun n=>⟨[.int .i64 n.kind],n.f.length,parts n.f⟩
def listIts (ll:List (List Int)):List It:=ll.map fun l=>⟨[],l.length,ints l⟩
@[simp] theorem length_nodeIts (g:Sg.Graph):(nodeIts g).length=g.length:=by simp [nodeIts]
@[simp] theorem length_listIts (ll:List (List Int)):(listIts ll).length=ll.length:=by simp [listIts]
theorem nodeIts_pre (g:Sg.Graph):∀ it ∈ nodeIts g,it.pre.length + 1=2:=by
 intro it h;unfold nodeIts at h;rw [List.mem_map] at h;obtain ⟨n,_,rfl⟩:=h;rfl
theorem listIts_pre (ll:List (List Int)):∀ it ∈ listIts ll,it.pre.length + 1=1:=by
 intro it h;unfold listIts at h;rw [List.mem_map] at h;obtain ⟨n,_,rfl⟩:=h;rfl
theorem nodeIts_at {g:Sg.Graph} {i:Nat} {n:Sg.Node} (h:g[i]? = some n):(nodeIts g)[i]? = some ⟨[.int .i64 n.kind],n.f.length,parts n.f⟩:=by simp [nodeIts,h]
theorem listIts_at {ll:List (List Int)} {i:Nat} {l:List Int} (h:ll[i]? = some l):(listIts ll)[i]? = some ⟨[],l.length,ints l⟩:=by simp [listIts,h]
abbrev OwnN (w:World) (B:Nat) (A:Option Addr) (c:Nat) (g:Sg.Graph) (hs:List (Option Addr × Nat)):Prop:=OwnD w B 65 2 157 5 A c (nodeIts g) hs
abbrev OwnL (w:World) (B:Nat) (A:Option Addr) (c:Nat) (ll:List (List Int)) (hs:List (Option Addr × Nat)):Prop:=OwnD w B 25 1 3 1 A c (listIts ll) hs
theorem OwnL.rdL {w:World} {B c:Nat} {A:Option Addr} {ll:List (List Int)} {hs:List (Option Addr × Nat)} (k:OwnL w B A c ll hs) (hb:ll.length≤1048576) (hl:∀ l ∈ ll,l.length≤1048576):RdL w A ll:=by
 refine ⟨hb,fun i l hi=>?_⟩
 obtain ⟨h,hh,ho⟩:=k.at_ (listIts_at hi)
 have hil:=(List.getElem?_eq_some_iff.1 hi).1
 have hout:=k.out
 obtain ⟨g,rfl,_⟩:=hout.at_ (by simp;omega)
 have hc:=hout.cell (j:=i) (u := .slice h.1 l.length h.2) (by
  have:=at_dcells (listIts_pre ll) i 0 (by omega) (listIts_at hi) hh
  rw [Nat.mul_one,Nat.add_zero] at this
  rw [this];rfl)
 exact ⟨g,0,h.1,h.2,rfl,by simpa using hc,ho.rd,hl l (List.mem_of_getElem? hi)⟩
theorem OwnN.rdN {w:World} {B c:Nat} {A:Option Addr} {g:Sg.Graph} {hs:List (Option Addr × Nat)} (k:OwnN w B A c g hs) (hb:g.length≤1048576) (hl:∀ n ∈ g,n.f.length≤1048576):RdN w A g:=by
 refine ⟨hb,fun i n hi=>?_⟩
 obtain ⟨h,hh,ho⟩:=k.at_ (nodeIts_at hi)
 have hil:=(List.getElem?_eq_some_iff.1 hi).1
 have hout:=k.out
 obtain ⟨g0,rfl,_⟩:=hout.at_ (by simp;omega)
 have hc0:=hout.cell (j:=i * 2 + 0) (u := .int .i64 n.kind) (by rw [at_dcells (nodeIts_pre g) i 0 (by omega) (nodeIts_at hi) hh];rfl)
 have hc1:=hout.cell (j:=i * 2 + 1) (u := .slice h.1 n.f.length h.2) (by rw [at_dcells (nodeIts_pre g) i 1 (by omega) (nodeIts_at hi) hh];rfl)
 exact ⟨g0,0,h.1,h.2,rfl,by simpa using hc0,by simpa using hc1,ho.rd,hl n (List.mem_of_getElem? hi)⟩
end Go.Proofs.YtgojnefiephafaaGreat
namespace Go.Proofs.YtgojnefiephafaaGreat
open Go.RowKit
theorem Mod.set {F:Nat→Prop} {w w':World} (h:Mod F w w') {p:Addr} (hp:F p.block∨w.heap.size≤p.block) (u:Value):Mod F w (w'.setCell p u) :=
 ⟨h.os,h.tape,h.output,by simpa [World.setCell] using h.size,fun b hb hn=>(Below.heap_setCell w' p u b (by rintro rfl;rcases hp with hp | hp;exact hn hp;omega)).trans (h.block b hb hn)⟩
theorem Mod.dr {F:Nat→Prop} {w w':World} (h:Mod F w w'):Mod F w w'.drew:=⟨h.os,h.tape,h.output,h.size,h.block⟩
theorem Mod.al {F:Nat→Prop} {w w':World} (h:Mod F w w') (o:Obj):Mod F w (w'.alloc o):=h.tr' (Mod.of ((Ext.rfl' w').al o))
theorem Ext.md {a w w':World} {F:Nat→Prop} (h:Ext a w) (m:Mod F w w') (hF:∀ b,F b→a.heap.size≤b):Ext a w' :=
 ⟨m.os.trans h.os,m.tape.trans h.tape,m.output.trans h.output,Nat.le_trans h.size m.size,fun b hb=>(m.block b (Nat.lt_of_lt_of_le hb h.size) (fun e=>by have:=hF b e;omega)).trans (h.block b hb)⟩
theorem dcells_same {its:List It} {hs:List (Option Addr × Nat)} {j:Nat} {it it':It} (hi:its[j]? = some it) (hp:it'.pre=it.pre) (hn:it'.n=it.n):dcells (its.set j it') hs=dcells its hs:=by
 induction its generalizing hs j with
 | nil=>simp at hi
 | cons x its ih =>
  cases hs with
  | nil=>rw [dcells_nil,dcells_nil]
  | cons h hs =>
   cases j with
   | zero =>
    simp at hi
    subst hi
    simp [dcells,itc,hp,hn]
   | succ j =>
    simp only [List.set_cons_succ,dcells]
    rw [ih (by simpa using hi)]
theorem dcells_pre {its:List It} {hs:List (Option Addr × Nat)} {j:Nat} {it it':It} {x y:Value} (ha:∀ i ∈ its,i.pre.length + 1=2) (hj:j<hs.length) (hi:its[j]? = some it) (hp:it.pre=[x]) (hp':it'.pre=[y]) (hn:it'.n=it.n) :
  (dcells its hs).set (j * 2) y=dcells (its.set j it') hs:=by
 induction its generalizing hs j with
 | nil=>simp at hi
 | cons z its ih =>
  cases hs with
  | nil=>simp at hj
  | cons h hs =>
   cases j with
   | zero =>
    simp at hi
    subst hi
    simp [dcells,itc,hp,hp',hn]
   | succ j =>
    have hz:=ha z (by simp)
    simp only [List.set_cons_succ,dcells]
    rw [← ih (fun i hi=>ha i (by simp [hi])) (by simpa using hj) (by simpa using hi),List.set_append_right _ _ (by simp [itc];omega)]
    congr 2
    simp [itc]
    omega
theorem OwnD.upd {w w':World} {B eo so ei si c:Nat} {A:Option Addr} {its:List It} {hs:List (Option Addr × Nat)} (k:OwnD w B eo so ei si A c its hs) {j:Nat} {it':It} {h0:Option Addr × Nat} (hh:hs[j]? = some h0)
  (out':Own w' B eo so A its.length c (dcells (its.set j it') hs)) (own':Own w' B ei si h0.1 it'.n h0.2 it'.xs)
  (hk:∀ b,fpD A hs b→blk h0.1≠some b→blk A≠some b→w'.heap[b]? = w.heap[b]?):OwnD w' B eo so ei si A c (its.set j it') hs:=by
 refine ⟨by simpa using k.len,by simpa using out',fun i it h hi hhi=>?_,k.dis,k.dio⟩
 by_cases hij:i=j
 ·subst hij
  rw [hh] at hhi
  injection hhi with hhi
  subst hhi
  rw [List.getElem?_set_self (by rw [← k.len];exact (List.getElem?_eq_some_iff.1 hh).1)] at hi
  injection hi with hi
  subst hi
  exact own'
 ·rw [List.getElem?_set_ne (fun e=>hij e.symm)] at hi
  refine (k.inn i it h hi hhi).keep fun b hb=>hk b (.inr ⟨h,List.mem_of_getElem? hhi,hb⟩) (fun e=>?_) (fun e=>k.dio i h hhi b e hb)
  rcases Nat.lt_or_gt_of_ne hij with hlt | hgt
  ·exact k.dis i j h h0 hlt hhi hh b hb e
  ·exact k.dis j i h0 h hgt hh hhi b e hb
def num (k:Int) (n:Nat):List Int:=(List.range n).map fun (i:Nat)=>k + (i:Int)
@[simp] theorem length_num (k:Int) (n:Nat):(num k n).length=n:=by simp [num]
theorem num_succ (k:Int) (n:Nat):num k (n + 1)=num k n++[k + (n:Int)]:=by simp [num,List.range_succ]
theorem num_at (k:Int) (n i:Nat) (h:i<n):(num k n)[i]? = some (k + (i:Int)):=by simp [num,h]
def totL (ll:List (List Int)):Nat:=(ll.map List.length).sum
theorem totL_snoc (a:List (List Int)) (l:List Int):totL (a++[l])=totL a + l.length:=by simp [totL]
def numL:Int→List (List Int)→List (List Int)
 | _,[]=>[]
 | k,l :: r=>num k l.length :: numL (k + (l.length:Int)) r
@[simp] theorem length_numL (k:Int) (ll:List (List Int)):(numL k ll).length=ll.length:=by
 induction ll generalizing k with
 | nil=>rfl
 | cons l r ih=>simp [numL,ih]
theorem numL_snoc (k:Int) (a:List (List Int)) (l:List Int):numL k (a++[l])=numL k a++[num (k + (totL a:Int)) l.length]:=by
 induction a generalizing k with
 | nil=>simp [numL,totL]
 | cons x a ih =>
  simp only [List.cons_append,numL,ih]
  simp [totL,Int.add_assoc]
theorem numL_at (k:Int) (ll:List (List Int)) (j:Nat) (l:List Int) (h:ll[j]? = some l):(numL k ll)[j]? = some (num (k + (totL (ll.take j):Int)) l.length):=by
 induction ll generalizing k j with
 | nil=>simp at h
 | cons x r ih =>
  cases j with
  | zero =>
   simp at h
   subst h
   simp [numL,totL]
  | succ j =>
   simp only [List.getElem?_cons_succ] at h
   simp only [numL,List.getElem?_cons_succ,List.take_succ_cons]
   rw [ih _ j h]
   simp [totL,Int.add_assoc]
theorem numL_numL (k m:Int) (ll:List (List Int)):numL k (numL m ll)=numL k ll:=by
 induction ll generalizing k m with
 | nil=>rfl
 | cons l r ih=>simp [numL,ih]
theorem totL_numL (k:Int) (ll:List (List Int)):totL (numL k ll)=totL ll:=by
 induction ll generalizing k with
 | nil=>rfl
 | cons l r ih=>have:=ih (k + (l.length:Int));simp [totL,numL] at this ⊢;omega
theorem totL_take_le (ll:List (List Int)) (j:Nat):totL (ll.take j)≤totL ll:=by
 induction ll generalizing j with
 | nil=>simp
 | cons l r ih =>
  cases j with
  | zero=>simp [totL]
  | succ j=>have:=ih j;simp [totL] at this ⊢;omega
def numP (k:Int) (n:Nat):List Sg.Part:=(List.range n).map fun (i:Nat)=>⟨k + 5 * (i:Int),k + 5 * (i:Int) + 1,k + 5 * (i:Int) + 2,k + 5 * (i:Int) + 3,k + 5 * (i:Int) + 4⟩
@[simp] theorem length_numP (k:Int) (n:Nat):(numP k n).length=n:=by simp [numP]
theorem numP_succ (k:Int) (n:Nat):numP k (n + 1)=numP k n++[⟨k + 5 * (n:Int),k + 5 * (n:Int) + 1,k + 5 * (n:Int) + 2,k + 5 * (n:Int) + 3,k + 5 * (n:Int) + 4⟩]:=by simp [numP,List.range_succ]
theorem numP_at (k:Int) (n i:Nat) (h:i<n):(numP k n)[i]? = some ⟨k + 5 * (i:Int),k + 5 * (i:Int) + 1,k + 5 * (i:Int) + 2,k + 5 * (i:Int) + 3,k + 5 * (i:Int) + 4⟩:=by simp [numP,h]
def totN (g:Sg.Graph):Nat:=(g.map fun n=>1 + 5 * n.f.length).sum
theorem totN_snoc (a:Sg.Graph) (n:Sg.Node):totN (a++[n])=totN a + (1 + 5 * n.f.length):=by simp [totN]
theorem totN_take_le (g:Sg.Graph) (j:Nat):totN (g.take j)≤totN g:=by
 induction g generalizing j with
 | nil=>simp
 | cons l r ih =>
  cases j with
  | zero=>simp [totN]
  | succ j=>have:=ih j;simp [totN] at this ⊢;omega
def numN:Int→Sg.Graph→Sg.Graph
 | _,[]=>[]
 | k,n :: r=>⟨k,numP (k + 1) n.f.length⟩ :: numN (k + 1 + 5 * (n.f.length:Int)) r
@[simp] theorem length_numN (k:Int) (g:Sg.Graph):(numN k g).length=g.length:=by
 induction g generalizing k with
 | nil=>rfl
 | cons l r ih=>simp [numN,ih]
theorem numN_snoc (k:Int) (a:Sg.Graph) (n:Sg.Node):numN k (a++[n])=numN k a++[⟨k + (totN a:Int),numP (k + (totN a:Int) + 1) n.f.length⟩]:=by
 induction a generalizing k with
 | nil=>simp [numN,totN]
 | cons x a ih =>
  simp only [List.cons_append,numN,ih]
  have e:(totN (x :: a):Int)=1 + 5 * (x.f.length:Int) + (totN a:Int):=by simp [totN]
  rw [e]
  simp only [List.cons.injEq,true_and,List.append_cancel_left_eq,and_true]
  rw [show k + 1 + 5 * (x.f.length:Int) + (totN a:Int)=k + (1 + 5 * (x.f.length:Int) + (totN a:Int)) from by omega]
theorem set_mid {α:Type} (a r:List α) (j:Nat) (x y:α) (hj:a.length=j) (hr:r=x :: r.drop 1):(a++r).set j y=a++[y]++r.drop 1:=by
 rw [List.set_append_right _ _ (by omega),hj,Nat.sub_self]
 rw [hr]
 simp
end Go.Proofs.YtgojnefiephafaaGreat
namespace Go.Proofs.YtgojnefiephafaaGreat
open Go.RowKit
theorem held_appR {P:Program} {ops:Array Oper} {o:Oper} {a:Act} {w:World} {K:Act→World→Prop} {Q:Exit→Act→World→Prop} {E0:Prop} (hgd:o.guard=none) {s x:Operand} {t:TypeId}
  (ho:o.op = .call { callee := .builtin .append,args:=#[s,x],argTypes:=#[t,t] })
  {e size bytes:Nat} {z:Value} (E:EI P t e size bytes z) {B:Nat} {A:Option Addr} {n c:Nat} {xs:List Value} (hs:a.eval s = .slice A n c) (hown:Own w B e size A n c xs)
  {A2:Option Addr} {m c':Nat} {news:List Value} (hx:a.eval x = .slice A2 m c') (hr:Rd w size A2 m news) (h1:∀ u ∈ news,u.oneCell'=true)
  (h63:n + m≤maxLen) (hbytes:(n + m) * bytes≤140737488355328) (hbase:B≤w.heap.size)
  (h:∀ A' c'' w',Own w' B e size A' (n + m) c'' (xs++news)→w.grownBy w' (blk A)→(blk A'=blk A∨blk A'=some w.heap.size)→K (a.put o.dst (.slice A' (n + m) c'')) w') :
  if Region.wanted o (yielded ops a.tmps)=true then Oper.wp P o a w K Q else E0:=by
 have hw:Region.wanted o (yielded ops a.tmps)=true:=by simp [Region.wanted,hgd]
 rw [if_pos hw]
 obtain ⟨A',c'',w',hrun,h2,h3,h4⟩:=run_appR (P:=P) w (ty:=o.type) E hown (c':=c') hr h1 h63 hbytes hbase
 unfold Oper.wp execOp
 simp only [ho,resolve,invoke,builtin,Sem.run_bind,Sem.run_pure,Result.andThen_ok,List.map_toArray,List.map_cons,List.map_nil,hs,hx,hrun]
 exact h A' c'' w' h2 h3 h4
theorem held_app1 {P:Program} {ops:Array Oper} {o:Oper} {a:Act} {w:World} {K:Act→World→Prop} {Q:Exit→Act→World→Prop} {E0:Prop} (hgd:o.guard=none) {s x:Operand} {t:TypeId}
  (ho:o.op = .call { callee := .builtin .append,args:=#[s,x],argTypes:=#[t,t] })
  {e size bytes:Nat} {z:Value} (E:EI P t e size bytes z) {B:Nat} {A:Option Addr} {n c:Nat} {xs:List Value} (hs:a.eval s = .slice A n c) (hown:Own w B e size A n c xs)
  {cs:List Value} (hx:a.eval x = .slice (some ⟨w.heap.size,0,none⟩) 1 1) (hl:cs.length=size) (h1:∀ u ∈ cs,u.oneCell'=true)
  (h63:n + 1≤1099511627776) (hbytes:bytes≤64) (hbase:B≤w.heap.size)
  (h:∀ A' c'' w',Own w' B e size A' (n + 1) c'' (xs++cs)→w.grownBy w' (blk A)→(blk A'=blk A∨∃ g,blk A'=some g∧w.heap.size≤g)→K (a.put o.dst (.slice A' (n + 1) c'')) w') :
  if Region.wanted o (yielded ops a.tmps)=true then Oper.wp P o a (w.alloc (.cells cs.toArray e)) K Q else E0:=by
 have hrd:Rd (w.alloc (.cells cs.toArray e)) size (some ⟨w.heap.size,0,none⟩) 1 cs:=by
  have:=(Own.new w (B:=B) e size cs.toArray 1 hbase (by unfold maxLen;omega) (by simpa using hl)).rd
  simpa using this
 refine held_appR hgd ho E hs (hown.al _) hx hrd h1 (by unfold maxLen;omega) ?_ (by simp;omega) ?_
 ·refine Nat.le_trans (Nat.mul_le_mul h63 hbytes) (by omega)
 ·intro A' c'' w' h2 h3 h4
  refine h A' c'' w' h2 ?_ ?_
  ·refine ⟨h3.os,h3.tape,h3.output,Nat.le_trans (by simp) h3.size,fun k hk hne=>?_⟩
   exact (h3.block k (by simp;omega) hne).trans (heap_alloc_old w _ hk)
  ·rcases h4 with h4 | h4
   ·exact .inl h4
   ·exact .inr ⟨_,h4,by simp⟩
theorem held_mk {P:Program} {ops:Array Oper} {o:Oper} {a:Act} {w:World} {K:Act→World→Prop} {Q:Exit→Act→World→Prop} {E0:Prop} (hgd:o.guard=none) {l c:Operand} {t:TypeId}
  (ho:o.op=Op.makeSlice t l c) {e size bytes:Nat} {z:Value} (E:EI P t e size bytes z) {B:Nat} {n:Nat} (hl:a.eval l = .int .i64 (n:Int)) (hc:a.eval c = .int .i64 (n:Int))
  (hb:n≤1099511627776) (hbytes:bytes≤64) (hbase:B≤w.heap.size)
  (h:∀ w',Own w' B e size (some ⟨w.heap.size,0,none⟩) n n (madeCells z.cells (n * size)).toList→Ext w w'→K (a.put o.dst (.slice (some ⟨w.heap.size,0,none⟩) n n)) w') :
  if Region.wanted o (yielded ops a.tmps)=true then Oper.wp P o a w K Q else E0:=by
 have hw:Region.wanted o (yielded ops a.tmps)=true:=by simp [Region.wanted,hgd]
 rw [if_pos hw]
 obtain ⟨i,hi,hz,hsize,hby⟩:=info_parts E.hi
 subst hsize
 have hrun:=run_make (P:=P) w t e i z E.ht hi hz .i64 .i64 (n:Int) (n:Int) (by omega) (by omega) (by
  have h1:i.bytes * n≤64 * 1099511627776:=Nat.mul_le_mul (by rw [hby];exact hbytes) hb
  have h2:((i.bytes * n:Nat):Int)≤281474976710656:=by omega
  rwa [Int.natCast_mul] at h2) (by omega)
 simp only [Int.toNat_natCast] at hrun
 have hown:=Own.new w (B:=B) e i.size (madeCells z.cells (n * i.size)) n hbase (by unfold maxLen;omega) (by simp [size_madeCells])
 unfold Oper.wp
 simp [execOp,ho,hl,hc,hrun,Result.andThen]
 exact h _ hown ((Ext.rfl' w).al _)
theorem held_mkb {P:Program} {ops:Array Oper} {o:Oper} {a:Act} {w:World} {K:Act→World→Prop} {Q:Exit→Act→World→Prop} {E0:Prop} (hgd:o.guard=none) {l c:Operand} {t:TypeId}
  (ho:o.op=Op.makeSlice t l c) {e size bytes:Nat} {z:Value} (E:EI P t e size bytes z) {B:Nat} {n:Nat} (hl:a.eval l = .int .i64 (n:Int)) (hc:a.eval c = .int .i64 (n:Int))
  (hb:n≤1099511627776) (hbytes:bytes≤64) (hbase:B≤w.heap.size)
  (h:∀ (b:Nat) w',b=w.heap.size→Own w' B e size (some ⟨b,0,none⟩) n n (madeCells z.cells (n * size)).toList→Ext w w'→K (a.put o.dst (.slice (some ⟨b,0,none⟩) n n)) w') :
  if Region.wanted o (yielded ops a.tmps)=true then Oper.wp P o a w K Q else E0 :=
 held_mk hgd ho E hl hc hb hbytes hbase fun w' h1 h2=>h _ w' rfl h1 h2
theorem InnD.mono {w:World} {B B' ei si o:Nat} {its:List It} {hs:List (Option Addr × Nat)} (k:InnD w B ei si o its hs) (h:B'≤B):InnD w B' ei si o its hs:=⟨k.len,fun i it x hi hx=>(k.inn i it x hi hx).mono h,k.dis,k.dio⟩
theorem InnD.below {w:World} {B ei si o:Nat} {its:List It} {hs:List (Option Addr × Nat)} (k:InnD w B ei si o its hs) {p:Addr} (hp:p.block<B) (u:Value):InnD (w.setCell p u) B ei si o its hs :=
 k.fr fun b hb _ _=>Below.heap_setCell _ _ _ _ (fun e=>by omega)
theorem ints_put (a b:List Int) (k:Nat) (x y:Int) (h:a.length=k):(ints (a++y :: b)).set k (.int .i64 x)=ints (a++[x]++b):=by
 rw [ints_set,List.set_append_right _ _ (by omega),h,Nat.sub_self];simp
theorem dcells_app {its:List It} {hs:List (Option Addr × Nat)} (it:It) (h:Option Addr × Nat) (hl:hs.length=its.length):dcells (its++[it]) (hs++[h])=dcells its hs++itc it h:=by
 induction its generalizing hs with
 | nil =>
  obtain rfl:hs=[]:=List.eq_nil_of_length_eq_zero (by simpa using hl)
  simp [dcells]
 | cons x its ih =>
  cases hs with
  | nil=>simp at hl
  | cons y hs =>
   simp only [List.cons_append,dcells,List.append_assoc]
   rw [ih (by simpa using hl)]
theorem grown_cell {w w':World} {row:Option Nat} (hg:w.grownBy w' row) {b o:Nat} {u:Value} (h:w.cell? ⟨b,o,none⟩=some u) (hne:row≠some b):w'.cell? ⟨b,o,none⟩=some u :=
 (World.cell?_of_block (a:=⟨b,o,none⟩) (hg.block b (blt h) (fun e=>hne e.symm))).trans h
theorem grown_free {w w':World} {row:Option Nat} (hg:w.grownBy w' row) {b o:Nat} (hb:b<w.heap.size) (h:w.frozen? ⟨b,o,none⟩=false) (hne:row≠some b):w'.frozen? ⟨b,o,none⟩=false:=by
 have hh:=hg.block b hb (fun e=>hne e.symm)
 unfold World.frozen? at h ⊢
 simp only [hh]
 exact h
theorem OwnD.snoc {w w1 w2:World} {B eo so ei si c c':Nat} {A A':Option Addr} {its:List It} {hs:List (Option Addr × Nat)} (k:OwnD w B eo so ei si A c its hs) (e:Ext w w1) (hB:B≤w.heap.size) {it:It} {A0:Option Addr} {c0:Nat}
  (own:Own w1 w.heap.size ei si A0 it.n c0 it.xs) (out:Own w2 B eo so A' (its.length + 1) c' (dcells its hs++itc it (A0,c0))) (hg:w1.grownBy w2 (blk A)) (hat:blk A'=blk A∨∃ g,blk A'=some g∧w1.heap.size≤g) :
  OwnD w2 B eo so ei si A' c' (its++[it]) (hs++[(A0,c0)]):=by
 have hAlt:∀ b,blk A=some b→b<w.heap.size:=fun b hb=>(k.out.lt hb).2
 have key:∀ (i:Nat) (h:Option Addr × Nat),(hs++[(A0,c0)])[i]? = some h→(i<hs.length∧hs[i]? = some h)∨(i=hs.length∧h=(A0,c0)):=by
  intro i h hh
  by_cases hik:i<hs.length
  ·rw [List.getElem?_append_left hik] at hh
   exact .inl ⟨hik,hh⟩
  ·have h1:=(List.getElem?_eq_some_iff.1 hh).1
   simp at h1
   obtain rfl:i=hs.length:=by omega
   rw [List.getElem?_append_right (Nat.le_refl _)] at hh
   simp at hh
   exact .inr ⟨rfl,hh.symm⟩
 have old:∀ (i:Nat) (h:Option Addr × Nat),hs[i]? = some h→∀ b,blk h.1=some b→b<w.heap.size:=fun i h hh b hb=>(k.lt (.inr ⟨h,List.mem_of_getElem? hh,hb⟩)).2
 refine ⟨by simp [k.len],by simpa [dcells_app _ _ k.len] using out,?_,?_,?_⟩
 ·intro i it' h hi hh
  rcases key i h hh with ⟨hik,hh⟩ | ⟨rfl,rfl⟩
  ·rw [List.getElem?_append_left (by rw [← k.len];exact hik)] at hi
   have o1:=(k.inn i it' h hi hh).ext e
   exact o1.keep fun b hb=>hg.block b (o1.lt hb).2 (fun e=>k.dio i h hh b e.symm hb)
  ·rw [List.getElem?_append_right (by rw [k.len];exact Nat.le_refl _),k.len,Nat.sub_self] at hi
   simp at hi
   subst hi
   refine (own.keep fun b hb=>hg.block b (own.lt hb).2 (fun e=>?_)).mono hB
   have h1:=(own.lt hb).1
   have h2:=hAlt b e.symm
   omega
 ·intro i j h h' hij hh hh' b hb hb'
  rcases key i h hh with ⟨_,hh⟩ | ⟨rfl,rfl⟩
  ·rcases key j h' hh' with ⟨_,hh'⟩ | ⟨rfl,rfl⟩
   ·exact k.dis i j h h' hij hh hh' b hb hb'
   ·have h1:=old i h hh b hb
    have h2:=(own.lt hb').1
    omega
  ·have:=(List.getElem?_eq_some_iff.1 hh').1
   simp at this
   omega
 ·intro i h hh b hb hb'
  rcases hat with hat | ⟨g,hg',hle⟩
  ·rw [hat] at hb
   rcases key i h hh with ⟨_,hh⟩ | ⟨rfl,rfl⟩
   ·exact k.dio i h hh b hb hb'
   ·have h1:=hAlt b hb
    have h2:=(own.lt hb').1
    omega
  ·rw [hg'] at hb
   injection hb with hb
   subst hb
   rcases key i h hh with ⟨_,hh⟩ | ⟨rfl,rfl⟩
   ·have h1:=old i h hh g hb'
    have h2:=e.size
    omega
   ·have h1:=(own.lt hb').2
    omega
theorem OwnD.nil (w:World) (B eo so ei si:Nat):OwnD w B eo so ei si none 0 [] []:=⟨rfl,by simpa [dcells] using Own.nil w B eo so,by simp,by simp,by simp⟩
end Go.Proofs.YtgojnefiephafaaGreat
