/- Parts of one proof, joined. Lazy states of a valid graph are small. Conditions: those of the statements. What the lazy machine's functions return is small. Conditions: none. The plain laws of the lazy machine: what is read is what is meant. No program in sight. Conditions: none. What writing and forgetting return is small. Conditions: none. -/
import Derived.Test.YtgojnefiephafaaGreatMarksC
import Derived.Test.YtgojnefiephafaaGreatLazFour
namespace Go.Proofs.YtgojnefiephafaaGreat
open Go.RowKit
end Go.Proofs.YtgojnefiephafaaGreat
namespace Go.Proofs.YtgojnefiephafaaGreat
open Go.RowKit
end Go.Proofs.YtgojnefiephafaaGreat
namespace Sg
theorem clean_mean {g:Graph} {st:Lazy} (h:validL g st=true):∀ (m j:Nat),j<m→j<g.length→st.cols.getD j 0=0→(mean g (cellsOf g st.vals)).getD j 0=st.vals.getD j 0:=by
 obtain ⟨hs,hC⟩:=validL_iff.1 h;have hA:=ahead_of h;intro m;induction m with
 | zero=>intro j hj;omega
 | succ m ih =>
  intro j hjm hj hc;have hn:g[j]? = some g[j]:=List.getElem?_eq_getElem hj;have hk:=hC j _ hn;rw [mean_atN _ hn];by_cases h0:g[j].kind=0
  ·rw [if_pos h0,cellsOf_at _ _ _ (by omega),getD_of hn,if_neg (fun e=>e h0)]
  ·rw [if_neg h0];rcases hk.form h0 with ⟨h2,_⟩ | ⟨h2,_⟩ | ⟨_,hR,hr⟩
   ·omega
   ·omega
   ·have:runF g[j].f st.vals=runF g[j].f (meanTo g (cellsOf g st.vals) j):=by
     refine runF_same fun x hx=>?_;rw [hR] at hx;have hxa:=hA j x hx;unfold rd;rw [← meanTo_getD g _ j g.length x.toNat (by omega) (by omega)];exact (ih x.toNat (by omega) (by omega) (hr x hx)).symm
    rw [← this,hR]
theorem lazy_cellsC {g:Graph} {st:Lazy} (h:validL g st=true):validC g (cellsOf g st.vals)=true:=by
 obtain ⟨hs,hC⟩:=validL_iff.1 h;refine validC_mk (by rw [length_cellsOf];exact hs.2.1) fun i n hn=>?_;have hi:=(List.getElem?_eq_some_iff.1 hn).1;rw [cellsOf_at _ _ _ (by omega),getD_of hn];by_cases h0:n.kind=0
 ·rw [if_neg (fun e=>e h0)];exact ⟨inR999_at hs.2.2.2.2 (by omega),fun e=>absurd h0 e⟩
 ·rw [if_pos h0];exact ⟨by omega,fun _=>rfl⟩
theorem cells_same {g:Graph} {a b:List Int} (ha:a.length=g.length) (hb:b.length=g.length) (h:∀ i n,g[i]? = some n→n.kind=0→a.getD i 0=b.getD i 0):cellsOf g a=cellsOf g b:=by
 refine ext0 (by rw [length_cellsOf,length_cellsOf];omega) fun i hi=>?_;rw [length_cellsOf] at hi;have hn:g[i]? = some g[i]:=List.getElem?_eq_getElem (by omega);rw [cellsOf_at _ _ _ hi,cellsOf_at _ _ _ (by omega),getD_of hn];by_cases h0:g[i].kind=0
 ·rw [if_neg (fun e=>e h0),if_neg (fun e=>e h0)];exact h i _ hn h0
 ·rw [if_pos h0,if_pos h0]
theorem cleaned_cells {g:Graph} {N:Nat→Prop} {s s':LR} (hs:validL g s.st=true) (h:Cleaned g N s s'):cellsOf g s'.st.vals=cellsOf g s.st.vals:=by
 have h1:=(validL_shape hs).2.1;have h2:=(validL_shape h.ok).2.1;refine cells_same h2 h1 fun i n hn h0=>?_;have hi:=(List.getElem?_eq_some_iff.1 hn).1;exact (h.keep i hi (((validL_iff.1 hs).2 i n hn).cell h0).1).2.1
theorem inR_iff {n:Int} {L:Nat}:inR n 0 ((L:Int) - 1)=true↔∃ k:Nat,n=k∧k<L:=by
 unfold inR;simp only [Bool.and_eq_true,decide_eq_true_eq];constructor
 ·rintro ⟨h1,h2⟩;obtain ⟨k,rfl⟩:=Int.eq_ofNat_of_zero_le h1;exact ⟨k,rfl,by omega⟩
 ·rintro ⟨k,rfl,hk⟩;omega
theorem writeL_vals {g:Graph} {st:Lazy} (_h:validL g st=true) {k:Nat} (hk:k<st.vals.length) (x:Int):(writeL st k x).vals=st.vals.set k x:=by
 unfold writeL;split
 ·rename_i e
  refine (List.ext_getElem? fun j=>?_).symm;rw [List.getElem?_set];split
  ·rename_i e2
   subst e2;try rw [if_pos hk]
   rw [← e,List.getD_eq_getElem?_getD,List.getElem?_eq_getElem hk];rfl
  ·rfl
 ·rfl
theorem readsL_clean {g:Graph} (l:List Int):∀ (s:LR),validL g s.st=true→(∀ x ∈ l,∃ k:Nat,x=k∧k<g.length) →
  Cleaned g (fun _=>True) s (readsL g l s)∧∀ x ∈ l,colOf (readsL g l s) x.toNat=0:=by
 induction l with
 | nil=>intro s hs _;exact ⟨Cleaned.refl hs,by simp⟩
 | cons x l ih =>
  intro s hs hl;obtain ⟨k,rfl,hk⟩:=hl x (by simp);have hG:=(validL_shape hs).1;have h10:=validG_len10 hG;obtain ⟨a1,a2⟩:=cleanS_cleaned hG 10 k s (by omega) hk hs;obtain ⟨b1,b2⟩:=ih (cleanS g 10 k s) a1.ok (fun y hy=>hl y (by simp [hy]));have e:readsL g ((k:Int) :: l) s=readsL g l (cleanS g 10 k s):=rfl;rw [e];refine ⟨Cleaned.trans hs (a1.mono fun _ _=>trivial) b1,fun y hy=>?_⟩;rcases List.mem_cons.1 hy with rfl | hy
  ·rw [Int.toNat_natCast];exact (b1.keep k hk a2).1
  ·exact b2 y hy
end Sg
namespace Go.Proofs.YtgojnefiephafaaGreat
open Go.RowKit
end Go.Proofs.YtgojnefiephafaaGreat
