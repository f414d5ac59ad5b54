/- Texts of graphs in plain Lean: the graph that is read back means the same. No program in sight. Conditions: in the theorems. -/
import Derived.Test.YtdnlpklmihoapaaDoorPlY
namespace Sg
open Go
/-- the value of a tree, and what is read for it, in order -/
def evT (vals : List Int) : Tr → Int × List Int
 | .leaf k n => if k = 0 then (n, []) else (rd vals n, [n])
 | .bin k x y => (joined k (evT vals x).1 (evT vals y).1, (evT vals x).2 ++ (evT vals y).2)
 | .ite x y z => let r := if (evT vals x).1 = 0 then evT vals z else evT vals y; (r.1, (evT vals x).2 ++ r.2)
theorem reck_tree {f : List Part} (hf : Goods f) (vals : List Int) : ∀ (k : Nat) (i : Int), 0 ≤ i → i < f.length → i < k → reck f vals k i = evT vals (treeOf f k i)
 | 0, i, h0, _, h => by omega
 | k + 1, i, h0, hl, h => by
  obtain ⟨j, p, rfl, hp, hd⟩ := getD_part h0 hl
  unfold reck treeOf
  simp only [hd]
  rcases part_cases hf hp with ⟨h8, hn, ha, hb, hc⟩ | ⟨h2, h7, hn, hc, ha, hb⟩ | ⟨hk, ha, hb, hc⟩
  ·rw [if_neg (by omega), if_neg (by omega), if_pos h8, if_pos h8]
   rw [reck_tree hf vals k p.a ha.1 (by omega) (by omega)]
   simp only [evT]
   split
   ·rw [reck_tree hf vals k p.c hc.1 (by omega) (by omega)]
   ·rw [reck_tree hf vals k p.b hb.1 (by omega) (by omega)]
  ·rw [if_neg (by omega), if_neg (by omega), if_neg (by omega), if_neg (by omega), if_pos ⟨h2, h7⟩]
   rw [reck_tree hf vals k p.a ha.1 (by omega) (by omega), reck_tree hf vals k p.b hb.1 (by omega) (by omega)]
   rfl
  ·have e8 : ¬ p.kind = 8 := by omega
   have e27 : ¬ (2 ≤ p.kind ∧ p.kind ≤ 7) := by omega
   rcases hk with ⟨h0, -⟩ | ⟨h1, -⟩
   ·simp only [if_pos h0, if_neg e8, if_neg e27, evT]
   ·have e0 : ¬ p.kind = 0 := by omega
    simp only [if_neg e0, if_pos h1, if_neg e8, if_neg e27, evT]
theorem run_order {f : List Part} (h : validF f = true) (vals : List Int) : runF (orderF f) vals = runF f vals := by
 have hg := order_tree h
 have hs := tree_size h
 have hl := validF_len h
 have ho := order_flat h
 have hv : validF (orderF f) = true := by rw [ho]; exact flat_valid hg (by omega)
 unfold runF
 rw [reck_tree (validF_goods h) vals _ _ (by omega) (by omega) (by omega)]
 have hl2 := validF_len hv
 rw [reck_tree (validF_goods hv) vals _ _ (by omega) (by omega) (by omega)]
 rw [ho]
 generalize treeOf f f.length ((f.length : Int) - 1) = t at *
 have := tree_flat t 0 (flat t 0).length (flat t 0) t.size hg (by simp) (by omega) (fun j p hj => by simpa using hj) (by simp)
 rw [Nat.zero_add] at this
 rw [show (((flat t 0).length : Nat) : Int) - 1 = (t.size : Int) - 1 by simp, this]
/-- what a tree reads stands in the formula -/
theorem tree_reads {f : List Part} (hf : Goods f) : ∀ (k : Nat) (i : Int) (b : Nat), 0 ≤ i → i < f.length → i < k → ∀ p ∈ flat (treeOf f k i) b, p.kind = 1 → ∃ q ∈ f, q.kind = 1 ∧ q.n = p.n
 | 0, i, b, h0, _, h => by omega
 | k + 1, i, b, h0, hl, h => by
  obtain ⟨j, q, rfl, hq, hd⟩ := getD_part h0 hl
  unfold treeOf
  simp only [hd]
  intro p hp hk1
  rcases part_cases hf hq with ⟨h8, hn, ha, hb, hc⟩ | ⟨h2, h7, hn, hc, ha, hb⟩ | ⟨hk, ha, hb, hc⟩
  ·rw [if_pos h8] at hp
   simp only [flat, List.mem_append, List.mem_singleton] at hp
   rcases hp with hp | hp | hp | rfl
   ·exact tree_reads hf k q.a _ ha.1 (by omega) (by omega) p hp hk1
   ·exact tree_reads hf k q.b _ hb.1 (by omega) (by omega) p hp hk1
   ·exact tree_reads hf k q.c _ hc.1 (by omega) (by omega) p hp hk1
   ·exact absurd hk1 (show ¬ (8 : Int) = 1 by decide)
  ·rw [if_neg (by omega), if_pos ⟨h2, h7⟩] at hp
   simp only [flat, List.mem_append, List.mem_singleton] at hp
   rcases hp with hp | hp | rfl
   ·exact tree_reads hf k q.a _ ha.1 (by omega) (by omega) p hp hk1
   ·exact tree_reads hf k q.b _ hb.1 (by omega) (by omega) p hp hk1
   ·simp only at hk1
    omega
  ·rw [if_neg (by omega), if_neg (by omega), flat, List.mem_singleton] at hp
   subst hp
   exact ⟨q, List.mem_of_getElem? hq, hk1, rfl⟩
theorem order_mayRead {f : List Part} (h : validF f = true) {x : Int} (hx : x ∈ mayRead (orderF f)) : x ∈ mayRead f := by
 have hl := validF_len h
 unfold mayRead at hx ⊢
 rw [List.mem_filter] at hx ⊢
 refine ⟨hx.1, ?_⟩
 have h2 := hx.2
 unfold hasRead at h2 ⊢
 rw [List.any_eq_true] at h2 ⊢
 obtain ⟨p, hp, hc⟩ := h2
 simp only [Bool.and_eq_true, beq_iff_eq] at hc
 rw [order_flat h] at hp
 obtain ⟨q, hq, hq1, hq2⟩ := tree_reads (validF_goods h) _ _ _ (by omega) (by omega) (by omega) p hp hc.1
 exact ⟨q, hq, by simp [hq1, hq2, hc.2]⟩
def orderN (n : Node) : Node := ⟨n.kind, if n.kind = 0 then n.f else orderF n.f⟩
def orderG (g : Graph) : Graph := g.map orderN
theorem orderG_len (g : Graph) : (orderG g).length = g.length := by simp [orderG]
theorem orderG_at (g : Graph) (i : Nat) : (orderG g).getD i default = orderN (g.getD i default) := by
 unfold orderG
 rw [List.getD_eq_getElem?_getD, List.getD_eq_getElem?_getD, List.getElem?_map]
 cases g[i]? with
 | none => rfl
 | some n => rfl
theorem orderG_kind (g : Graph) (x : Int) : kindAt (orderG g) x = kindAt g x := by
 unfold kindAt
 rw [orderG_at]
 rfl
theorem node_cases {g : Graph} (h : validG g = true) {i : Nat} {n : Node} (hn : g[i]? = some n) : (n.kind = 0 ∧ n.f = []) ∨ ((n.kind = 1 ∨ n.kind = 2) ∧ validF n.f = true) := by
 have hi := (List.getElem?_eq_some_iff.1 hn).1
 have hgn := validG_node h i hi
 unfold goodNode at hgn
 rw [List.getD_eq_getElem?_getD, hn] at hgn
 simp only [Option.getD_some] at hgn
 split at hgn
 ·rename_i h0
  exact .inl ⟨h0, by simpa using hgn⟩
 ·split at hgn
  ·rename_i h12
   rw [Bool.and_eq_true] at hgn
   exact .inr ⟨h12, hgn.1⟩
  ·cases hgn
theorem orderG_valid {g : Graph} (h : validG g = true) : validG (orderG g) = true := by
 have hlen : g.length ≤ 10 := by
  unfold validG at h
  simp only [Bool.and_eq_true, decide_eq_true_eq] at h
  exact h.2
 unfold validG
 rw [orderG_len, Bool.and_eq_true, List.all_eq_true, decide_eq_true_eq]
 refine ⟨fun i hi => ?_, hlen⟩
 have hi := List.mem_range.1 hi
 have hn : g[i]? = some g[i] := List.getElem?_eq_getElem hi
 have hgn := validG_node h i hi
 generalize g[i] = n at hn
 have hd : g.getD i default = n := by simp [hn]
 unfold goodNode at hgn ⊢
 rw [orderG_at, hd]
 rw [hd] at hgn
 simp only at hgn ⊢
 rcases node_cases h hn with ⟨h0, hf⟩ | ⟨h12, hv⟩
 ·unfold orderN
  simp only
  rw [if_pos h0, if_pos h0, hf]
  rfl
 ·have hk0 : ¬ n.kind = 0 := by omega
  rw [if_neg hk0, if_pos h12, Bool.and_eq_true] at hgn
  have ho := order_flat hv
  have hs := tree_size hv
  have hl := validF_len hv
  unfold orderN
  simp only
  rw [if_neg hk0, if_pos h12, if_neg hk0, Bool.and_eq_true]
  refine ⟨by rw [ho]; exact flat_valid (order_tree hv) (by omega), ?_⟩
  have h2 := hgn.2
  unfold goodReads at h2 ⊢
  rw [hd, List.all_eq_true] at h2
  rw [orderG_at, hd, List.all_eq_true]
  intro x hx
  unfold orderN at hx
  simp only at hx
  rw [if_neg hk0] at hx
  have := h2 x (order_mayRead hv hx)
  unfold goodRead at this ⊢
  rw [orderG_kind]
  exact this
theorem orderG_cells {g : Graph} {c : List Int} : validC (orderG g) c = validC g c := by
 unfold validC cellOk
 rw [orderG_len]
 simp only [orderG_kind]
theorem orderG_mean {g : Graph} (h : validG g = true) (c : List Int) : mean (orderG g) c = mean g c := by
 unfold mean
 rw [orderG_len]
 have key : ∀ k, k ≤ g.length → meanTo (orderG g) c k = meanTo g c k := by
  intro k
  induction k with
  | zero => intro _; rfl
  | succ k ih =>
   intro hk
   unfold meanTo
   rw [ih (by omega)]
   congr 2
   have hn : g[k]? = some g[k] := List.getElem?_eq_getElem (by omega)
   generalize g[k] = n at hn
   have hd : g.getD k default = n := by simp [hn]
   unfold valAt
   rw [orderG_at, hd]
   unfold orderN
   simp only
   rcases node_cases h hn with ⟨h0, hf⟩ | ⟨h12, hv⟩
   ·rw [if_pos h0, if_pos h0]
   ·have hk0 : ¬ n.kind = 0 := by omega
    rw [if_neg hk0, if_neg hk0, if_neg hk0, run_order hv]
 exact key _ (Nat.le_refl _)
theorem fmt_order {f : List Part} (h : validF f = true) : fmtF (orderF f) = fmtF f := by
 have hg := order_tree h
 have hs := tree_size h
 have hl := validF_len h
 have e : fmtF f = joinC 32 ((orderF f).map partT) := by unfold fmtF; rw [if_pos h]
 rw [e, order_flat h]
 exact fmt_tree hg (by omega)
theorem line_order {g : Graph} (h : validG g = true) {i : Nat} {n : Node} (hn : g[i]? = some n) (x : Int) : lineT (orderN n) x = lineT n x := by
 unfold lineT orderN
 simp only
 rcases node_cases h hn with ⟨h0, hf⟩ | ⟨h12, hv⟩
 ·rw [if_pos h0, if_pos h0]
 ·have hk0 : ¬ n.kind = 0 := by omega
  rw [if_neg hk0, if_neg hk0, if_neg hk0, fmt_order hv]
theorem lines_order {g : Graph} (h : validG g = true) (c : List Int) : linesT (orderG g) c = linesT g c := by
 have key : ∀ (k : Nat) (c : List Int), linesT (orderG (g.drop k)) c = linesT (g.drop k) c := by
  intro k
  induction hm : g.length - k generalizing k with
  | zero =>
   intro c
   rw [List.drop_eq_nil_of_le (by omega)]
   rfl
  | succ m ih =>
   intro c
   have hk : k < g.length := by omega
   rw [List.drop_eq_getElem_cons hk]
   cases c with
   | nil => rfl
   | cons x c =>
    show lineT (orderN g[k]) x ++ 10 :: linesT (orderG (g.drop (k + 1))) c = _
    rw [line_order h (List.getElem?_eq_getElem hk), ih (k + 1) (by omega)]
    rfl
 have := key 0 c
 simpa using this
theorem fmtG_order {g : Graph} (h : validG g = true) (c : List Int) : fmtG (orderG g) c = fmtG g c := by
 unfold fmtG
 rw [orderG_valid h, orderG_cells, lines_order h, h]
/-- the text of a formula holds no newline -/
theorem fmt_free {f : List Part} (h : validF f = true) : (10 : UInt8) ∉ fmtF f := by
 have hg := order_tree h
 have hw : ∀ p ∈ (orderF f).map partT, (10 : UInt8) ∉ p := fun p hp => by
  obtain ⟨q, hq, rfl⟩ := List.mem_map.1 hp
  rw [order_flat h] at hq
  exact (partT_free q (flat_kinds _ 0 hg.fine q hq)).2
 unfold fmtF
 rw [if_pos h]
 generalize (orderF f).map partT = ls at hw
 induction ls with
 | nil => show (10 : UInt8) ∉ ([] : Txt); simp
 | cons p ls ih =>
  cases ls with
  | nil => rw [joinC_one]; exact hw p (by simp)
  | cons q ls =>
   rw [joinC_cons, List.mem_append, List.mem_cons]
   rintro (e | e | e)
   ·exact hw p (by simp) e
   ·revert e; decide
   ·exact ih (fun r hr => hw r (by simp [hr])) e
theorem line_free {g : Graph} (h : validG g = true) {i : Nat} {n : Node} (hn : g[i]? = some n) (x : Int) : (10 : UInt8) ∉ lineT n x := by
 have app : ∀ (w t : Txt), (10 : UInt8) ∉ w → (10 : UInt8) ∉ t → (10 : UInt8) ∉ w ++ 32 :: t := fun w t hw ht => by
  rw [List.mem_append, List.mem_cons]
  rintro (e | e | e)
  ·exact hw e
  ·revert e; decide
  ·exact ht e
 unfold lineT
 rcases node_cases h hn with ⟨h0, hf⟩ | ⟨h12, hv⟩
 ·rw [if_pos h0]
  exact app _ _ (by decide) (num_free _).2
 ·have hk0 : ¬ n.kind = 0 := by omega
  rw [if_neg hk0]
  split
  ·exact app _ _ (by decide) (fmt_free hv)
  ·exact app _ _ (by decide) (fmt_free hv)
/-- a line is read back -/
theorem line_read {g : Graph} (h : validG g = true) {i : Nat} {n : Node} (hn : g[i]? = some n) {x : Int} (h0 : 0 ≤ x) (h9 : x ≤ 999) (hz : n.kind ≠ 0 → x = 0) : lineI (lineT n x) = some (orderN n, x) := by
 unfold lineT
 rcases node_cases h hn with ⟨hk, hf⟩ | ⟨h12, hv⟩
 ·rw [if_pos hk]
  unfold lineI
  rw [cut_hit cellW _ (by decide)]
  simp only
  obtain ⟨m, rfl⟩ := Int.eq_ofNat_of_zero_le h0
  rw [if_pos trivial, Int.toNat_natCast, decL_num (by omega)]
  unfold orderN
  rw [if_pos hk, hf, hk]
  rfl
 ·have hk0 : ¬ n.kind = 0 := by omega
  obtain rfl := hz hk0
  rw [if_neg hk0]
  unfold orderN
  rw [if_neg hk0]
  by_cases h1 : n.kind = 1
  ·rw [if_pos h1]
   unfold lineI
   rw [cut_hit derW _ (by decide)]
   simp only
   rw [if_neg (by decide), if_pos trivial, parseI_eq, parse_fmt hv, h1]
   rfl
  ·rw [if_neg h1]
   unfold lineI
   rw [cut_hit effW _ (by decide)]
   simp only
   rw [if_neg (by decide), if_neg (by decide), if_pos trivial, parseI_eq, parse_fmt hv, show n.kind = 2 by omega]
   rfl
def lineL : Graph → List Int → List Txt
 | n :: g, x :: c => lineT n x :: lineL g c
 | _, _ => []
theorem linesT_join : ∀ (g : Graph) (c : List Int), linesT g c = joinC 10 (lineL g c ++ [[]])
 | [], c => by cases c <;> exact (joinC_one _ _).symm
 | n :: g, [] => (joinC_one _ _).symm
 | n :: g, x :: c => by
  show lineT n x ++ 10 :: linesT g c = joinC 10 (lineT n x :: (lineL g c ++ [[]]))
  rw [linesT_join g c]
  cases lineL g c with
  | nil => exact (joinC_cons 10 _ [] []).symm
  | cons a t => exact (joinC_cons 10 _ a (t ++ [[]])).symm
theorem lineL_read {g : Graph} {c : List Int} (h : validG g = true) (hc : validC g c = true) :
  (∀ p ∈ lineL g c, (10 : UInt8) ∉ p) ∧ mapL lineI (lineL g c) = some (orderG g, c) ∧ (lineL g c).length = g.length := by
 have hlen : c.length = g.length := by
  unfold validC at hc
  simp only [Bool.and_eq_true, decide_eq_true_eq] at hc
  exact hc.1
 have hx : ∀ i, i < g.length → 0 ≤ c.getD i 0 ∧ c.getD i 0 ≤ 999 ∧ (kindAt g (i : Int) ≠ 0 → c.getD i 0 = 0) := fun i hi => by
  unfold validC at hc
  rw [Bool.and_eq_true, List.all_eq_true] at hc
  have := hc.2 i (List.mem_range.2 (by omega))
  unfold cellOk at this
  simp only [Bool.and_eq_true, inR, decide_eq_true_eq, Bool.or_eq_true] at this
  exact ⟨this.1.1, this.1.2, fun hk => this.2.resolve_left hk⟩
 have key : ∀ k, (∀ p ∈ lineL (g.drop k) (c.drop k), (10 : UInt8) ∉ p) ∧ mapL lineI (lineL (g.drop k) (c.drop k)) = some (orderG (g.drop k), c.drop k) ∧ (lineL (g.drop k) (c.drop k)).length = g.length - k := by
  intro k
  induction hm : g.length - k generalizing k with
  | zero =>
   rw [List.drop_eq_nil_of_le (by omega), List.drop_eq_nil_of_le (by omega)]
   exact ⟨fun p hp => (by cases hp), rfl, rfl⟩
  | succ m ih =>
   have hk : k < g.length := by omega
   obtain ⟨h1, h2, h3⟩ := ih (k + 1) (by omega)
   rw [List.drop_eq_getElem_cons hk, List.drop_eq_getElem_cons (show k < c.length by omega)]
   have hn : g[k]? = some g[k] := List.getElem?_eq_getElem hk
   have hck : c.getD k 0 = c[k] := by simp [List.getD_eq_getElem?_getD, show k < c.length by omega]
   have hr := hx k hk
   rw [hck] at hr
   have hkind : kindAt g (k : Int) = g[k].kind := by unfold kindAt; simp [hn]
   rw [hkind] at hr
   refine ⟨fun p hp => ?_, ?_, ?_⟩
   ·rcases List.mem_cons.1 hp with rfl | hp
    ·exact line_free h hn _
    ·exact h1 p hp
   ·show (match lineI (lineT g[k] c[k]) with | none => none | some (n, x) => match mapL lineI (lineL (g.drop (k + 1)) (c.drop (k + 1))) with | none => none | some (g, c) => some (n :: g, x :: c)) = _
    rw [line_read h hn hr.1 hr.2.1 hr.2.2, h2]
    rfl
   ·show (lineL (g.drop (k + 1)) (c.drop (k + 1))).length + 1 = _
    omega
 have := key 0
 simpa using this
/-- what is written is read back, in order -/
theorem parseG_fmt {g : Graph} {c : List Int} (h : validG g = true) (hc : validC g c = true) : parseG (fmtG g c) = some (orderG g, c) ∧ (fmtG g c).count 10 = g.length := by
 obtain ⟨h1, h2, h3⟩ := lineL_read h hc
 have e : fmtG g c = joinC 10 (lineL g c ++ [[]]) := by
  unfold fmtG
  rw [if_pos ⟨h, hc⟩, linesT_join]
 have hs : splitC 10 (fmtG g c) = lineL g c ++ [[]] := by
  rw [e]
  refine splitC_join _ (by simp) fun p hp => ?_
  rcases List.mem_append.1 hp with hp | hp
  ·exact h1 p hp
  ·rw [List.mem_singleton.1 hp]; simp
 constructor
 ·rw [← parseG_eq]
  unfold parseGI
  rw [hs, List.dropLast_concat, h2]
  simp only
  rw [if_pos ⟨by simp, orderG_valid h, by rw [orderG_cells]; exact hc, fmtG_order h c⟩]
 ·have := splitC_len 10 (fmtG g c)
  rw [hs] at this
  simp at this
  omega
end Sg
