/- The plain model of formulas, graphs and the eager machine: no program in sight. Conditions: none. -/
namespace Sg

structure Part where
  kind : Int
  a : Int
  b : Int
  c : Int
  n : Int
deriving DecidableEq, Inhabited

structure Node where
  kind : Int
  f : List Part
deriving DecidableEq, Inhabited

abbrev Graph := List Node

def inR (n lo hi : Int) : Bool := decide (lo ≤ n) && decide (n ≤ hi)

/-- parts below a part -/
def below (p : Part) : List Int :=
  if p.kind = 8 then [p.a, p.b, p.c] else if 2 ≤ p.kind ∧ p.kind ≤ 7 then [p.a, p.b] else []

def alone (p : Part) : Bool :=
  if p.kind = 0 then inR p.n 0 99 && p.a == -1 && p.b == -1 && p.c == -1
  else if p.kind = 1 then inR p.n 0 9 && p.a == -1 && p.b == -1 && p.c == -1
  else if p.kind = 8 then p.n == 0
  else if 2 ≤ p.kind ∧ p.kind ≤ 7 then p.n == 0 && p.c == -1
  else false

def goodPart (p : Part) (i : Nat) : Bool := alone p && (below p).all fun k => inR k 0 ((i : Int) - 1)

/-- the parts from place i on are good at their places -/
def goodFrom : Nat → List Part → Bool
  | _, [] => true
  | i, p :: ps => goodPart p i && goodFrom (i + 1) ps

def belows (f : List Part) : List Int := f.flatMap below

def usesOk (f : List Part) : Bool := (List.range (f.length - 1)).all fun i => (belows f).count (i : Int) == 1

def validF (f : List Part) : Bool := inR f.length 1 12 && goodFrom 0 f && usesOk f

def joined (k x y : Int) : Int :=
  if k = 2 then (x + y) % 1000
  else if k = 3 then (x - y + 1000) % 1000
  else if k = 4 then x * y % 1000
  else if k = 5 then min x y
  else if k = 6 then max x y
  else if x < y then 1 else 0

def rd (vals : List Int) (n : Int) : Int := vals.getD n.toNat 0

/-- the value of a part, and the nodes that are read for it, in order; k: fuel -/
def reck (f : List Part) (vals : List Int) : Nat → Int → Int × List Int
  | 0, _ => (0, [])
  | k + 1, i =>
    let p := f.getD i.toNat default
    if p.kind = 0 then (p.n, [])
    else if p.kind = 1 then (rd vals p.n, [p.n])
    else
      let x := reck f vals k p.a
      if p.kind = 8 then
        let y := reck f vals k (if x.1 = 0 then p.c else p.b)
        (y.1, x.2 ++ y.2)
      else
        let y := reck f vals k p.b
        (joined p.kind x.1 y.1, x.2 ++ y.2)

def once (out : List Int) (x : Int) : List Int := if x ∈ out then out else out ++ [x]
def firstOnly (l : List Int) : List Int := l.foldl once []

def runF (f : List Part) (vals : List Int) : Int × List Int :=
  let r := reck f vals f.length ((f.length : Int) - 1)
  (r.1, firstOnly r.2)

/-- the nodes of all reads, ascending (for nodes in 0..9) -/
def hasRead (f : List Part) (n : Int) : Bool := f.any fun p => p.kind == 1 && p.n == n
def mayRead (f : List Part) : List Int := ((List.range 10).map Int.ofNat).filter (hasRead f)


/-- counting -/
def inc (U : List Int) (x : Int) : List Int := U.set x.toNat (U.getD x.toNat 0 + 1)
def cnt (n : Nat) (l : List Int) : List Int := l.foldl inc (List.replicate n 0)
theorem length_inc (U : List Int) (x : Int) : (inc U x).length = U.length := by simp [inc]
theorem length_foldl_inc (l U : List Int) : (l.foldl inc U).length = U.length := by
  induction l generalizing U with
  | nil => rfl
  | cons x l ih => simp [ih, length_inc]
theorem length_cnt (n : Nat) (l : List Int) : (cnt n l).length = n := by simp [cnt, length_foldl_inc]
theorem cnt_snoc (n : Nat) (l : List Int) (x : Int) : cnt n (l ++ [x]) = inc (cnt n l) x := by simp [cnt]
theorem foldl_inc_at (l U : List Int) (i : Nat) (h : ∀ x ∈ l, 0 ≤ x) (hi : i < U.length) : (l.foldl inc U).getD i 0 = U.getD i 0 + (l.count (i : Int) : Int) := by
  induction l generalizing U with
  | nil => simp
  | cons x l ih =>
    have hx := h x (by simp)
    rw [List.foldl_cons, ih _ (fun y hy => h y (by simp [hy])) (by rw [length_inc]; exact hi)]
    unfold inc
    by_cases e : x = (i : Int)
    · subst e
      simp [hi]; omega
    · have : x.toNat ≠ i := by omega
      have e' : ¬ (x == (i : Int)) = true := by simpa using e
      rw [List.count_cons, if_neg e']
      simp [List.getElem?_set_ne this]
theorem cnt_at (n : Nat) (l : List Int) (i : Nat) (h : ∀ x ∈ l, 0 ≤ x) (hi : i < n) : (cnt n l).getD i 0 = (l.count (i : Int) : Int) := by
  unfold cnt; rw [foldl_inc_at l _ i h (by simpa using hi)]; simp [hi]
theorem cnt_le (n : Nat) (l : List Int) (i : Nat) (h : ∀ x ∈ l, 0 ≤ x) (hi : i < n) : 0 ≤ (cnt n l).getD i 0 ∧ (cnt n l).getD i 0 ≤ l.length := by
  rw [cnt_at n l i h hi]; exact ⟨by omega, by have := List.count_le_length (a := (i : Int)) (l := l); omega⟩

theorem goodPart_below {p : Part} {i : Nat} (h : goodPart p i = true) : ∀ x ∈ below p, 0 ≤ x ∧ x < i := by
  intro x hx
  unfold goodPart at h
  simp only [Bool.and_eq_true, List.all_eq_true] at h
  have := h.2 x hx
  simp [inR] at this
  omega
theorem goodFrom_take (f : List Part) (k j : Nat) (h : goodFrom j (f.take k) = true) : ∀ x ∈ belows (f.take k), 0 ≤ x := by
  induction f generalizing k j with
  | nil => simp [belows]
  | cons p f ih =>
    cases k with
    | zero => simp [belows]
    | succ k =>
      simp only [List.take_succ_cons, goodFrom, Bool.and_eq_true] at h
      intro x hx
      simp only [belows, List.take_succ_cons, List.flatMap_cons, List.mem_append] at hx
      rcases hx with hx | hx
      · exact (goodPart_below h.1 x hx).1
      · exact ih k (j + 1) h.2 x hx
theorem goodFrom_snoc (f : List Part) (p : Part) (j : Nat) : goodFrom j (f ++ [p]) = (goodFrom j f && goodPart p (j + f.length)) := by
  induction f generalizing j with
  | nil => simp [goodFrom]
  | cons q f ih =>
    simp only [List.cons_append, goodFrom, ih, Bool.and_assoc, List.length_cons]
    rw [show j + 1 + f.length = j + (f.length + 1) from by omega]
theorem below_len (p : Part) : (below p).length ≤ 3 := by
  unfold below
  by_cases h : p.kind = 8
  · rw [if_pos h]; simp
  · rw [if_neg h]; split <;> simp
theorem belows_len (f : List Part) : (belows f).length ≤ 3 * f.length := by
  induction f with
  | nil => simp [belows]
  | cons p f ih => have := below_len p; simp [belows] at ih ⊢; omega
theorem usesOk_of (f : List Part) (h0 : ∀ x ∈ belows f, 0 ≤ x) (h : ∀ i, i + 1 < f.length → (cnt f.length (belows f)).getD i 0 = 1) : usesOk f = true := by
  unfold usesOk
  rw [List.all_eq_true]
  intro i hi
  rw [List.mem_range] at hi
  have := h i (by omega)
  rw [cnt_at _ _ _ h0 (by omega)] at this
  simp; omega
theorem usesOk_not (f : List Part) (h0 : ∀ x ∈ belows f, 0 ≤ x) (i : Nat) (hi : i + 1 < f.length) (h : ¬ (cnt f.length (belows f)).getD i 0 = 1) : usesOk f = false := by
  rw [← Bool.not_eq_true]
  intro hu
  unfold usesOk at hu
  rw [List.all_eq_true] at hu
  have := hu i (by rw [List.mem_range]; omega)
  rw [cnt_at _ _ _ h0 (by omega)] at h
  simp at this; omega


/-- a formula that can be run with n values -/
structure FOK (f : List Part) (n : Nat) : Prop where
  good : ∀ (i : Nat) (p : Part), f[i]? = some p → goodPart p i = true
  len : f.length ≤ 12
  one : 0 < f.length
  reads : ∀ p ∈ f, p.kind = 1 → p.n < n
def inRange (vals : List Int) : Prop := ∀ x ∈ vals, 0 ≤ x ∧ x ≤ 999
theorem reck_succ (f : List Part) (vals : List Int) (k i : Nat) {p : Part} (h : f[i]? = some p) : reck f vals (k + 1) i =
    if p.kind = 0 then (p.n, []) else if p.kind = 1 then (rd vals p.n, [p.n]) else
      if p.kind = 8 then ((reck f vals k (if (reck f vals k p.a).1 = 0 then p.c else p.b)).1, (reck f vals k p.a).2 ++ (reck f vals k (if (reck f vals k p.a).1 = 0 then p.c else p.b)).2)
      else (joined p.kind (reck f vals k p.a).1 (reck f vals k p.b).1, (reck f vals k p.a).2 ++ (reck f vals k p.b).2) := by
  simp [reck, h]
theorem reck_len (f : List Part) (vals : List Int) (k : Nat) (i : Int) : (reck f vals k i).2.length ≤ 2 ^ k := by
  induction k generalizing i with
  | zero => simp [reck]
  | succ k ih =>
    have h1 : 1 ≤ 2 ^ k := Nat.one_le_two_pow
    have h2 : 2 ^ (k + 1) = 2 ^ k + 2 ^ k := by rw [Nat.pow_succ]; omega
    simp only [reck]
    split
    · simp
    · split
      · simp; omega
      · split
        · have a := ih (f.getD i.toNat default).a
          have b := ih (if (reck f vals k (f.getD i.toNat default).a).1 = 0 then (f.getD i.toNat default).c else (f.getD i.toNat default).b)
          simp only [List.length_append]; omega
        · have a := ih (f.getD i.toNat default).a
          have b := ih (f.getD i.toNat default).b
          simp only [List.length_append]; omega
theorem joined_range (k x y : Int) (hx : 0 ≤ x ∧ x ≤ 999) (hy : 0 ≤ y ∧ y ≤ 999) : 0 ≤ joined k x y ∧ joined k x y ≤ 999 := by
  unfold joined
  generalize x * y = z
  repeat' split
  all_goals omega


end Sg
