import Derived.Test.YtfdbcnbakchcgaaWWords
import Derived.Test.YtfdbcnbakchcgaaWMore
import Derived.Test.YtfdbcnbakchcgaaWLast
namespace Go.Proofs.Ytfdbcnbakchcgaa.XR
open Go.RowKit Go.Proofs.YtfdbcnbakchcgaaW.PrintWords Go.Proofs.YtfdbcnbakchcgaaW.PrintLast Go.Proofs.YtfdbcnbakchcgaaW.PrintMore
attribute [local go_sem] max2_int min2_int max_two min_two max_three min_three max_four min_four   -- for this text's walks alone
set_option linter.unusedVariables false
set_option linter.unusedSimpArgs false
/-- A prefix by number: how long, its bits, its number. -/
structure TI where
  len : Nat
  key : Nat
  n : Int
def sameP (a b : TI) : Bool := a.len == b.len && a.key == b.key
theorem sameP_iff (a b : TI) : sameP a b = true ↔ a.len = b.len ∧ a.key = b.key := by unfold sameP; simp
def nodeIn (l : List TI) (i k : Nat) : Bool := l.any fun y => decide (i ≤ y.len) && (y.key / 2 ^ (y.len - i) == k)
def lookT (l : List TI) (i k : Nat) : Bool × Int := match l.find? (fun y => y.len == i && y.key == k) with
  | some y => (true, y.n)
  | none => (false, 0)
/-- What the trie holds at a place. -/
def nodeAt (l : List TI) (i k : Nat) : Option (Bool × Int) := if (i = 0 ∧ k = 0) ∨ nodeIn l i k = true then some (lookT l i k) else none
theorem nodeIn_iff (l : List TI) (i k : Nat) : nodeIn l i k = true ↔ ∃ y ∈ l, i ≤ y.len ∧ y.key / 2 ^ (y.len - i) = k := by
  unfold nodeIn
  rw [List.any_eq_true]
  simp only [Bool.and_eq_true, decide_eq_true_eq, beq_iff_eq]
theorem div_step (x a i : Nat) (h : i + 1 ≤ a) : x / 2 ^ (a - i) = x / 2 ^ (a - (i + 1)) / 2 := by
  rw [Nat.div_div_eq_div_mul, ← Nat.pow_succ, show (a - (i + 1)).succ = a - i by omega]
theorem nodeIn_up {l : List TI} {i k : Nat} (h : nodeIn l (i + 1) k = true) : nodeIn l i (k / 2) = true := by
  rw [nodeIn_iff] at h ⊢
  obtain ⟨y, hy, h1, h2⟩ := h
  exact ⟨y, hy, by omega, by rw [div_step _ _ _ h1, h2]⟩
/-- A node is there where a prefix ends, or on either side below. -/
theorem nodeIn_split (l : List TI) (i k : Nat) : nodeIn l i k = true ↔ (lookT l i k).1 = true ∨ nodeIn l (i + 1) (2 * k) = true ∨ nodeIn l (i + 1) (2 * k + 1) = true := by
  constructor
  · intro h
    obtain ⟨y, hy, h1, h2⟩ := (nodeIn_iff l i k).1 h
    by_cases e : y.len = i
    · left
      unfold lookT
      cases hf : l.find? (fun y => y.len == i && y.key == k) with
      | some z => rfl
      | none =>
        have := List.find?_eq_none.1 hf y hy
        rw [e, Nat.sub_self, Nat.pow_zero, Nat.div_one] at h2
        simp [e, h2] at this
    · right
      rw [div_step _ _ _ (by omega)] at h2
      rcases Nat.mod_two_eq_zero_or_one (y.key / 2 ^ (y.len - (i + 1))) with c | c
      · left; exact (nodeIn_iff _ _ _).2 ⟨y, hy, by omega, by omega⟩
      · right; exact (nodeIn_iff _ _ _).2 ⟨y, hy, by omega, by omega⟩
  · rintro (h | h | h)
    · unfold lookT at h
      cases hf : l.find? (fun y => y.len == i && y.key == k) with
      | none => rw [hf] at h; cases h
      | some z =>
        have hz := List.find?_some hf
        simp only [Bool.and_eq_true, beq_iff_eq] at hz
        exact (nodeIn_iff _ _ _).2 ⟨z, List.mem_of_find?_eq_some hf, by omega, by rw [hz.1, Nat.sub_self, Nat.pow_zero, Nat.div_one, hz.2]⟩
    · have := nodeIn_up h
      rwa [show 2 * k / 2 = k by omega] at this
    · have := nodeIn_up h
      rwa [show (2 * k + 1) / 2 = k by omega] at this
theorem nodeAt_none_up {l : List TI} {i k : Nat} (h : nodeAt l i (k / 2) = none) : nodeAt l (i + 1) k = none := by
  unfold nodeAt at h ⊢
  split at h
  · cases h
  · rename_i h1
    rw [if_neg]
    rintro (⟨h2, _⟩ | h2)
    · omega
    · exact h1 (.inr (nodeIn_up h2))
theorem nodeAt_some {l : List TI} {i k : Nat} {t : Bool × Int} (h : nodeAt l i k = some t) : t = lookT l i k := by
  unfold nodeAt at h
  split at h
  · exact (Option.some.inj h).symm
  · cases h
theorem lookT_node {l : List TI} {i k : Nat} (h : (lookT l i k).1 = true) : nodeAt l i k = some (lookT l i k) := by
  unfold nodeAt
  rw [if_pos (.inr ((nodeIn_split l i k).2 (.inl h)))]
theorem lookT_any (l : List TI) (x : TI) : (lookT l x.len x.key).1 = l.any (fun y => sameP y x) := by
  unfold lookT
  cases hf : l.find? (fun y => y.len == x.len && y.key == x.key) with
  | none =>
    rw [List.find?_eq_none] at hf
    symm
    rw [List.any_eq_false]
    intro y hy
    exact hf y hy
  | some z =>
    symm
    rw [List.any_eq_true]
    exact ⟨z, List.mem_of_find?_eq_some hf, List.find?_some (p := fun y => sameP y x) hf⟩
/-- A node that no prefix reaches is none (but the root). -/
theorem nodeAt_iff (l : List TI) (i k : Nat) (h0 : 0 < i) : nodeAt l i k = none ↔ nodeIn l i k = false := by
  unfold nodeAt
  by_cases h : nodeIn l i k = true
  · rw [if_pos (.inr h), h]; simp
  · rw [if_neg (by rintro (⟨h1, _⟩ | h1); omega; exact h h1)]; simpa using h
theorem nodeIn_snoc (l : List TI) (x : TI) (i k : Nat) : nodeIn (l ++ [x]) i k = (nodeIn l i k || (decide (i ≤ x.len) && (x.key / 2 ^ (x.len - i) == k))) := by
  unfold nodeIn; rw [List.any_append]; simp
theorem lookT_snoc (l : List TI) (x : TI) (hx : l.any (fun y => sameP y x) = false) (i k : Nat) : lookT (l ++ [x]) i k = if i = x.len ∧ k = x.key then (true, x.n) else lookT l i k := by
  unfold lookT
  rw [List.find?_append]
  by_cases c : i = x.len ∧ k = x.key
  · obtain ⟨rfl, rfl⟩ := c
    have hf : l.find? (fun y => y.len == x.len && y.key == x.key) = none := by
      rw [List.find?_eq_none]; rw [List.any_eq_false] at hx; exact hx
    rw [hf, if_pos ⟨rfl, rfl⟩]
    simp
  · rw [if_neg c]
    have : [x].find? (fun y => y.len == i && y.key == k) = none := by
      rw [List.find?_eq_none]
      intro y hy
      obtain rfl := List.mem_singleton.1 hy
      simp only [Bool.and_eq_true, beq_iff_eq]
      rintro ⟨h1, h2⟩
      exact c ⟨h1.symm, h2.symm⟩
    rw [this, Option.or_none]
/-- The way of a prefix. -/
def onP (x : TI) (i k : Nat) : Prop := i ≤ x.len ∧ k = x.key / 2 ^ (x.len - i)
instance (x : TI) (i k : Nat) : Decidable (onP x i k) := inferInstanceAs (Decidable (_ ∧ _))
theorem nodeAt_snoc (l : List TI) (x : TI) (hx : l.any (fun y => sameP y x) = false) (i k : Nat) :
    nodeAt (l ++ [x]) i k = if i = x.len ∧ k = x.key then some (true, x.n) else if onP x i k then some (lookT l i k) else nodeAt l i k := by
  unfold nodeAt
  rw [nodeIn_snoc, lookT_snoc l x hx]
  by_cases c : i = x.len ∧ k = x.key
  · rw [if_pos c, if_pos c, if_pos]
    right
    obtain ⟨rfl, rfl⟩ := c
    simp
  · rw [if_neg c, if_neg c]
    by_cases d : onP x i k
    · rw [if_pos d, if_pos]
      right
      obtain ⟨h1, h2⟩ := d
      simp [h1, ← h2]
    · rw [if_neg d]
      have : (decide (i ≤ x.len) && (x.key / 2 ^ (x.len - i) == k)) = false := by
        rw [Bool.eq_false_iff]
        intro h
        simp only [Bool.and_eq_true, decide_eq_true_eq, beq_iff_eq] at h
        exact d ⟨h.1, h.2.symm⟩
      rw [this, Bool.or_false]
def updT (x : TI) (l : List TI) : List TI := l.map fun y => if sameP y x = true then { y with n := x.n } else y
theorem updT_find (l : List TI) (x : TI) (i k : Nat) : (updT x l).find? (fun y => y.len == i && y.key == k) = (l.find? (fun y => y.len == i && y.key == k)).map (fun y => if sameP y x = true then { y with n := x.n } else y) := by
  unfold updT
  rw [List.find?_map]
  congr 1
  congr 1
  funext y
  simp only [Function.comp]
  split <;> rfl
theorem nodeAt_upd (l : List TI) (x : TI) (hx : l.any (fun y => sameP y x) = true) (i k : Nat) :
    nodeAt (updT x l) i k = if i = x.len ∧ k = x.key then some (true, x.n) else nodeAt l i k := by
  have h1 : nodeIn (updT x l) i k = nodeIn l i k := by
    unfold nodeIn updT
    rw [List.any_map]
    congr 1
    funext y
    simp only [Function.comp]
    split <;> rfl
  have h2 : lookT (updT x l) i k = if i = x.len ∧ k = x.key then (true, x.n) else lookT l i k := by
    unfold lookT
    rw [updT_find]
    cases hf : l.find? (fun y => y.len == i && y.key == k) with
    | none =>
      rw [Option.map_none, if_neg]
      rintro ⟨rfl, rfl⟩
      rw [List.find?_eq_none] at hf
      rw [List.any_eq_true] at hx
      obtain ⟨y, hy, h⟩ := hx
      exact hf y hy h
    | some z =>
      have hz := List.find?_some hf
      simp only [Bool.and_eq_true, beq_iff_eq] at hz
      rw [Option.map_some]
      by_cases c : i = x.len ∧ k = x.key
      · rw [if_pos c, if_pos ((sameP_iff z x).2 ⟨by omega, by omega⟩)]
      · rw [if_neg c, if_neg (fun h => by have := (sameP_iff z x).1 h; exact c ⟨by omega, by omega⟩)]
  unfold nodeAt
  rw [h1, h2]
  by_cases c : i = x.len ∧ k = x.key
  · rw [if_pos c, if_pos c, if_pos]
    right
    obtain ⟨rfl, rfl⟩ := c
    rw [List.any_eq_true] at hx
    obtain ⟨y, hy, h⟩ := hx
    have := (sameP_iff y x).1 h
    exact (nodeIn_iff _ _ _).2 ⟨y, hy, by omega, by rw [this.1, Nat.sub_self, Nat.pow_zero, Nat.div_one, this.2]⟩
  · rw [if_neg c, if_neg c]
def delT (x : TI) (l : List TI) : List TI := l.filter fun y => !sameP y x
theorem lookT_del (l : List TI) (x : TI) (i k : Nat) : lookT (delT x l) i k = if i = x.len ∧ k = x.key then (false, 0) else lookT l i k := by
  unfold lookT delT
  by_cases c : i = x.len ∧ k = x.key
  · obtain ⟨rfl, rfl⟩ := c
    have : (l.filter fun y => !sameP y x).find? (fun y => y.len == x.len && y.key == x.key) = none := by
      rw [List.find?_eq_none]
      intro y hy h
      have := (List.mem_filter.1 hy).2
      rw [show sameP y x = true from h] at this
      cases this
    rw [this, if_pos ⟨rfl, rfl⟩]
  · rw [if_neg c, List.find?_filter]
    congr 1
    congr 1
    funext y
    by_cases h : (y.len == i && y.key == k) = true
    · rw [h]
      simp only [Bool.and_eq_true, beq_iff_eq] at h
      have : sameP y x = false := by
        rw [Bool.eq_false_iff]
        intro hs
        have := (sameP_iff y x).1 hs
        exact c ⟨by omega, by omega⟩
      simp [this]
    · rw [Bool.not_eq_true] at h
      simp [h]
/-- Away from its way a drop leaves all as it was. -/
theorem nodeAt_del_off (l : List TI) (x : TI) (i k : Nat) (h : ¬ onP x i k) : nodeAt (delT x l) i k = nodeAt l i k := by
  have hc : ¬ (i = x.len ∧ k = x.key) := by
    rintro ⟨rfl, rfl⟩
    exact h ⟨Nat.le_refl _, by rw [Nat.sub_self, Nat.pow_zero, Nat.div_one]⟩
  have h1 : nodeIn (delT x l) i k = nodeIn l i k := by
    rw [Bool.eq_iff_iff, nodeIn_iff, nodeIn_iff]
    constructor
    · rintro ⟨y, hy, h2, h3⟩
      exact ⟨y, (List.mem_filter.1 hy).1, h2, h3⟩
    · rintro ⟨y, hy, h2, h3⟩
      refine ⟨y, List.mem_filter.2 ⟨hy, ?_⟩, h2, h3⟩
      cases hs : sameP y x with
      | false => rfl
      | true =>
        have := (sameP_iff y x).1 hs
        exact absurd ⟨by omega, by rw [← h3, this.1, this.2]⟩ h
  unfold nodeAt
  rw [h1, lookT_del, if_neg hc]
/-- The trie while a prefix is taken out: its way stands down to i. -/
def cutT (l : List TI) (x : TI) (j i k : Nat) : Option (Bool × Int) := if onP x i k ∧ i ≤ j then some (lookT (delT x l) i k) else nodeAt (delT x l) i k
def bestTo (l : List TI) (W K : Nat) : Nat → Option (Nat × Int)
  | 0 => none
  | i + 1 => if (lookT l i (K / 2 ^ (W - i))).1 = true then some (i, (lookT l i (K / 2 ^ (W - i))).2) else bestTo l W K i
theorem bestTo_stop (l : List TI) (W K : Nat) (hK : K < 2 ^ W) (i : Nat) (hi : i ≤ W) (h : nodeAt l i (K / 2 ^ (W - i)) = none) : ∀ j, i ≤ j → j ≤ W + 1 → bestTo l W K j = bestTo l W K i := by
  have hn : ∀ d, i + d ≤ W → nodeAt l (i + d) (K / 2 ^ (W - (i + d))) = none := by
    intro d
    induction d with
    | zero => intro _; exact h
    | succ d ih =>
      intro hd
      have := ih (by omega)
      rw [div_step K W (i + d) (by omega)] at this
      exact nodeAt_none_up this
  intro j
  induction j with
  | zero => intro h1 _; rw [show i = 0 by omega]
  | succ j ih =>
    intro h1 h2
    by_cases e : i = j + 1
    · rw [e]
    · have h3 := hn (j - i) (by omega)
      rw [show i + (j - i) = j by omega] at h3
      have h4 : (lookT l j (K / 2 ^ (W - j))).1 = false := by
        rw [Bool.eq_false_iff]
        intro hh
        rw [lookT_node hh] at h3
        cases h3
      show (if _ then _ else _) = _
      rw [if_neg (by rw [h4]; simp)]
      exact ih (by omega) (by omega)
/-- Does a key meet a prefix. -/
def meetT (W K : Nat) (y : TI) : Bool := y.key == K / 2 ^ (W - y.len)
theorem bestTo_none {l : List TI} {W K : Nat} : ∀ {j : Nat}, bestTo l W K j = none → ∀ y ∈ l, y.len < j → meetT W K y = false
  | 0, _, y, _, h => by omega
  | j + 1, h, y, hy, hl => by
    unfold bestTo at h
    split at h
    · cases h
    · rename_i hn
      by_cases e : y.len = j
      · rw [Bool.eq_false_iff]
        intro hm
        unfold meetT at hm
        rw [beq_iff_eq] at hm
        apply hn
        have := lookT_any l y
        rw [e, show y.key = K / 2 ^ (W - j) by rw [hm, e]] at this
        rw [this, List.any_eq_true]
        exact ⟨y, hy, (sameP_iff y y).2 ⟨rfl, rfl⟩⟩
      · exact bestTo_none h y hy (by omega)
theorem bestTo_some {l : List TI} {W K i : Nat} {n : Int} : ∀ {j : Nat}, bestTo l W K j = some (i, n) → i < j ∧ lookT l i (K / 2 ^ (W - i)) = (true, n) ∧ ∀ y ∈ l, i < y.len → y.len < j → meetT W K y = false
  | 0, h => by cases h
  | j + 1, h => by
    unfold bestTo at h
    split at h
    · rename_i hh
      injection h with h
      injection h with h1 h2
      subst h1
      refine ⟨by omega, ?_, fun y _ h3 h4 => by omega⟩
      rw [← h2, ← hh]
    · rename_i hn
      obtain ⟨h1, h2, h3⟩ := bestTo_some h
      refine ⟨by omega, h2, fun y hy h4 h5 => ?_⟩
      by_cases e : y.len = j
      · rw [Bool.eq_false_iff]
        intro hm
        unfold meetT at hm
        rw [beq_iff_eq] at hm
        apply hn
        have := lookT_any l y
        rw [e, show y.key = K / 2 ^ (W - j) by rw [hm, e]] at this
        rw [this, List.any_eq_true]
        exact ⟨y, hy, (sameP_iff y y).2 ⟨rfl, rfl⟩⟩
      · exact h3 y hy h4 (by omega)
/-- No two prefixes are the same. -/
def apartT (l : List TI) : Prop := l.Pairwise fun a b => sameP a b = false
theorem lookT_mem {l : List TI} (hd : apartT l) {y : TI} (hy : y ∈ l) : lookT l y.len y.key = (true, y.n) := by
  induction l with
  | nil => cases hy
  | cons a l ih =>
    unfold apartT at hd
    rw [List.pairwise_cons] at hd
    unfold lookT
    rw [List.find?_cons]
    rcases List.mem_cons.1 hy with rfl | hy
    · simp
    · have : (a.len == y.len && a.key == y.key) = false := hd.1 y hy
      rw [this]
      exact ih hd.2 hy
/-- The longest that is met: the reference's answer. -/
theorem best_is {l : List TI} (hd : apartT l) {W K : Nat} (hl : ∀ y ∈ l, y.len ≤ W) (y : TI) (hy : y ∈ l) (hm : meetT W K y = true) (hb : ∀ z ∈ l, meetT W K z = true → z.len ≤ y.len) : bestTo l W K (W + 1) = some (y.len, y.n) := by
  have hlk := lookT_mem hd hy
  unfold meetT at hm
  rw [beq_iff_eq] at hm
  cases h : bestTo l W K (W + 1) with
  | none =>
    have := bestTo_none h y hy (by have := hl y hy; omega)
    unfold meetT at this
    rw [beq_eq_false_iff_ne] at this
    exact absurd hm this
  | some t =>
    obtain ⟨i, n⟩ := t
    obtain ⟨h1, h2, h3⟩ := bestTo_some h
    have e : i = y.len := by
      rcases Nat.lt_trichotomy i y.len with c | c | c
      · have := h3 y hy c (by have := hl y hy; omega)
        unfold meetT at this
        rw [beq_eq_false_iff_ne] at this
        exact absurd hm this
      · exact c
      · have h4 : (lookT l i (K / 2 ^ (W - i))).1 = true := by rw [h2]
        unfold lookT at h4
        cases hf : l.find? (fun y => y.len == i && y.key == K / 2 ^ (W - i)) with
        | none => rw [hf] at h4; cases h4
        | some z =>
          have hz := List.find?_some hf
          simp only [Bool.and_eq_true, beq_iff_eq] at hz
          have := hb z (List.mem_of_find?_eq_some hf) (by unfold meetT; rw [beq_iff_eq, hz.1]; exact hz.2)
          omega
    subst e
    rw [← hm, hlk] at h2
    injection h2 with _ h2
    rw [h2]
theorem lookT_none {l : List TI} {i k : Nat} (h : nodeAt l i k = none) : lookT l i k = (false, 0) := by
  have h1 : (lookT l i k).1 ≠ true := fun hh => by rw [lookT_node hh] at h; cases h
  unfold lookT at h1 ⊢
  cases hf : l.find? (fun y => y.len == i && y.key == k) with
  | none => rfl
  | some z => rw [hf] at h1; exact absurd rfl h1
theorem path_node {l : List TI} {x : TI} (hx : l.any (fun y => sameP y x) = true) {i k : Nat} (h : onP x i k) : nodeIn l i k = true := by
  rw [List.any_eq_true] at hx
  obtain ⟨y, hy, hs⟩ := hx
  have := (sameP_iff y x).1 hs
  exact (nodeIn_iff _ _ _).2 ⟨y, hy, by rw [this.1]; exact h.1, by rw [this.1, this.2]; exact h.2.symm⟩
theorem onP_uniq {x : TI} {i k k' : Nat} (h : onP x i k) (h' : onP x i k') : k = k' := h.2.trans h'.2.symm
/-- The trie while a prefix is put: its way stands down to j. -/
def growT (l : List TI) (x : TI) (j i k : Nat) : Option (Bool × Int) := if onP x i k ∧ i ≤ j then some (lookT l i k) else nodeAt l i k
theorem growT_zero (l : List TI) (x : TI) (hx : x.key < 2 ^ x.len) (i k : Nat) : growT l x 0 i k = nodeAt l i k := by
  unfold growT
  by_cases c : onP x i k ∧ i ≤ 0
  · rw [if_pos c]
    obtain ⟨⟨_, h2⟩, h3⟩ := c
    obtain rfl : i = 0 := by omega
    rw [Nat.sub_zero, Nat.div_eq_of_lt hx] at h2
    subst h2
    unfold nodeAt
    rw [if_pos (.inl ⟨rfl, rfl⟩)]
  · rw [if_neg c]
theorem growT_at {l : List TI} {x : TI} {j i k : Nat} (h : onP x i k) (hj : i ≤ j) : growT l x j i k = some (lookT l i k) := if_pos ⟨h, hj⟩
theorem growT_low {l : List TI} {x : TI} {j i k : Nat} (hj : j < i) : growT l x j i k = nodeAt l i k := if_neg (fun h => by have := h.2; omega)
theorem growT_new {l : List TI} {x : TI} {j kk : Nat} (hk : onP x (j + 1) kk) (hn : nodeAt l (j + 1) kk = none) (i k : Nat) : growT l x (j + 1) i k = if i = j + 1 ∧ k = kk then some (false, 0) else growT l x j i k := by
  by_cases c : i = j + 1 ∧ k = kk
  · obtain ⟨rfl, rfl⟩ := c
    rw [if_pos ⟨rfl, rfl⟩, growT_at hk (Nat.le_refl _), lookT_none hn]
  · rw [if_neg c]
    unfold growT
    by_cases d : onP x i k ∧ i ≤ j
    · rw [if_pos d, if_pos ⟨d.1, by have := d.2; omega⟩]
    · rw [if_neg d, if_neg]
      rintro ⟨h1, h2⟩
      by_cases e : i = j + 1
      · subst e; exact c ⟨rfl, onP_uniq h1 hk⟩
      · exact d ⟨h1, by omega⟩
theorem growT_old {l : List TI} {x : TI} {j kk : Nat} (hk : onP x (j + 1) kk) (hn : nodeAt l (j + 1) kk ≠ none) (i k : Nat) : growT l x (j + 1) i k = growT l x j i k := by
  unfold growT
  by_cases d : onP x i k ∧ i ≤ j
  · rw [if_pos d, if_pos ⟨d.1, by have := d.2; omega⟩]
  · rw [if_neg d]
    by_cases e : onP x i k ∧ i ≤ j + 1
    · rw [if_pos e]
      obtain rfl : i = j + 1 := by have := e.2; by_cases h : i = j + 1; exact h; exact absurd ⟨e.1, by omega⟩ d
      obtain rfl := onP_uniq e.1 hk
      cases h : nodeAt l (j + 1) k with
      | none => exact absurd h hn
      | some t => rw [nodeAt_some h]
    · rw [if_neg e]
theorem growT_end (l : List TI) (x : TI) (hx : l.any (fun y => sameP y x) = false) (i k : Nat) : nodeAt (l ++ [x]) i k = if i = x.len ∧ k = x.key then some (true, x.n) else growT l x x.len i k := by
  rw [nodeAt_snoc l x hx]
  unfold growT
  by_cases c : i = x.len ∧ k = x.key
  · rw [if_pos c, if_pos c]
  · rw [if_neg c, if_neg c]
    by_cases d : onP x i k
    · rw [if_pos d, if_pos ⟨d, d.1⟩]
    · rw [if_neg d, if_neg (fun h => d h.1)]
theorem cutT_top {l : List TI} {x : TI} (hx : l.any (fun y => sameP y x) = true) (i k : Nat) : cutT l x x.len i k = if i = x.len ∧ k = x.key then some (false, 0) else nodeAt l i k := by
  unfold cutT
  by_cases c : i = x.len ∧ k = x.key
  · obtain ⟨rfl, rfl⟩ := c
    rw [if_pos ⟨⟨Nat.le_refl _, by rw [Nat.sub_self, Nat.pow_zero, Nat.div_one]⟩, Nat.le_refl _⟩, if_pos ⟨rfl, rfl⟩, lookT_del, if_pos ⟨rfl, rfl⟩]
  · rw [if_neg c]
    by_cases d : onP x i k
    · rw [if_pos ⟨d, d.1⟩, lookT_del, if_neg c]
      unfold nodeAt
      rw [if_pos (.inr (path_node hx d))]
    · rw [if_neg (fun h => d h.1), nodeAt_del_off l x i k d]
theorem cutT_at {l : List TI} {x : TI} {j i k : Nat} (h : onP x i k) (hj : i ≤ j) : cutT l x j i k = some (lookT (delT x l) i k) := if_pos ⟨h, hj⟩
theorem cutT_low {l : List TI} {x : TI} {j i k : Nat} (hj : j < i) : cutT l x j i k = nodeAt (delT x l) i k := if_neg (fun h => by have := h.2; omega)
theorem cutT_cut {l : List TI} {x : TI} {j kk : Nat} (hk : onP x (j + 1) kk) (hn : nodeIn (delT x l) (j + 1) kk = false) (i k : Nat) : cutT l x j i k = if i = j + 1 ∧ k = kk then none else cutT l x (j + 1) i k := by
  by_cases c : i = j + 1 ∧ k = kk
  · obtain ⟨rfl, rfl⟩ := c
    rw [if_pos ⟨rfl, rfl⟩, cutT_low (by omega)]
    exact (nodeAt_iff _ _ _ (by omega)).2 hn
  · rw [if_neg c]
    unfold cutT
    by_cases d : onP x i k ∧ i ≤ j
    · rw [if_pos d, if_pos ⟨d.1, by have := d.2; omega⟩]
    · rw [if_neg d, if_neg]
      rintro ⟨h1, h2⟩
      by_cases e : i = j + 1
      · subst e; exact c ⟨rfl, onP_uniq h1 hk⟩
      · exact d ⟨h1, by omega⟩
theorem cutT_keep {l : List TI} {x : TI} {j kk : Nat} (hk : onP x (j + 1) kk) (hn : nodeIn (delT x l) (j + 1) kk = true) (i k : Nat) : cutT l x j i k = cutT l x (j + 1) i k := by
  unfold cutT
  by_cases d : onP x i k ∧ i ≤ j
  · rw [if_pos d, if_pos ⟨d.1, by have := d.2; omega⟩]
  · rw [if_neg d]
    by_cases e : onP x i k ∧ i ≤ j + 1
    · rw [if_pos e]
      obtain rfl : i = j + 1 := by have := e.2; by_cases h : i = j + 1; exact h; exact absurd ⟨e.1, by omega⟩ d
      obtain rfl := onP_uniq e.1 hk
      unfold nodeAt
      rw [if_pos (.inr hn)]
    · rw [if_neg e]
theorem cutT_end {l : List TI} {x : TI} (hx : x.key < 2 ^ x.len) (i k : Nat) : cutT l x 0 i k = nodeAt (delT x l) i k := by
  unfold cutT
  by_cases c : onP x i k ∧ i ≤ 0
  · rw [if_pos c]
    obtain ⟨⟨_, h2⟩, h3⟩ := c
    obtain rfl : i = 0 := by omega
    rw [Nat.sub_zero, Nat.div_eq_of_lt hx] at h2
    subst h2
    unfold nodeAt
    rw [if_pos (.inl ⟨rfl, rfl⟩)]
  · rw [if_neg c]
theorem delT_length {l : List TI} (hd : apartT l) (x : TI) (hx : l.any (fun y => sameP y x) = true) : (delT x l).length + 1 = l.length := by
  induction l with
  | nil => cases hx
  | cons a l ih =>
    unfold apartT at hd
    rw [List.pairwise_cons] at hd
    unfold delT
    rw [List.filter_cons]
    by_cases c : sameP a x = true
    · rw [c, if_neg (by simp)]
      have : l.filter (fun y => !sameP y x) = l := List.filter_eq_self.2 (fun y hy => by
        have h1 := hd.1 y hy
        cases h2 : sameP y x with
        | false => rfl
        | true =>
          have e1 := (sameP_iff y x).1 h2
          have e2 := (sameP_iff a x).1 c
          rw [(sameP_iff a y).2 ⟨by omega, by omega⟩] at h1
          cases h1)
      rw [this]; rfl
    · rw [Bool.not_eq_true] at c
      rw [List.any_cons, c, Bool.false_or] at hx
      rw [c, if_pos (by simp)]
      have := ih hd.2 hx
      unfold delT at this
      rw [List.length_cons, List.length_cons]; omega
end Go.Proofs.Ytfdbcnbakchcgaa.XR
