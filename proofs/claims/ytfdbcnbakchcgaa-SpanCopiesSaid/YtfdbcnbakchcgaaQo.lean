import Derived.Test.YtfdbcnbakchcgaaWWords
import Derived.Test.YtfdbcnbakchcgaaWMore
import Derived.Test.YtfdbcnbakchcgaaWLast
namespace Go.Proofs.Ytfdbcnbakchcgaa.XQ
open Go.RowKit Go.Proofs.YtfdbcnbakchcgaaW.PrintWords Go.Proofs.YtfdbcnbakchcgaaW.PrintLast Go.Proofs.YtfdbcnbakchcgaaW.PrintMore
attribute [local go_sem] max2_int min2_int max_two min_two max_three min_three max_four min_four
set_option linter.unusedVariables false
set_option linter.unusedSimpArgs false
def ins {α : Type} (pr : α → Int) (a : α) : List α → List α
 | [] => [a]
 | b :: t => if pr a < pr b then a :: b :: t else b :: ins pr a t
theorem ins_cons {α : Type} (pr : α → Int) (a b : α) (t : List α) : ins pr a (b :: t) = if pr a < pr b then a :: b :: t else b :: ins pr a t := rfl
def isort {α : Type} (pr : α → Int) (x : List α) : List α := x.foldl (fun y a => ins pr a y) []
theorem isort_snoc {α : Type} (pr : α → Int) (x : List α) (a : α) : isort pr (x ++ [a]) = ins pr a (isort pr x) := by
 unfold isort; rw [List.foldl_append]; rfl
theorem ins_length {α : Type} (pr : α → Int) (a : α) (y : List α) : (ins pr a y).length = y.length + 1 := by
 induction y with
 | nil => rfl
 | cons b t ih => unfold ins; split <;> simp [ih]
theorem snoc_ind {α : Type} {P : List α → Prop} (h0 : P []) (h1 : ∀ x a, P x → P (x ++ [a])) (x : List α) : P x := by
 have : ∀ n (x : List α), x.length = n → P x := by
  intro n
  induction n with
  | zero => intro x h; obtain rfl := List.eq_nil_of_length_eq_zero h; exact h0
  | succ n ih =>
   intro x h
   have hne : x ≠ [] := by rintro rfl; simp at h
   have := h1 x.dropLast (x.getLast hne) (ih _ (by simp [h]))
   rwa [List.dropLast_concat_getLast hne] at this
 exact this _ x rfl
theorem isort_length {α : Type} (pr : α → Int) (x : List α) : (isort pr x).length = x.length := by
 induction x using snoc_ind with
 | h0 => rfl
 | h1 x a ih => rw [isort_snoc, ins_length, ih]; simp
theorem mem_ins {α : Type} (pr : α → Int) (a c : α) (y : List α) : c ∈ ins pr a y ↔ c = a ∨ c ∈ y := by
 induction y with
 | nil => simp [ins]
 | cons b t ih =>
  unfold ins
  split
  ·simp
  ·rw [List.mem_cons, ih, List.mem_cons]
   constructor
   ·rintro (h | h | h)
    ·exact .inr (.inl h)
    ·exact .inl h
    ·exact .inr (.inr h)
   ·rintro (h | h | h)
    ·exact .inr (.inl h)
    ·exact .inl h
    ·exact .inr (.inr h)
theorem mem_isort {α : Type} (pr : α → Int) (c : α) (x : List α) : c ∈ isort pr x ↔ c ∈ x := by
 induction x using snoc_ind with
 | h0 => simp [isort]
 | h1 x a ih => rw [isort_snoc, mem_ins, ih]; simp [or_comm]
theorem ins_sorted {α : Type} (pr : α → Int) (a : α) {y : List α} (h : y.Pairwise (fun a b => pr a ≤ pr b)) : (ins pr a y).Pairwise (fun a b => pr a ≤ pr b) := by
 induction y with
 | nil => simp [ins]
 | cons b t ih =>
  rw [List.pairwise_cons] at h
  unfold ins
  split
  ·rename_i hab
   refine List.pairwise_cons.2 ⟨fun c hc => ?_, List.pairwise_cons.2 h⟩
   rcases List.mem_cons.1 hc with rfl | hc
   ·omega
   ·have := h.1 c hc; omega
  ·refine List.pairwise_cons.2 ⟨fun c hc => ?_, ih h.2⟩
   rcases (mem_ins pr a c t).1 hc with rfl | hc
   ·omega
   ·exact h.1 c hc
theorem isort_sorted {α : Type} (pr : α → Int) (x : List α) : (isort pr x).Pairwise (fun a b => pr a ≤ pr b) := by
 induction x using snoc_ind with
 | h0 => exact List.Pairwise.nil
 | h1 x a ih => rw [isort_snoc]; exact ins_sorted pr a ih
theorem ins_map {α : Type} (pr : α → Int) (f : α → α) (hf : ∀ a, pr (f a) = pr a) (a : α) (y : List α) : ins pr (f a) (y.map f) = (ins pr a y).map f := by
 induction y with
 | nil => rfl
 | cons b t ih =>
  simp only [ins, List.map_cons, hf]
  split
  ·rfl
  ·rw [List.map_cons, ih]
theorem isort_map {α : Type} (pr : α → Int) (f : α → α) (hf : ∀ a, pr (f a) = pr a) (x : List α) : isort pr (x.map f) = (isort pr x).map f := by
 induction x using snoc_ind with
 | h0 => rfl
 | h1 x a ih => rw [List.map_append, List.map_singleton, isort_snoc, isort_snoc, ih, ins_map pr f hf]
theorem ins_filter {α : Type} (pr : α → Int) (q : α → Bool) (a : α) {y : List α} (h : y.Pairwise (fun a b => pr a ≤ pr b)) : (ins pr a y).filter q = if q a = true then ins pr a (y.filter q) else y.filter q := by
 induction y with
 | nil => simp only [ins, List.filter_nil]; cases hq : q a <;> simp [hq]
 | cons b t ih =>
  rw [List.pairwise_cons] at h
  have ih := ih h.2
  rw [ins_cons]
  by_cases hab : pr a < pr b
  ·rw [if_pos hab]
   -- all of b :: t is above a
   have hall : ∀ c ∈ (b :: t).filter q, pr a < pr c := by
    intro c hc
    have hc := (List.mem_filter.1 hc).1
    rcases List.mem_cons.1 hc with rfl | hc
    ·exact hab
    ·have := h.1 c hc; omega
   have hi : ins pr a ((b :: t).filter q) = a :: (b :: t).filter q := by
    generalize (b :: t).filter q = z at hall
    cases z with
    | nil => rfl
    | cons c u => rw [ins_cons, if_pos (hall c (by simp))]
   cases hq : q a with
   | true => rw [if_pos rfl, hi, List.filter_cons_of_pos hq]
   | false => rw [if_neg (by simp), List.filter_cons_of_neg (by simp [hq])]
  ·rw [if_neg hab]
   cases hb : q b with
   | true =>
    rw [List.filter_cons_of_pos hb, List.filter_cons_of_pos hb, ih]
    cases hq : q a with
    | true => rw [if_pos rfl, if_pos rfl, ins_cons, if_neg hab]
    | false => rw [if_neg (by simp), if_neg (by simp)]
   | false => rw [List.filter_cons_of_neg (by simp [hb]), List.filter_cons_of_neg (by simp [hb]), ih]
theorem isort_filter {α : Type} (pr : α → Int) (q : α → Bool) (x : List α) : isort pr (x.filter q) = (isort pr x).filter q := by
 induction x using snoc_ind with
 | h0 => rfl
 | h1 x a ih =>
  rw [isort_snoc, ins_filter pr q a (isort_sorted pr x), List.filter_append]
  cases hq : q a with
  | true => rw [if_pos rfl, List.filter_cons_of_pos hq, List.filter_nil, isort_snoc, ih]
  | false => rw [if_neg (by simp), List.filter_cons_of_neg (by simp [hq]), List.filter_nil, List.append_nil, ih]
def better {α : Type} (pr : α → Int) (q : α → Bool) (b : Option α) (a : α) : Option α :=
 if q a = true ∧ (∀ c, b = some c → pr a < pr c) then some a else b
theorem better_none {α : Type} (pr : α → Int) (q : α → Bool) (a : α) : better pr q none a = if q a = true then some a else none := by
 unfold better
 by_cases h : q a = true
 ·rw [if_pos ⟨h, fun c hc => by cases hc⟩, if_pos h]
 ·rw [if_neg (fun hh => h hh.1), if_neg h]
theorem better_some {α : Type} (pr : α → Int) (q : α → Bool) (a c : α) : better pr q (some c) a = if q a = true ∧ pr a < pr c then some a else some c := by
 unfold better
 by_cases h : q a = true ∧ pr a < pr c
 ·rw [if_pos ⟨h.1, fun d hd => by cases hd; exact h.2⟩, if_pos h]
 ·rw [if_neg (fun hh => h ⟨hh.1, hh.2 c rfl⟩), if_neg h]
theorem find_ins {α : Type} (pr : α → Int) (q : α → Bool) (a : α) {y : List α} (h : y.Pairwise (fun a b => pr a ≤ pr b)) : (ins pr a y).find? q = better pr q (y.find? q) a := by
 induction y with
 | nil => rw [List.find?_nil, better_none, ins]; cases h : q a with
  | true => rw [List.find?_cons_of_pos h, if_pos rfl]
  | false => rw [List.find?_cons_of_neg (by simp [h]), if_neg (by simp)]; rfl
 | cons b t ih =>
  rw [List.pairwise_cons] at h
  have ih := ih h.2
  rw [ins_cons]
  by_cases hab : pr a < pr b
  ·rw [if_pos hab, List.find?_cons]
   cases hq : q a with
   | true =>
    dsimp only
    unfold better
    have hall : ∀ c, t.find? q = some c ∨ b = c → pr a < pr c := by
     intro c hc
     rcases hc with hc | rfl
     ·have hm := List.mem_of_find?_eq_some hc
      have := h.1 c hm; omega
     ·exact hab
    have : ∀ c, (b :: t).find? q = some c → pr a < pr c := by
     intro c hc
     refine hall c ?_
     cases hb : q b with
     | true => rw [List.find?_cons_of_pos hb] at hc; injection hc with e; exact .inr e
     | false => rw [List.find?_cons_of_neg (by simp [hb])] at hc; exact .inl hc
    rw [if_pos ⟨hq, this⟩]
   | false =>
    dsimp only
    unfold better
    rw [if_neg (fun hh => by rw [hq] at hh; cases hh.1)]
  ·rw [if_neg hab, List.find?_cons]
   cases hb : q b with
   | true =>
    dsimp only
    rw [List.find?_cons_of_pos hb, better_some, if_neg (fun hh => hab hh.2)]
   | false =>
    dsimp only
    rw [List.find?_cons_of_neg (by simp [hb]), ih]
theorem find_isort {α : Type} (pr : α → Int) (q : α → Bool) (x : List α) : (isort pr x).find? q = x.foldl (better pr q) none := by
 induction x using snoc_ind with
 | h0 => rfl
 | h1 x a ih => rw [isort_snoc, find_ins pr q a (isort_sorted pr x), ih, List.foldl_append]; rfl
theorem ins_apart {α : Type} (pr : α → Int) {S : α → α → Prop} (hs : ∀ a b, S a b → S b a) (a : α) {y : List α} (h : y.Pairwise S) (ha : ∀ b ∈ y, S a b) : (ins pr a y).Pairwise S := by
 induction y with
 | nil => simp [ins]
 | cons b t ih =>
  rw [List.pairwise_cons] at h
  unfold ins
  split
  ·exact List.pairwise_cons.2 ⟨ha, List.pairwise_cons.2 h⟩
  ·refine List.pairwise_cons.2 ⟨fun c hc => ?_, ih h.2 (fun c hc => ha c (by simp [hc]))⟩
   rcases (mem_ins pr a c t).1 hc with rfl | hc
   ·exact hs _ _ (ha b (by simp))
   ·exact h.1 c hc
theorem isort_apart {α : Type} (pr : α → Int) {S : α → α → Prop} (hs : ∀ a b, S a b → S b a) {x : List α} (h : x.Pairwise S) : (isort pr x).Pairwise S := by
 induction x using snoc_ind with
 | h0 => exact List.Pairwise.nil
 | h1 x a ih =>
  rw [List.pairwise_append] at h
  rw [isort_snoc]
  refine ins_apart pr hs a (ih h.1) (fun b hb => ?_)
  exact hs _ _ (h.2.2 b ((mem_isort pr b x).1 hb) a (by simp))
theorem find_next {α : Type} (same : α → α → Bool) (hr : ∀ a, same a a = true) (y : List α) (k : Nat) (h : y.Pairwise (fun a b => same a b = false)) : y.find? (fun a => !((y.take k).any (fun b => same b a))) = y[k]? := by
 have h1 : ∀ a ∈ y.take k, ¬ (!((y.take k).any (fun b => same b a))) = true := by
  intro a ha
  have : (y.take k).any (fun b => same b a) = true := List.any_eq_true.2 ⟨a, ha, hr a⟩
  rw [this]; simp
 rcases Nat.lt_or_ge k y.length with hk | hk
 ·have hy : y = y.take k ++ y[k] :: y.drop (k + 1) := by rw [← List.drop_eq_getElem_cons hk, List.take_append_drop]
  have h2 : (!((y.take k).any (fun b => same b y[k]))) = true := by
   have : (y.take k).any (fun b => same b y[k]) = false := by
    rw [List.any_eq_false]
    intro b hb
    have h := h
    rw [hy, List.pairwise_append] at h
    have h5 : same b y[k] = false := h.2.2 b hb y[k] (List.mem_cons_self)
    rw [h5]; exact Bool.false_ne_true
   rw [this]; rfl
  rw [List.getElem?_eq_getElem hk]
  have : ∀ (p : α → Bool), (∀ a ∈ y.take k, ¬ p a = true) → p y[k] = true → y.find? p = some y[k] := by
   intro p hp1 hp2
   conv => lhs; rw [hy]
   rw [List.find?_append, List.find?_eq_none.2 hp1, Option.none_or, List.find?_cons_of_pos hp2]
  exact this _ h1 h2
 ·rw [List.getElem?_eq_none hk]
  rw [List.take_of_length_le hk] at h1 ⊢
  exact List.find?_eq_none.2 h1
theorem ins_at {α : Type} (pr : α → Int) (a : α) (y : List α) : ins pr a y = y.take (y.findIdx (fun b => decide (pr a < pr b))) ++ a :: y.drop (y.findIdx (fun b => decide (pr a < pr b))) := by
 induction y with
 | nil => rfl
 | cons b t ih =>
  unfold ins
  rw [List.findIdx_cons]
  by_cases h : pr a < pr b
  ·rw [if_pos h, decide_eq_true h]; rfl
  ·rw [if_neg h, decide_eq_false h, ih]; rfl
theorem alone {α : Type} {same : α → α → Bool} (ht : ∀ a b x, same a x = true → same b x = true → same a b = true) {z : α} {t : List α} (h : (z :: t).Pairwise (fun a b => same a b = false)) {x : α} (hz : same z x = true) : ∀ c ∈ t, same c x = false := by
 intro c hc
 cases hcx : same c x with
 | false => rfl
 | true =>
  have h1 := ht z c x hz hcx
  rw [(List.pairwise_cons.1 h).1 c hc] at h1
  cases h1
theorem set_map {α : Type} {same : α → α → Bool} (ht : ∀ a b x, same a x = true → same b x = true → same a b = true) (f : α → α) (x : α) : ∀ (y : List α) (i : Nat) (z : α), y.Pairwise (fun a b => same a b = false) → y[i]? = some z → same z x = true → y.set i (f z) = y.map (fun c => if same c x = true then f c else c)
 | [], i, z, _, hi, _ => by simp at hi
 | b :: t, 0, z, h, hi, hz => by
  simp only [List.getElem?_cons_zero, Option.some.injEq] at hi
  subst hi
  have ha := alone ht h hz
  rw [List.set_cons_zero, List.map_cons, if_pos hz]
  congr 1
  symm
  conv => rhs; rw [← List.map_id t]
  exact List.map_congr_left (fun c hc => by rw [if_neg (by rw [ha c hc]; simp)]; rfl)
 | b :: t, i + 1, z, h, hi, hz => by
  simp only [List.getElem?_cons_succ] at hi
  have hzt := List.mem_of_getElem? hi
  have hb : same b x = false := by
   cases hbx : same b x with
   | false => rfl
   | true =>
    have h1 := ht b z x hbx hz
    rw [(List.pairwise_cons.1 h).1 z hzt] at h1
    cases h1
  rw [List.set_cons_succ, List.map_cons, if_neg (by rw [hb]; simp), set_map ht f x t i z (List.pairwise_cons.1 h).2 hi hz]
theorem erase_filter {α : Type} {same : α → α → Bool} (ht : ∀ a b x, same a x = true → same b x = true → same a b = true) (x : α) : ∀ (y : List α) (i : Nat) (z : α), y.Pairwise (fun a b => same a b = false) → y[i]? = some z → same z x = true → y.eraseIdx i = y.filter (fun c => !same c x)
 | [], i, z, _, hi, _ => by simp at hi
 | b :: t, 0, z, h, hi, hz => by
  simp only [List.getElem?_cons_zero, Option.some.injEq] at hi
  subst hi
  have ha := alone ht h hz
  rw [List.eraseIdx_cons_zero, List.filter_cons_of_neg (by rw [hz]; simp)]
  exact (List.filter_eq_self.2 (fun c hc => by rw [ha c hc]; rfl)).symm
 | b :: t, i + 1, z, h, hi, hz => by
  simp only [List.getElem?_cons_succ] at hi
  have hzt := List.mem_of_getElem? hi
  have hb : same b x = false := by
   cases hbx : same b x with
   | false => rfl
   | true =>
    have h1 := ht b z x hbx hz
    rw [(List.pairwise_cons.1 h).1 z hzt] at h1
    cases h1
  rw [List.eraseIdx_cons_succ, List.filter_cons_of_pos (by rw [hb]; rfl), erase_filter ht x t i z (List.pairwise_cons.1 h).2 hi hz]
end Go.Proofs.Ytfdbcnbakchcgaa.XQ
