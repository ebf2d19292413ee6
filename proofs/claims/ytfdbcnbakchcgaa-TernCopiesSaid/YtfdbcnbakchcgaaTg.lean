import Derived.Test.YtfdbcnbakchcgaaTh
import Derived.Test.YtfdbcnbakchcgaaXTx14
namespace Go.Proofs.Ytfdbcnbakchcgaa.XT
open Go.RowKit Go.Proofs.YtfdbcnbakchcgaaW.PrintWords Go.Proofs.YtfdbcnbakchcgaaW.PrintLast Go.Proofs.YtfdbcnbakchcgaaW.PrintMore
attribute [local go_sem] max2_int min2_int max_two min_two max_three min_three max_four min_four   -- for this text's walks alone
set_option linter.unusedVariables false
set_option linter.unusedSimpArgs false
/-- A rule as the program has it. -/
def cv (y : S78) : S59 := ⟨y.f0, y.f1, y.f2, y.f3⟩
def vc (y : S59) : S78 := ⟨y.f0, y.f1, y.f2, y.f3⟩
/-- The program's list of the rules that were put. -/
def isoT (x : List S78) : List S59 := isort (fun y : S59 => y.f2) (x.map cv)
theorem isoT_length (x : List S78) : (isoT x).length = x.length := by unfold isoT; rw [isort_length, List.length_map]
theorem mem_isoT (x : List S78) (y : S59) : y ∈ isoT x ↔ ∃ z ∈ x, cv z = y := by unfold isoT; rw [mem_isort, List.mem_map]
theorem isoT_any (x : List S78) (p : S59 → Bool) : (isoT x).any p = x.any (fun z => p (cv z)) := by
 rw [Bool.eq_iff_iff, List.any_eq_true, List.any_eq_true]
 constructor
 ·rintro ⟨y, hy, hp⟩
  obtain ⟨z, hz, rfl⟩ := (mem_isoT x y).1 hy
  exact ⟨z, hz, hp⟩
 ·rintro ⟨z, hz, hp⟩
  exact ⟨cv z, (mem_isoT x _).2 ⟨z, hz, rfl⟩, hp⟩
def okV (v : S32) : Prop := 0 ≤ v.f1 ∧ v.f1 < 2 ^ 64 ∧ 0 ≤ v.f2 ∧ v.f2 < 2 ^ 64
def okI (y : S59) : Prop := okV y.f0 ∧ okV y.f1
def vV (v : S32) : Nat := valW v.f1 v.f2
theorem vV_lt {v : S32} (h : okV v) : vV v < 2 ^ 128 := valW_lt h.1 h.2.1 h.2.2.1 h.2.2.2
theorem vV_hi {v : S32} (h : okV v) : hiW (vV v) = v.f1 := hiW_valW h.1 h.2.1 h.2.2.1 h.2.2.2
theorem vV_lo {v : S32} (h : okV v) : loW (vV v) = v.f2 := loW_valW h.2.2.1 h.2.2.2
/-- Why a rule may not be, by number. -/
def mayV (W : Int) (x : S59) : Int :=
 if vmay x.f0.f0 (vV x.f0) = true ∧ vmay x.f1.f0 (vV x.f1) = true ∧ x.f0.f0 = W ∧ x.f1.f0 = W then
  (if inV x.f0.f0 (vV x.f0) x.f1.f0 (vV x.f1) = true then (if x.f2 < 0 then 7 else if 65535 < x.f2 then 7 else 0) else 14) else 9
theorem mayV_yes {W : Int} {x : S59} (h : vmay x.f0.f0 (vV x.f0) = true ∧ vmay x.f1.f0 (vV x.f1) = true ∧ x.f0.f0 = W ∧ x.f1.f0 = W) : mayV W x = (if inV x.f0.f0 (vV x.f0) x.f1.f0 (vV x.f1) = true then (if x.f2 < 0 then 7 else if 65535 < x.f2 then 7 else 0) else 14) := if_pos h
theorem mayV_no {W : Int} {x : S59} (h : ¬ (vmay x.f0.f0 (vV x.f0) = true ∧ vmay x.f1.f0 (vV x.f1) = true ∧ x.f0.f0 = W ∧ x.f1.f0 = W)) : mayV W x = 9 := if_neg h
theorem mayT_eq (W : Int) (x : S59) (h : okI x) : mayT W x = some (mayV W x) := by
 have e1 := vec_May_eq x.f0.f0 (vV x.f0) (vV_lt h.1)
 have e2 := vec_May_eq x.f1.f0 (vV x.f1) (vV_lt h.2)
 have e3 := inside_eq x.f0.f0 x.f1.f0 (vV x.f0) (vV x.f1) (vV_lt h.1) (vV_lt h.2)
 rw [vV_hi h.1, vV_lo h.1] at e1 e3
 rw [vV_hi h.2, vV_lo h.2] at e2 e3
 unfold mayT
 rw [e1, e2, e3]
 simp only [Option.bind_some]
 by_cases c1 : vmay x.f0.f0 (vV x.f0) = true
 ·rw [if_pos c1]
  by_cases c2 : vmay x.f1.f0 (vV x.f1) = true
  ·rw [if_pos c2]
   by_cases c3 : x.f0.f0 = W
   ·rw [if_pos c3]
    by_cases c4 : x.f1.f0 = W
    ·rw [if_pos c4, mayV_yes ⟨c1, c2, c3, c4⟩]
     split <;> rfl
    ·rw [if_neg c4, mayV_no (fun hh => c4 hh.2.2.2)]
   ·rw [if_neg c3, mayV_no (fun hh => c3 hh.2.2.1)]
  ·rw [if_neg c2, mayV_no (fun hh => c2 hh.2.1)]
 ·rw [if_neg c1, mayV_no (fun hh => c1 hh.1)]
theorem ref21_May_eq (k : Nat) (W : Int) (x : S59) (h : okI x) : shunterref21_May.f (k + 1) W x.f0.f0 x.f0.f1 x.f0.f2 x.f1.f0 x.f1.f1 x.f1.f2 x.f2 x.f3 = some (mayV W x) := by
 have e1 := ref02_May_eq x.f0.f0 (vV x.f0) (vV_lt h.1)
 have e2 := ref02_May_eq x.f1.f0 (vV x.f1) (vV_lt h.2)
 have e3 := ref21_Inside_eq x.f0.f0 x.f1.f0 (vV x.f0) (vV x.f1) (vV_lt h.1) (vV_lt h.2)
 rw [vV_hi h.1, vV_lo h.1] at e1 e3
 rw [vV_hi h.2, vV_lo h.2] at e2 e3
 unfold shunterref21_May.f
 simp only [shunterref21_May.j0]
 rw [e1, e2, e3]
 simp only [Option.bind_some]
 by_cases c1 : vmay x.f0.f0 (vV x.f0) = true
 ·rw [if_pos c1]
  by_cases c2 : vmay x.f1.f0 (vV x.f1) = true
  ·rw [if_pos c2]
   by_cases c3 : x.f0.f0 = W
   ·rw [if_pos c3]
    by_cases c4 : x.f1.f0 = W
    ·rw [if_neg (by simpa using c4), mayV_yes ⟨c1, c2, c3, c4⟩]
     split
     ·split
      ·rfl
      ·split <;> rfl
     ·rfl
    ·rw [if_pos (by simpa using c4), mayV_no (fun hh => c4 hh.2.2.2)]
   ·rw [if_neg c3, if_pos trivial, mayV_no (fun hh => c3 hh.2.2.1)]
  ·rw [if_neg c2, if_pos trivial, mayV_no (fun hh => c2 hh.2.1)]
 ·rw [if_neg c1, if_pos trivial, mayV_no (fun hh => c1 hh.1)]
/-- The place of a rule, from i on; -1. -/
def fidx (p : S78 → Bool) (l : List S78) (i : Nat) : Int := if (l.drop i).findIdx p < (l.drop i).length then ((i + (l.drop i).findIdx p : Nat) : Int) else -1
theorem fidx_step (p : S78 → Bool) (l : List S78) (i : Nat) (h : i < l.length) : fidx p l i = if p l[i] = true then (i : Int) else fidx p l (i + 1) := by
 unfold fidx
 rw [List.drop_eq_getElem_cons h, List.findIdx_cons]
 cases hp : p l[i] with
 | true => rw [cond_true, if_pos (by simp; omega), if_pos rfl, Nat.add_zero]
 | false =>
  simp only [cond_false, List.length_cons, Nat.add_lt_add_iff_right, Bool.false_eq_true, if_false]
  split
  ·congr 1; omega
  ·rfl
theorem fidx_end (p : S78 → Bool) (l : List S78) : fidx p l l.length = -1 := by unfold fidx; rw [List.drop_length]; simp
theorem ref21_Find_loop (l : List S78) (hl : l.length < 1000000) (x : S59) : ∀ (n k i : Nat), i + n = l.length → n < k →
 shunterref21_Find.l0 k l (i : Int) x.f0.f0 x.f0.f1 x.f0.f2 x.f1.f0 x.f1.f1 x.f1.f2 x.f2 x.f3 = some (fidx (fun y => sameT (cv y) x) l i)
 | 0, k, i, h, hk => by
  obtain ⟨k, rfl⟩ : ∃ m, k = m + 1 := ⟨k - 1, by omega⟩
  obtain rfl : i = l.length := by omega
  simp only [shunterref21_Find.l0]
  rw [if_neg (by omega), fidx_end]
 | n + 1, k, i, h, hk => by
  obtain ⟨k, rfl⟩ : ∃ m, k = m + 1 := ⟨k - 1, by omega⟩
  have ih := ref21_Find_loop l hl x n k (i + 1) (by omega) (by omega)
  have hi : i < l.length := by omega
  simp only [shunterref21_Find.l0]
  rw [if_pos (by omega), if_pos (by omega), rd78 l i hi, wrap64_id _ (by omega) (by omega), show ((i : Int) + 1) = ((i + 1 : Nat) : Int) by omega, ih, fidx_step _ l i hi]
  generalize l[i] = y
  obtain ⟨⟨a, b, c⟩, ⟨d, e, f⟩, g, hh⟩ := y
  obtain ⟨⟨a', b', c'⟩, ⟨d', e', f'⟩, g', h'⟩ := x
  have hs : sameT (cv ⟨⟨a, b, c⟩, ⟨d, e, f⟩, g, hh⟩) ⟨⟨a', b', c'⟩, ⟨d', e', f'⟩, g', h'⟩ = true ↔ (a = a' ∧ b = b' ∧ c = c') ∧ (d = d' ∧ e = e' ∧ f = f') ∧ g = g' := by
   rw [sameT_iff]; simp only [cv, S32.mk.injEq]
  dsimp only
  by_cases c1 : (a == a' && (b == b' && c == c')) = true
  ·rw [if_pos c1]
   by_cases c2 : (d == d' && (e == e' && f == f')) = true
   ·rw [if_pos c2]
    simp only [Bool.and_eq_true, beq_iff_eq] at c1 c2
    by_cases c3 : g = g'
    ·rw [if_pos c3, if_pos (hs.2 ⟨⟨c1.1, c1.2.1, c1.2.2⟩, ⟨c2.1, c2.2.1, c2.2.2⟩, c3⟩)]
    ·rw [if_neg c3, if_neg (fun hx => c3 (hs.1 hx).2.2)]
   ·rw [if_neg c2, if_neg (fun hx => c2 (by simp only [Bool.and_eq_true, beq_iff_eq]; exact (hs.1 hx).2.1))]
  ·rw [if_neg c1, if_neg (fun hx => c1 (by simp only [Bool.and_eq_true, beq_iff_eq]; exact (hs.1 hx).1))]
theorem ref21_Find_eq (k : Nat) (l : List S78) (hl : l.length < 1000000) (hk : l.length < k) (x : S59) : shunterref21_Find.f k l x.f0.f0 x.f0.f1 x.f0.f2 x.f1.f0 x.f1.f1 x.f1.f2 x.f2 x.f3 = some (fidx (fun y => sameT (cv y) x) l 0) :=
 ref21_Find_loop l hl x l.length k 0 (by omega) hk
theorem fidx_neg {p : S78 → Bool} {l : List S78} (h : l.any p = false) : fidx p l 0 = -1 := by
 unfold fidx
 rw [List.drop_zero, if_neg (fun hh => by have := List.findIdx_lt_length.1 hh; rw [← List.any_eq_true, h] at this; cases this)]
theorem fidx_pos {p : S78 → Bool} {l : List S78} (h : l.any p = true) : ∃ (i : Nat) (hi : i < l.length), fidx p l 0 = (i : Int) ∧ p l[i] = true := by
 have hlt : l.findIdx p < l.length := List.findIdx_lt_length.2 (by rw [List.any_eq_true] at h; exact h)
 refine ⟨l.findIdx p, hlt, ?_, List.findIdx_getElem⟩
 unfold fidx
 rw [List.drop_zero, if_pos hlt, Nat.zero_add]
/-- Put, Set and Drop of the reference. -/
def rputL (c m : Int) (l : List S78) (x : S59) : List S78 := if putE c m (isoT l) x = 0 then l ++ [vc x] else l
def rsetL (c : Int) (l : List S78) (x : S59) : List S78 := if c = 0 then l.map (fun y => if sameT (cv y) x = true then { y with f3 := x.f3 } else y) else l
def rdropL (c : Int) (l : List S78) (x : S59) : List S78 := if c = 0 then l.filter (fun y => !sameT (cv y) x) else l
theorem vc_flat (x : S59) : (⟨⟨x.f0.f0, x.f0.f1, x.f0.f2⟩, ⟨x.f1.f0, x.f1.f1, x.f1.f2⟩, x.f2, x.f3⟩ : S78) = vc x := rfl
theorem ref21_Put_eq (k : Nat) (l : List S78) (hk : l.length < k) (hl : l.length < 1000000) (W m : Int) (hm : (l.length : Int) ≤ m) (x : S59) (h : okI x) :
 shunterref21_Put.f k l W m x.f0.f0 x.f0.f1 x.f0.f2 x.f1.f0 x.f1.f1 x.f1.f2 x.f2 x.f3 = some (rputL (mayV W x) m l x, putE (mayV W x) m (isoT l) x) := by
 obtain ⟨k, rfl⟩ : ∃ m, k = m + 1 := ⟨k - 1, by omega⟩
 unfold shunterref21_Put.f rputL
 rw [ref21_May_eq k W x h, Option.bind_some, ref21_Find_eq (k + 1) l hl hk x, Option.bind_some]
 unfold putE
 rw [isoT_any, isoT_length]
 by_cases c0 : mayV W x = 0
 ·rw [if_pos c0, if_neg (show ¬ mayV W x ≠ 0 from fun hh => hh c0)]
  cases ha : l.any (fun z => sameT (cv z) x) with
  | true =>
   obtain ⟨i, hi, e, _⟩ := fidx_pos ha
   rw [e, if_pos (by omega), if_pos rfl, if_neg (by decide)]
  | false =>
   rw [fidx_neg ha, if_neg (by decide), if_neg (show ¬ (false = true) by simp)]
   by_cases c1 : (l.length : Int) = m
   ·rw [if_pos (by omega), if_pos c1, if_neg (by decide)]
   ·rw [if_neg (by omega), if_neg c1, if_pos rfl, if_pos (by simp; omega), Option.bind_some, if_pos (by simp; omega), vc_flat, List.nil_append]
 ·rw [if_neg c0, if_pos c0, if_neg c0]
theorem ref21_Set_eq (k : Nat) (l : List S78) (hk : l.length < k) (hl : l.length < 1000000) (W : Int) (x : S59) (h : okI x) (hd : l.Pairwise (fun a b => sameT (cv a) (cv b) = false)) :
 shunterref21_Set.f k l W x.f0.f0 x.f0.f1 x.f0.f2 x.f1.f0 x.f1.f1 x.f1.f2 x.f2 x.f3 = some (rsetL (mayV W x) l x, setE (mayV W x) (isoT l) x) := by
 obtain ⟨k, rfl⟩ : ∃ m, k = m + 1 := ⟨k - 1, by omega⟩
 unfold shunterref21_Set.f rsetL
 rw [ref21_May_eq k W x h, Option.bind_some, ref21_Find_eq (k + 1) l hl hk x, Option.bind_some]
 unfold setE
 rw [isoT_any]
 by_cases c0 : mayV W x = 0
 ·rw [if_pos c0, if_pos c0, if_neg (show ¬ mayV W x ≠ 0 from fun hh => hh c0)]
  cases ha : l.any (fun z => sameT (cv z) x) with
  | true =>
   obtain ⟨i, hi, e, hs⟩ := fidx_pos ha
   rw [e, if_neg (by omega), if_pos (by simp; omega), Option.bind_some, if_pos (by omega), List.nil_append, if_pos (by omega), if_pos rfl, rd78 l i hi, Int.toNat_natCast]
   have hm := set_map (same := fun a b => sameT (cv a) (cv b)) (fun a b x h1 h2 => sameT_trans _ _ _ h1 h2) (fun y : S78 => { y with f3 := x.f3 }) (vc x) l i l[i] hd (List.getElem?_eq_getElem hi) hs
   congr 2
  | false =>
   rw [fidx_neg ha, if_pos (by decide), if_neg (by simp)]
   congr 2
   symm
   conv => rhs; rw [← List.map_id l]
   refine List.map_congr_left (fun y hy => ?_)
   rw [if_neg (fun hh => by rw [List.any_eq_false] at ha; exact ha y hy hh)]; rfl
 ·rw [if_neg c0, if_neg c0, if_pos c0]
theorem ref21_Drop_eq (k : Nat) (l : List S78) (hk : l.length < k) (hl : l.length < 1000000) (W : Int) (x : S59) (h : okI x) (hd : l.Pairwise (fun a b => sameT (cv a) (cv b) = false)) :
 shunterref21_Drop.f k l W x.f0.f0 x.f0.f1 x.f0.f2 x.f1.f0 x.f1.f1 x.f1.f2 x.f2 x.f3 = some (rdropL (mayV W x) l x, setE (mayV W x) (isoT l) x) := by
 obtain ⟨k, rfl⟩ : ∃ m, k = m + 1 := ⟨k - 1, by omega⟩
 unfold shunterref21_Drop.f rdropL
 rw [ref21_May_eq k W x h, Option.bind_some, ref21_Find_eq (k + 1) l hl hk x, Option.bind_some]
 unfold setE
 rw [isoT_any]
 by_cases c0 : mayV W x = 0
 ·rw [if_pos c0, if_pos c0, if_neg (show ¬ mayV W x ≠ 0 from fun hh => hh c0)]
  cases ha : l.any (fun z => sameT (cv z) x) with
  | true =>
   obtain ⟨i, hi, e, hs⟩ := fidx_pos ha
   rw [e, if_neg (by omega), if_pos (by omega), if_pos (by omega), Option.bind_some, if_pos (by simp; omega), Option.bind_some, wrap64_id _ (by omega) (by omega), if_pos (by omega), if_pos (by omega), Option.bind_some, if_pos (by simp; omega), if_pos rfl]
   have hm := erase_filter (same := fun a b => sameT (cv a) (cv b)) (fun a b x h1 h2 => sameT_trans _ _ _ h1 h2) (vc x) l i l[i] hd (List.getElem?_eq_getElem hi) hs
   have hm2 : l.filter (fun y => !sameT (cv y) x) = l.eraseIdx i := hm.symm
   rw [hm2, List.eraseIdx_eq_take_drop_succ, List.nil_append, Int.toNat_natCast, show ((i : Int) + 1).toNat = i + 1 by omega]
  | false =>
   rw [fidx_neg ha, if_pos (by decide), if_neg (by simp)]
   congr 2
   symm
   exact List.filter_eq_self.2 (fun y hy => by
    rw [List.any_eq_false] at ha
    have := ha y hy
    simp only [Bool.not_eq_true] at this
    rw [this]; rfl)
 ·rw [if_neg c0, if_neg c0, if_pos c0]
/-- What the program's list is after each. -/
theorem put_iso (c m : Int) (l : List S78) (x : S59) : putL c m (isoT l) x = isoT (rputL c m l x) := by
 unfold putL rputL
 split
 ·unfold isoT; rw [List.map_append, List.map_singleton, isort_snoc]; rfl
 ·rfl
theorem set_iso (c : Int) (l : List S78) (x : S59) : setL c (isoT l) x = isoT (rsetL c l x) := by
 unfold setL rsetL
 split
 ·unfold isoT
  have h := isort_map (fun y : S59 => y.f2) (fun y => if sameT y x = true then { y with f3 := x.f3 } else y) (fun a => by split <;> rfl) (l.map cv)
  rw [← h, List.map_map, List.map_map]
  congr 1
  refine List.map_congr_left (fun y _ => ?_)
  simp only [Function.comp_apply]
  split <;> rfl
 ·rfl
theorem drop_iso (c : Int) (l : List S78) (x : S59) : dropL c (isoT l) x = isoT (rdropL c l x) := by
 unfold dropL rdropL
 split
 ·unfold isoT
  rw [← isort_filter, List.filter_map]
  rfl
 ·rfl
/-- No two rules are the same. -/
def apart (l : List S78) : Prop := l.Pairwise (fun a b => sameT (cv a) (cv b) = false)
theorem apart_iso {l : List S78} (h : apart l) : (isoT l).Pairwise (fun a b => sameT a b = false) := by
 unfold isoT
 refine isort_apart _ (fun a b hh => by rw [sameT_comm]; exact hh) ?_
 rw [List.pairwise_map]; exact h
theorem apart_put {c m : Int} {l : List S78} {x : S59} (h : apart l) : apart (rputL c m l x) := by
 unfold rputL
 split
 ·rename_i e
  unfold apart
  rw [List.pairwise_append]
  refine ⟨h, by simp, fun a ha b hb => ?_⟩
  obtain rfl := List.mem_singleton.1 hb
  have hany : (isoT l).any (fun y => sameT y x) = false := by
   unfold putE at e
   split at e
   ·rename_i e2; exact absurd e e2
   ·split at e
    ·cases e
    ·rename_i e2; simpa using e2
  rw [isoT_any, List.any_eq_false] at hany
  exact (Bool.not_eq_true _).mp (hany a ha)
 ·exact h
theorem apart_set {c : Int} {l : List S78} {x : S59} (h : apart l) : apart (rsetL c l x) := by
 unfold rsetL
 split
 ·unfold apart
  rw [List.pairwise_map]
  refine h.imp (fun {a b} hab => ?_)
  have hc : ∀ z : S78, (cv (if sameT (cv z) x = true then { z with f3 := x.f3 } else z)).f0 = (cv z).f0 ∧ (cv (if sameT (cv z) x = true then { z with f3 := x.f3 } else z)).f1 = (cv z).f1 ∧ (cv (if sameT (cv z) x = true then { z with f3 := x.f3 } else z)).f2 = (cv z).f2 := by
   intro z; split <;> exact ⟨rfl, rfl, rfl⟩
  rw [Bool.eq_false_iff] at hab ⊢
  intro hh
  apply hab
  rw [sameT_iff] at hh ⊢
  rw [(hc a).1, (hc b).1, (hc a).2.1, (hc b).2.1, (hc a).2.2, (hc b).2.2] at hh
  exact hh
 ·exact h
theorem apart_drop {c : Int} {l : List S78} {x : S59} (h : apart l) : apart (rdropL c l x) := by
 unfold rdropL
 split
 ·exact List.Pairwise.filter _ h
 ·exact h
/-- Does a rule meet a key. -/
def qK (kw : Int) (K : Nat) (y : S59) : Bool := meV kw K y.f0.f0 (vV y.f0) y.f1.f0 (vV y.f1)
theorem vec_Meets_q (kw : Int) (K : Nat) (hK : K < 2 ^ 128) (y : S59) (h : okI y) : vec_Meets.f kw (hiW K) (loW K) y.f0.f0 y.f0.f1 y.f0.f2 y.f1.f0 y.f1.f1 y.f1.f2 = some (qK kw K y) := by
 have e := meets_eq kw y.f0.f0 y.f1.f0 K (vV y.f0) (vV y.f1) hK (vV_lt h.1) (vV_lt h.2)
 rw [vV_hi h.1, vV_lo h.1, vV_hi h.2, vV_lo h.2] at e
 exact e
theorem ref_Meets_q (k : Nat) (hk : 130 ≤ k) (kw : Int) (K : Nat) (hK : K < 2 ^ 128) (y : S59) (h : okI y) : shunterref02_Meets.f k kw (hiW K) (loW K) y.f0.f0 y.f0.f1 y.f0.f2 y.f1.f0 y.f1.f1 y.f1.f2 = some (qK kw K y) := by
 have e := ref02_Meets_eq k hk kw y.f0.f0 y.f1.f0 K (vV y.f0) (vV y.f1) hK (vV_lt h.1) (vV_lt h.2)
 rw [vV_hi h.1, vV_lo h.1, vV_hi h.2, vV_lo h.2] at e
 exact e
/-- The place of what was found. -/
def BestIs (l : List S78) (r : Int) (o : Option S59) : Prop := (r = -1 ∧ o = none) ∨ ∃ (j : Nat) (hj : j < l.length), r = (j : Int) ∧ o = some (cv l[j])
theorem best_step {l : List S78} {b : Int} {o : Option S59} (h : BestIs l b o) (i : Nat) (hi : i < l.length) (q : S59 → Bool) :
 BestIs l (if q (cv l[i]) = true then (if b < 0 then (i : Int) else if (l[i]).f2 < (rd_T78 l b).f2 then (i : Int) else b) else b) (better (fun y : S59 => y.f2) q o (cv l[i])) := by
 rcases h with ⟨rfl, rfl⟩ | ⟨j, hj, rfl, rfl⟩
 ·rw [better_none]
  by_cases c : q (cv l[i]) = true
  ·rw [if_pos c, if_pos (by decide), if_pos c]; exact .inr ⟨i, hi, rfl, rfl⟩
  ·rw [if_neg c, if_neg c]; exact .inl ⟨rfl, rfl⟩
 ·rw [better_some, rd78 l j hj]
  by_cases c : q (cv l[i]) = true
  ·rw [if_pos c, if_neg (by omega)]
   by_cases c2 : (l[i]).f2 < (l[j]).f2
   ·rw [if_pos c2, if_pos ⟨c, c2⟩]; exact .inr ⟨i, hi, rfl, rfl⟩
   ·rw [if_neg c2, if_neg (fun hh => c2 hh.2)]; exact .inr ⟨j, hj, rfl, rfl⟩
  ·rw [if_neg c, if_neg (fun hh => c hh.1)]; exact .inr ⟨j, hj, rfl, rfl⟩
theorem take_fold {l : List S78} (q : S59 → Bool) (i : Nat) (hi : i < l.length) : ((l.take (i + 1)).map cv).foldl (better (fun y : S59 => y.f2) q) none = better (fun y : S59 => y.f2) q (((l.take i).map cv).foldl (better (fun y : S59 => y.f2) q) none) (cv l[i]) := by
 rw [List.take_succ_eq_append_getElem hi, List.map_append, List.foldl_append]; rfl
theorem ref21_Get_loop (l : List S78) (hl : l.length < 1000000) (hok : ∀ y ∈ l, okI (cv y)) (kw : Int) (K : Nat) (hK : K < 2 ^ 128) : ∀ (n k i : Nat) (b : Int), i + n = l.length → n + 130 < k → BestIs l b (((l.take i).map cv).foldl (better (fun y : S59 => y.f2) (qK kw K)) none) →
 ∃ r, shunterref21_Get.l0 k l b (i : Int) kw (hiW K) (loW K) = some r ∧ BestIs l r ((isoT l).find? (qK kw K))
 | 0, k, i, b, h, hk, hb => by
  obtain ⟨k, rfl⟩ : ∃ m, k = m + 1 := ⟨k - 1, by omega⟩
  obtain rfl : i = l.length := by omega
  simp only [shunterref21_Get.l0]
  rw [if_neg (by omega)]
  refine ⟨b, rfl, ?_⟩
  rw [List.take_length] at hb
  unfold isoT
  rw [find_isort]; exact hb
 | n + 1, k, i, b, h, hk, hb => by
  obtain ⟨k, rfl⟩ : ∃ m, k = m + 1 := ⟨k - 1, by omega⟩
  have hi : i < l.length := by omega
  have hy := hok l[i] (List.getElem_mem hi)
  have hm := ref_Meets_q k (by omega) kw K hK (cv l[i]) hy
  have hs := best_step hb i hi (qK kw K)
  rw [← take_fold (qK kw K) i hi] at hs
  have hr : rd_T78 l (i : Int) = l[i] := rd78 l i hi
  simp only [shunterref21_Get.l0]
  rw [if_pos (by omega), if_pos (by omega), hr]
  have hm' : shunterref02_Meets.f k kw (hiW K) (loW K) (l[i]).f0.f0 (l[i]).f0.f1 (l[i]).f0.f2 (l[i]).f1.f0 (l[i]).f1.f1 (l[i]).f1.f2 = some (qK kw K (cv l[i])) := hm
  rw [hm', Option.bind_some, wrap64_id _ (by omega) (by omega), show ((i : Int) + 1) = ((i + 1 : Nat) : Int) by omega]
  by_cases c : qK kw K (cv l[i]) = true
  ·rw [if_pos c]
   rw [if_pos c] at hs
   by_cases c1 : b < 0
   ·rw [if_pos c1]
    rw [if_pos c1] at hs
    exact ref21_Get_loop l hl hok kw K hK n k (i + 1) _ (by omega) (by omega) hs
   ·rw [if_neg c1] at hs
    have hbl : b < (l.length : Int) := by
     rcases hb with ⟨rfl, _⟩ | ⟨j, hj, rfl, _⟩ <;> omega
    rw [if_neg c1, if_pos (by omega), if_pos hbl]
    by_cases c2 : (l[i]).f2 < (rd_T78 l b).f2
    ·rw [if_pos c2]
     rw [if_pos c2] at hs
     exact ref21_Get_loop l hl hok kw K hK n k (i + 1) _ (by omega) (by omega) hs
    ·rw [if_neg c2]
     rw [if_neg c2] at hs
     exact ref21_Get_loop l hl hok kw K hK n k (i + 1) _ (by omega) (by omega) hs
  ·rw [if_neg c]
   rw [if_neg c] at hs
   exact ref21_Get_loop l hl hok kw K hK n k (i + 1) _ (by omega) (by omega) hs
theorem ref21_Get_eq (k : Nat) (l : List S78) (hl : l.length < 1000000) (hk : l.length + 130 < k) (hok : ∀ y ∈ l, okI (cv y)) (kw : Int) (K : Nat) (hK : K < 2 ^ 128) :
 ∃ r, shunterref21_Get.f k l kw (hiW K) (loW K) = some r ∧ BestIs l r ((isoT l).find? (qK kw K)) :=
 ref21_Get_loop l hl hok kw K hK l.length k 0 (-1) (by omega) (by omega) (.inl ⟨rfl, rfl⟩)
end Go.Proofs.Ytfdbcnbakchcgaa.XT
