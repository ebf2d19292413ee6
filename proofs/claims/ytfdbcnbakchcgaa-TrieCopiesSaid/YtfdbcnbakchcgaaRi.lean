import Derived.Test.YtfdbcnbakchcgaaRh
import Derived.Test.YtfdbcnbakchcgaaRr
import Derived.Test.YtfdbcnbakchcgaaXRx6
import Derived.Test.YtfdbcnbakchcgaaXRx9
import Derived.Test.YtfdbcnbakchcgaaXRx12
namespace Go.Proofs.Ytfdbcnbakchcgaa.XR
open Go.RowKit Go.Proofs.YtfdbcnbakchcgaaW.PrintWords Go.Proofs.YtfdbcnbakchcgaaW.PrintLast Go.Proofs.YtfdbcnbakchcgaaW.PrintMore
attribute [local go_sem] max2_int min2_int max_two min_two max_three min_three max_four min_four   -- for this text's walks alone
set_option linter.unusedVariables false
set_option linter.unusedSimpArgs false
theorem mask_and (W X j : Nat) (hX : X < 2 ^ W) (hj : j ≤ W) : X &&& maskN W j = preN W X j * 2 ^ (W - j) := by
 refine Nat.eq_of_testBit_eq fun i => ?_
 rw [Nat.testBit_and, maskN_tb W j i hj, tb_shl]
 unfold preN
 rw [tb_shr]
 by_cases c : W - j ≤ i
 ·rw [decide_eq_true c, Bool.true_and, Bool.true_and, show i - (W - j) + (W - j) = i by omega]
  by_cases d : i < W
  ·rw [decide_eq_true d, Bool.and_true]
  ·rw [decide_eq_false d, Bool.and_false]
   exact (Nat.testBit_lt_two_pow (Nat.lt_of_lt_of_le hX (Nat.pow_le_pow_right (by decide) (by omega)))).symm
 ·rw [decide_eq_false c]; simp
def okP (W : Nat) (y : S45) : Prop := okV y.f0 ∧ mayP W y.f0.f0 (vV y.f0) y.f1 = 0
def toTI (W : Nat) (y : S45) : TI := ⟨y.f1.toNat, preN W (vV y.f0) y.f1.toNat, y.f2⟩
theorem okP_key {W : Nat} {y : S45} (h : okP W y) : y.f0.f0 = (W : Int) ∧ vV y.f0 < 2 ^ W ∧ ∃ j : Nat, y.f1 = (j : Int) ∧ j ≤ W ∧ vV y.f0 = preN W (vV y.f0) j * 2 ^ (W - j) := by
 obtain ⟨e1, e2, j, e3, e4, e5⟩ := mayP_zero h.2
 exact ⟨e1, e2, j, e3, e4, by rw [← mask_and W _ j e2 e4, e5]⟩
theorem same_iff {W : Nat} {a b : S45} (ha : okP W a) (hb : okP W b) : sameP (toTI W a) (toTI W b) = true ↔ a.f0 = b.f0 ∧ a.f1 = b.f1 := by
 obtain ⟨e1, e2, j, e3, e4, e5⟩ := okP_key ha
 obtain ⟨f1, f2, i, f3, f4, f5⟩ := okP_key hb
 rw [sameP_iff]
 unfold toTI
 simp only
 rw [e3, f3, Int.toNat_natCast, Int.toNat_natCast]
 constructor
 ·rintro ⟨rfl, h2⟩
  rw [h2] at e5
  have hv : vV a.f0 = vV b.f0 := e5.trans f5.symm
  have hh := vV_hi ha.1
  have hl := vV_lo ha.1
  rw [hv, vV_hi hb.1] at hh
  rw [hv, vV_lo hb.1] at hl
  refine ⟨?_, rfl⟩
  rcases ha0 : a.f0 with ⟨x, y, z⟩
  rcases hb0 : b.f0 with ⟨x', y', z'⟩
  rw [ha0] at e1 hh hl
  rw [hb0] at f1 hh hl
  simp only at e1 f1 hh hl
  rw [e1, f1, hh, hl]
 ·rintro ⟨h1, h2⟩
  have : i = j := by omega
  subst this
  rw [h1]; exact ⟨rfl, rfl⟩
/-- The place of a prefix, from i on; -1. -/
def fidx (p : S45 → Bool) (l : List S45) (i : Nat) : Int := if (l.drop i).findIdx p < (l.drop i).length then ((i + (l.drop i).findIdx p : Nat) : Int) else -1
theorem fidx_step (p : S45 → Bool) (l : List S45) (i : Nat) (h : i < l.length) : fidx p l i = if p l[i] = true then (i : Int) else fidx p l (i + 1) := by
 unfold fidx
 rw [List.drop_eq_getElem_cons h, List.findIdx_cons]
 cases hp : p l[i] with
 | true => rw [cond_true, if_pos (by simp; omega), if_pos rfl, Nat.add_zero]
 | false =>
  simp only [cond_false, List.length_cons, Nat.add_lt_add_iff_right, Bool.false_eq_true, if_false]
  split
  ·congr 1; omega
  ·rfl
theorem fidx_end (p : S45 → Bool) (l : List S45) : fidx p l l.length = -1 := by unfold fidx; rw [List.drop_length]; simp
theorem fidx_neg {p : S45 → Bool} {l : List S45} (h : l.any p = false) : fidx p l 0 = -1 := by
 unfold fidx
 rw [List.drop_zero, if_neg (fun hh => by have := List.findIdx_lt_length.1 hh; rw [← List.any_eq_true, h] at this; cases this)]
theorem fidx_pos {p : S45 → Bool} {l : List S45} (h : l.any p = true) : ∃ (i : Nat) (hi : i < l.length), fidx p l 0 = (i : Int) ∧ p l[i] = true := by
 have hlt : l.findIdx p < l.length := List.findIdx_lt_length.2 (by rw [List.any_eq_true] at h; exact h)
 refine ⟨l.findIdx p, hlt, ?_, List.findIdx_getElem⟩
 unfold fidx
 rw [List.drop_zero, if_pos hlt, Nat.zero_add]
theorem rd45 (l : List S45) (i : Nat) (h : i < l.length) : rd_T45 l (i : Int) = l[i] := by simp [rd_T45, List.getD_eq_getElem?_getD, h]
theorem ref20_Find_loop (W : Nat) (l : List S45) (hl : l.length < 1000000) (hok : ∀ y ∈ l, okP W y) (x : S45) (hx : okP W x) : ∀ (n k i : Nat), i + n = l.length → n < k →
 shunterref20_Find.l0 k l x.f1 (i : Int) x.f0.f0 x.f0.f1 x.f0.f2 = some (fidx (fun y => sameP (toTI W y) (toTI W x)) l i)
 | 0, k, i, h, hk => by
  obtain ⟨k, rfl⟩ : ∃ m, k = m + 1 := ⟨k - 1, by omega⟩
  obtain rfl : i = l.length := by omega
  simp only [shunterref20_Find.l0]
  rw [if_neg (by omega), fidx_end]
 | n + 1, k, i, h, hk => by
  obtain ⟨k, rfl⟩ : ∃ m, k = m + 1 := ⟨k - 1, by omega⟩
  have ih := ref20_Find_loop W l hl hok x hx n k (i + 1) (by omega) (by omega)
  have hi : i < l.length := by omega
  have hs := same_iff (hok l[i] (List.getElem_mem hi)) hx
  simp only [shunterref20_Find.l0]
  rw [if_pos (by omega), if_pos (by omega), rd45 l i hi, wrap64_id _ (by omega) (by omega), show ((i : Int) + 1) = ((i + 1 : Nat) : Int) by omega, ih, fidx_step _ l i hi]
  by_cases c1 : (l[i].f0.f0 == x.f0.f0 && (l[i].f0.f1 == x.f0.f1 && (l[i].f0.f2 == x.f0.f2))) = true
  ·rw [if_pos c1]
   simp only [Bool.and_eq_true, beq_iff_eq] at c1
   have e0 : l[i].f0 = x.f0 := by
    rcases h1 : l[i].f0 with ⟨a, b, c⟩
    rcases h2 : x.f0 with ⟨a', b', c'⟩
    rw [h1, h2] at c1
    simp only at c1
    rw [c1.1, c1.2.1, c1.2.2]
   by_cases c2 : l[i].f1 = x.f1
   ·rw [if_pos c2, if_pos (hs.2 ⟨e0, c2⟩)]
   ·rw [if_neg c2, if_neg (fun hh => c2 (hs.1 hh).2)]
  ·rw [if_neg c1, if_neg (fun hh => c1 (by rw [(hs.1 hh).1]; simp))]
theorem ref20_Find_eq (W k : Nat) (l : List S45) (hl : l.length < 1000000) (hk : l.length < k) (hok : ∀ y ∈ l, okP W y) (x : S45) (hx : okP W x) : shunterref20_Find.f k l x.f0.f0 x.f0.f1 x.f0.f2 x.f1 = some (fidx (fun y => sameP (toTI W y) (toTI W x)) l 0) :=
 ref20_Find_loop W l hl hok x hx l.length k 0 (by omega) hk
/-- The code of a prefix. -/
def mayS (W : Nat) (x : S45) : Int := mayP W x.f0.f0 (vV x.f0) x.f1
theorem ref20_May_S (k W : Nat) (hk : 140 ≤ k) (h1 : 1 ≤ W) (h2 : W ≤ 128) (x : S45) (h : okV x.f0) : shunterref20_May.f k (W : Int) x.f0.f0 x.f0.f1 x.f0.f2 x.f1 = some (mayS W x) := by
 have := ref20_May_eq k W hk h1 h2 x.f0.f0 (vV x.f0) (vV_lt h) x.f1
 rwa [vV_hi h, vV_lo h] at this
def rputT (W : Nat) (m : Int) (l : List S45) (x : S45) : List S45 := if putEt (mayS W x) m l.length (l.map (toTI W)) (toTI W x) = 0 then l ++ [x] else l
def rsetT (W : Nat) (l : List S45) (x : S45) : List S45 := if setEt (mayS W x) (l.map (toTI W)) (toTI W x) = 0 then l.map (fun y => if sameP (toTI W y) (toTI W x) = true then { y with f2 := x.f2 } else y) else l
def rdropT (W : Nat) (l : List S45) (x : S45) : List S45 := if setEt (mayS W x) (l.map (toTI W)) (toTI W x) = 0 then l.filter (fun y => !sameP (toTI W y) (toTI W x)) else l
theorem any_toTI (W : Nat) (l : List S45) (x : TI) : (l.map (toTI W)).any (fun y => sameP y x) = l.any (fun y => sameP (toTI W y) x) := by rw [List.any_map]; rfl
theorem ref20_Put_eq (W k : Nat) (hW1 : 1 ≤ W) (hW2 : W ≤ 128) (l : List S45) (hk : l.length + 200 < k) (hl : l.length < 1000000) (m : Int) (hm : (l.length : Int) ≤ m) (hok : ∀ y ∈ l, okP W y) (x : S45) (h : okV x.f0) :
 shunterref20_Put.f k l (W : Int) m x.f0.f0 x.f0.f1 x.f0.f2 x.f1 x.f2 = some (rputT W m l x, putEt (mayS W x) m l.length (l.map (toTI W)) (toTI W x)) := by
 unfold shunterref20_Put.f rputT
 rw [ref20_May_S k W (by omega) hW1 hW2 x h, Option.bind_some]
 unfold putEt
 rw [any_toTI]
 by_cases c0 : mayS W x = 0
 ·rw [if_pos c0, if_neg (show ¬ mayS W x ≠ 0 from fun hh => hh c0), ref20_Find_eq W k l hl (by omega) hok x ⟨h, c0⟩, Option.bind_some]
  cases ha : l.any (fun y => sameP (toTI W y) (toTI W x)) with
  | true =>
   obtain ⟨i, hi, e, _⟩ := fidx_pos ha
   rw [e, if_pos (by omega), if_pos rfl, if_neg (by decide)]
  | false =>
   rw [fidx_neg ha, if_neg (by decide), if_neg (show ¬ (false = true) by simp)]
   by_cases c1 : (l.length : Int) = m
   ·rw [if_pos (by omega), if_pos c1, if_neg (by decide)]
   ·rw [if_neg (by omega), if_neg c1, if_pos rfl, if_pos (by simp; omega), Option.bind_some, if_pos (by simp; omega), List.nil_append]
 ·rw [if_neg c0, if_pos c0, if_neg c0]
theorem ref20_Set_eq (W k : Nat) (hW1 : 1 ≤ W) (hW2 : W ≤ 128) (l : List S45) (hk : l.length + 200 < k) (hl : l.length < 1000000) (hok : ∀ y ∈ l, okP W y) (hd : l.Pairwise (fun a b => sameP (toTI W a) (toTI W b) = false)) (x : S45) (h : okV x.f0) :
 shunterref20_Set.f k l (W : Int) x.f0.f0 x.f0.f1 x.f0.f2 x.f1 x.f2 = some (rsetT W l x, setEt (mayS W x) (l.map (toTI W)) (toTI W x)) := by
 unfold shunterref20_Set.f rsetT
 rw [ref20_May_S k W (by omega) hW1 hW2 x h, Option.bind_some]
 unfold setEt
 rw [any_toTI]
 by_cases c0 : mayS W x = 0
 ·rw [if_pos c0, if_neg (show ¬ mayS W x ≠ 0 from fun hh => hh c0), ref20_Find_eq W k l hl (by omega) hok x ⟨h, c0⟩, Option.bind_some]
  cases ha : l.any (fun y => sameP (toTI W y) (toTI W x)) with
  | true =>
   obtain ⟨i, hi, e, hs⟩ := fidx_pos ha
   rw [e, if_neg (by omega), if_pos (by simp; omega), Option.bind_some, if_pos (by omega), List.nil_append, if_pos (by omega), if_pos rfl, if_pos rfl, rd45 l i hi, Int.toNat_natCast]
   have hm := set_map (same := fun a b => sameP (toTI W a) (toTI W b)) (fun a b x h1 h2 => by
    have e1 := (sameP_iff _ _).1 h1
    have e2 := (sameP_iff _ _).1 h2
    exact (sameP_iff _ _).2 ⟨by omega, by omega⟩) (fun y : S45 => { y with f2 := x.f2 }) x l i l[i] hd (List.getElem?_eq_getElem hi) hs
   congr 2
  | false =>
   rw [fidx_neg ha, if_pos (by decide), if_neg (show ¬ (false = true) by simp), if_neg (by decide)]
 ·rw [if_neg c0, if_pos c0, if_neg c0]
theorem ref20_Drop_eq (W k : Nat) (hW1 : 1 ≤ W) (hW2 : W ≤ 128) (l : List S45) (hk : l.length + 200 < k) (hl : l.length < 1000000) (hok : ∀ y ∈ l, okP W y) (hd : l.Pairwise (fun a b => sameP (toTI W a) (toTI W b) = false)) (x : S45) (h : okV x.f0) :
 shunterref20_Drop.f k l (W : Int) x.f0.f0 x.f0.f1 x.f0.f2 x.f1 x.f2 = some (rdropT W l x, setEt (mayS W x) (l.map (toTI W)) (toTI W x)) := by
 unfold shunterref20_Drop.f rdropT
 rw [ref20_May_S k W (by omega) hW1 hW2 x h, Option.bind_some]
 unfold setEt
 rw [any_toTI]
 by_cases c0 : mayS W x = 0
 ·rw [if_pos c0, if_neg (show ¬ mayS W x ≠ 0 from fun hh => hh c0), ref20_Find_eq W k l hl (by omega) hok x ⟨h, c0⟩, Option.bind_some]
  cases ha : l.any (fun y => sameP (toTI W y) (toTI W x)) with
  | true =>
   obtain ⟨i, hi, e, hs⟩ := fidx_pos ha
   rw [e, if_neg (by omega), if_pos (by omega), if_pos (by omega), Option.bind_some, if_pos (by simp; omega), Option.bind_some, wrap64_id _ (by omega) (by omega), if_pos (by omega), if_pos (by omega), Option.bind_some, if_pos (by simp; omega), if_pos rfl, if_pos rfl]
   have hm := erase_filter (same := fun a b => sameP (toTI W a) (toTI W b)) (fun a b x h1 h2 => by
    have e1 := (sameP_iff _ _).1 h1
    have e2 := (sameP_iff _ _).1 h2
    exact (sameP_iff _ _).2 ⟨by omega, by omega⟩) x l i l[i] hd (List.getElem?_eq_getElem hi) hs
   have hm2 : l.filter (fun y => !sameP (toTI W y) (toTI W x)) = l.eraseIdx i := hm.symm
   rw [hm2, List.eraseIdx_eq_take_drop_succ, List.nil_append, Int.toNat_natCast, show ((i : Int) + 1).toNat = i + 1 by omega]
  | false =>
   rw [fidx_neg ha, if_pos (by decide), if_neg (show ¬ (false = true) by simp), if_neg (by decide)]
 ·rw [if_neg c0, if_pos c0, if_neg c0]
theorem ref20_Meets_eq (k W : Nat) (hk : 140 ≤ k) (h1 : 1 ≤ W) (h2 : W ≤ 128) (X : Nat) (hX : X < 2 ^ W) (y : S45) (hy : okP W y) : shunterref20_Meets.f k (W : Int) (hiW X) (loW X) y.f0.f0 y.f0.f1 y.f0.f2 y.f1 y.f2 = some (meetT W X (toTI W y)) := by
 obtain ⟨e1, e2, j, e3, e4, e5⟩ := okP_key hy
 have hX8 := Nat.lt_of_lt_of_le hX (pow_le128 h2)
 have hml : maskN W j < 2 ^ 128 := Nat.lt_of_lt_of_le (maskN_lt W j e4) (pow_le128 h2)
 unfold shunterref20_Meets.f
 rw [e3, ref02_Prefix_ok k W j (by omega) h1 h2 e4, Option.bind_some]
 have hm := ref02_Meets_eq k (by omega) (W : Int) y.f0.f0 (W : Int) X (vV y.f0) (maskN W j) hX8 (vV_lt hy.1) hml
 rw [vV_hi hy.1, vV_lo hy.1] at hm
 simp only
 rw [hm, Option.bind_some]
 congr 1
 have v1 : vmay (W : Int) X = true := by unfold vmay; rw [decide_eq_true_eq, Int.toNat_natCast]; exact ⟨by omega, by omega, hX⟩
 have v2 : vmay (W : Int) (vV y.f0) = true := by unfold vmay; rw [decide_eq_true_eq, Int.toNat_natCast]; exact ⟨by omega, by omega, e2⟩
 unfold meV meetT toTI
 rw [e1, v1, v2, maskN_may W j h1 h2 e4]
 simp only [beq_self_eq_true, Bool.true_and]
 rw [e3, Int.toNat_natCast, mask_and W X j hX e4, mask_and W _ j e2 e4, Bool.eq_iff_iff, beq_iff_eq, beq_iff_eq]
 have hp := Nat.two_pow_pos (W - j)
 constructor
 ·intro h; exact (Nat.eq_of_mul_eq_mul_right hp h).symm
 ·intro h
  show preN W X j * 2 ^ (W - j) = preN W (vV y.f0) j * 2 ^ (W - j)
  rw [h]; rfl
/-- The longest that was met among the first i. -/
def BestP (W X : Nat) (l : List S45) (i : Nat) (b : Int) : Prop := (b = -1 ∧ ∀ y ∈ l.take i, meetT W X (toTI W y) = false) ∨ ∃ (j : Nat) (hj : j < l.length), b = (j : Int) ∧ meetT W X (toTI W l[j]) = true ∧ ∀ y ∈ l.take i, meetT W X (toTI W y) = true → y.f1 ≤ l[j].f1
theorem best_next {W X : Nat} {l : List S45} {i : Nat} {b : Int} (h : BestP W X l i b) (hi : i < l.length) :
 BestP W X l (i + 1) (if meetT W X (toTI W l[i]) = true then (if b < 0 then (i : Int) else if l[i].f1 > (rd_T45 l b).f1 then (i : Int) else b) else b) := by
 have ht : l.take (i + 1) = l.take i ++ [l[i]] := List.take_succ_eq_append_getElem hi
 by_cases c : meetT W X (toTI W l[i]) = true
 ·rw [if_pos c]
  rcases h with ⟨rfl, h⟩ | ⟨j, hj, rfl, hm, h⟩
  ·rw [if_pos (by decide)]
   refine .inr ⟨i, hi, rfl, c, fun y hy hmy => ?_⟩
   rw [ht] at hy
   rcases List.mem_append.1 hy with hy | hy
   ·rw [h y hy] at hmy; cases hmy
   ·obtain rfl := List.mem_singleton.1 hy; exact Int.le_refl _
  ·rw [if_neg (by omega), rd45 l j hj]
   by_cases d : l[i].f1 > l[j].f1
   ·rw [if_pos d]
    refine .inr ⟨i, hi, rfl, c, fun y hy hmy => ?_⟩
    rw [ht] at hy
    rcases List.mem_append.1 hy with hy | hy
    ·have := h y hy hmy; omega
    ·obtain rfl := List.mem_singleton.1 hy; exact Int.le_refl _
   ·rw [if_neg d]
    refine .inr ⟨j, hj, rfl, hm, fun y hy hmy => ?_⟩
    rw [ht] at hy
    rcases List.mem_append.1 hy with hy | hy
    ·exact h y hy hmy
    ·obtain rfl := List.mem_singleton.1 hy; omega
 ·rw [if_neg c]
  rw [Bool.not_eq_true] at c
  rcases h with ⟨rfl, h⟩ | ⟨j, hj, rfl, hm, h⟩
  ·refine .inl ⟨rfl, fun y hy => ?_⟩
   rw [ht] at hy
   rcases List.mem_append.1 hy with hy | hy
   ·exact h y hy
   ·obtain rfl := List.mem_singleton.1 hy; exact c
  ·refine .inr ⟨j, hj, rfl, hm, fun y hy hmy => ?_⟩
   rw [ht] at hy
   rcases List.mem_append.1 hy with hy | hy
   ·exact h y hy hmy
   ·obtain rfl := List.mem_singleton.1 hy; rw [c] at hmy; cases hmy
theorem ref20_Get_loop (W : Nat) (hW1 : 1 ≤ W) (hW2 : W ≤ 128) (l : List S45) (hl : l.length < 1000000) (hok : ∀ y ∈ l, okP W y) (X : Nat) (hX : X < 2 ^ W) : ∀ (n k i : Nat) (b : Int), i + n = l.length → n + 200 < k → BestP W X l i b →
 ∃ r, shunterref20_Get.l0 k l b (i : Int) (W : Int) (hiW X) (loW X) = some r ∧ BestP W X l l.length r
 | 0, k, i, b, h, hk, hb => by
  obtain ⟨k, rfl⟩ : ∃ m, k = m + 1 := ⟨k - 1, by omega⟩
  obtain rfl : i = l.length := by omega
  simp only [shunterref20_Get.l0]
  rw [if_neg (by omega)]
  exact ⟨b, rfl, hb⟩
 | n + 1, k, i, b, h, hk, hb => by
  obtain ⟨k, rfl⟩ : ∃ m, k = m + 1 := ⟨k - 1, by omega⟩
  have hi : i < l.length := by omega
  have hm := ref20_Meets_eq k W (by omega) hW1 hW2 X hX l[i] (hok _ (List.getElem_mem hi))
  have hs := best_next hb hi
  simp only [shunterref20_Get.l0]
  rw [if_pos (by omega), if_pos (by omega), rd45 l i hi, hm, Option.bind_some, wrap64_id _ (by omega) (by omega), show ((i : Int) + 1) = ((i + 1 : Nat) : Int) by omega]
  by_cases c : meetT W X (toTI W l[i]) = true
  ·rw [if_pos c]
   rw [if_pos c] at hs
   by_cases c1 : b < 0
   ·rw [if_pos c1]
    rw [if_pos c1] at hs
    exact ref20_Get_loop W hW1 hW2 l hl hok X hX n k (i + 1) _ (by omega) (by omega) hs
   ·rw [if_neg c1] at hs
    have hbl : b < (l.length : Int) := by
     rcases hb with ⟨rfl, _⟩ | ⟨j, hj, rfl, _⟩ <;> omega
    rw [if_neg c1, if_pos (by omega), if_pos hbl]
    by_cases c2 : l[i].f1 > (rd_T45 l b).f1
    ·rw [if_pos c2]
     rw [if_pos c2] at hs
     exact ref20_Get_loop W hW1 hW2 l hl hok X hX n k (i + 1) _ (by omega) (by omega) hs
    ·rw [if_neg c2]
     rw [if_neg c2] at hs
     exact ref20_Get_loop W hW1 hW2 l hl hok X hX n k (i + 1) _ (by omega) (by omega) hs
  ·rw [if_neg c]
   rw [if_neg c] at hs
   exact ref20_Get_loop W hW1 hW2 l hl hok X hX n k (i + 1) _ (by omega) (by omega) hs
theorem ref20_Get_eq (W k : Nat) (hW1 : 1 ≤ W) (hW2 : W ≤ 128) (l : List S45) (hk : l.length + 200 < k) (hl : l.length < 1000000) (hok : ∀ y ∈ l, okP W y) (hd : apartT (l.map (toTI W))) (X : Nat) (hX : X < 2 ^ W) :
 ∃ r, shunterref20_Get.f k l (W : Int) (hiW X) (loW X) = some r ∧ ((r = -1 ∧ bestTo (l.map (toTI W)) W X (W + 1) = none) ∨ ∃ (j : Nat) (hj : j < l.length), r = (j : Int) ∧ ∃ i : Nat, l[j].f1 = (i : Int) ∧ bestTo (l.map (toTI W)) W X (W + 1) = some (i, l[j].f2)) := by
 obtain ⟨r, hr, hb⟩ := ref20_Get_loop W hW1 hW2 l hl hok X hX l.length k 0 (-1) (by omega) (by omega) (.inl ⟨rfl, fun y hy => by simp at hy⟩)
 refine ⟨r, hr, ?_⟩
 unfold BestP at hb
 rw [List.take_length] at hb
 have hlen : ∀ y ∈ l.map (toTI W), y.len ≤ W := by
  intro y hy
  obtain ⟨z, hz, rfl⟩ := List.mem_map.1 hy
  obtain ⟨_, _, j, e3, e4, _⟩ := okP_key (hok z hz)
  unfold toTI
  simp only
  omega
 rcases hb with ⟨rfl, h⟩ | ⟨j, hj, rfl, hm, h⟩
 ·refine .inl ⟨rfl, ?_⟩
  cases hq : bestTo (l.map (toTI W)) W X (W + 1) with
  | none => rfl
  | some t =>
   obtain ⟨i, n⟩ := t
   obtain ⟨_, h2, _⟩ := bestTo_some hq
   have h4 : (lookT (l.map (toTI W)) i (X / 2 ^ (W - i))).1 = true := by rw [h2]
   unfold lookT at h4
   cases hf : (l.map (toTI W)).find? (fun y => y.len == i && y.key == X / 2 ^ (W - i)) with
   | none => rw [hf] at h4; cases h4
   | some z =>
    have hz := List.find?_some hf
    simp only [Bool.and_eq_true, beq_iff_eq] at hz
    obtain ⟨y, hy, rfl⟩ := List.mem_map.1 (List.mem_of_find?_eq_some hf)
    have := h y hy
    unfold meetT at this
    rw [beq_eq_false_iff_ne, hz.1] at this
    exact absurd hz.2 this
 ·obtain ⟨_, _, i, e3, e4, _⟩ := okP_key (hok l[j] (List.getElem_mem hj))
  refine .inr ⟨j, hj, rfl, i, e3, ?_⟩
  have hb := best_is hd hlen (toTI W l[j]) (List.mem_map.2 ⟨_, List.getElem_mem hj, rfl⟩) hm (fun z hz hmz => by
   obtain ⟨y, hy, rfl⟩ := List.mem_map.1 hz
   have h1 := h y hy hmz
   unfold toTI
   simp only
   omega)
  rw [hb]
  unfold toTI
  simp only
  rw [e3, Int.toNat_natCast]
end Go.Proofs.Ytfdbcnbakchcgaa.XR
