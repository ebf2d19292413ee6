import Derived.Test.YtfdbcnbakchcgaaQg
import Derived.Test.YtfdbcnbakchcgaaXQx13
import Derived.Test.YtfdbcnbakchcgaaXQx14
import Derived.Test.YtfdbcnbakchcgaaXQx16
namespace Go.Proofs.Ytfdbcnbakchcgaa.XQ
open Go.RowKit Go.Proofs.YtfdbcnbakchcgaaW.PrintWords Go.Proofs.YtfdbcnbakchcgaaW.PrintLast Go.Proofs.YtfdbcnbakchcgaaW.PrintMore
attribute [local go_sem] max2_int min2_int max_two min_two max_three min_three max_four min_four
set_option linter.unusedVariables false
set_option linter.unusedSimpArgs false
def cv (y : S99) : S94 := ⟨y.f0, y.f1, y.f2, y.f3⟩
def vc (y : S94) : S99 := ⟨y.f0, y.f1, y.f2, y.f3⟩
def isoT (x : List S99) : List S94 := isort (fun y : S94 => y.f2) (x.map cv)
theorem isoT_length (x : List S99) : (isoT x).length = x.length := by unfold isoT; rw [isort_length, List.length_map]
theorem mem_isoT (x : List S99) (y : S94) : y ∈ isoT x ↔ ∃ z ∈ x, cv z = y := by unfold isoT; rw [mem_isort, List.mem_map]
theorem isoT_any (x : List S99) (p : S94 → Bool) : (isoT x).any p = x.any (fun z => p (cv z)) := by
 rw [Bool.eq_iff_iff, List.any_eq_true, List.any_eq_true]
 constructor
 ·rintro ⟨y, hy, hp⟩
  obtain ⟨z, hz, rfl⟩ := (mem_isoT x y).1 hy
  exact ⟨z, hz, hp⟩
 ·rintro ⟨z, hz, hp⟩
  exact ⟨cv z, (mem_isoT x _).2 ⟨z, hz, rfl⟩, hp⟩
theorem rd99 (l : List S99) (i : Nat) (h : i < l.length) : rd_T99 l (i : Int) = l[i] := by simp [rd_T99, List.getD_eq_getElem?_getD, h]
structure okI (x : S94) : Prop where
 a : ∀ z ∈ x.f0, okV z
 b : ∀ z ∈ x.f1, okV z
 la : x.f0.length ≤ 1000
 lb : x.f1.length ≤ 1000
theorem allTo_congr {p q : Nat → Bool} {n : Nat} (h : ∀ i, i < n → p i = q i) : allTo p n = allTo q n := by
 rw [Bool.eq_iff_iff, allTo_iff, allTo_iff]
 exact ⟨fun hp i hi => by rw [← h i hi]; exact hp i hi, fun hq i hi => by rw [h i hi]; exact hq i hi⟩
theorem allTo_and (p q : Nat → Bool) (n : Nat) : allTo (fun i => p i && q i) n = (allTo p n && allTo q n) := by
 rw [Bool.eq_iff_iff, Bool.and_eq_true, allTo_iff, allTo_iff, allTo_iff]
 constructor
 ·intro h
  exact ⟨fun i hi => by have := h i hi; simp only [Bool.and_eq_true] at this; exact this.1, fun i hi => by have := h i hi; simp only [Bool.and_eq_true] at this; exact this.2⟩
 ·rintro ⟨h1, h2⟩ i hi
  simp only [Bool.and_eq_true]
  exact ⟨h1 i hi, h2 i hi⟩
theorem beq_some (b : Bool) : ((some b : Option Bool) == some true) = b := by cases b <;> rfl
theorem rmB_ok {x : S32} (h : okV x) : rmB x = mayV x := by unfold rmB; rw [ref02_May_ok h]; exact beq_some _
theorem rmD_ok {x : S32} (h : okV x) : rmD x = true := by unfold rmD; rw [ref02_May_ok h]; rfl
theorem rwB_ok {x y : S32} (h : okV x) (h1 : okV y) : rwB x y = wiV x x y := by unfold rwB; rw [ref02_Within_ok h h h1]; exact beq_some _
theorem rwD_ok {x y : S32} (h : okV x) (h1 : okV y) : rwD x y = true := by unfold rwD; rw [ref02_Within_ok h h h1]; rfl
theorem ref22_May_eq (ws : List Int) (x : S94) (h : okI x) : shunterref22_May.f ws x.f0 x.f1 x.f2 x.f3 = some (mayL ws x) := by
 unfold shunterref22_May.f mayL
 by_cases h1 : x.f0.length = ws.length
 ·rw [if_pos h1]
  by_cases h2 : x.f1.length = ws.length
  ·have o0 : ∀ i, i < ws.length → okV (lx x.f0 i) := fun i hi => lx_ok h.a (by omega)
   have o1 : ∀ i, i < ws.length → okV (lx x.f1 i) := fun i hi => lx_ok h.b (by omega)
   rw [if_pos h2, if_pos ((allTo_iff _ _).2 (fun i hi => by unfold donR; rw [rmD_ok (o0 i hi), rmD_ok (o1 i hi), rwD_ok (o0 i hi) (o1 i hi)]; rfl)), if_pos (show x.f0.length = ws.length ∧ x.f1.length = ws.length from ⟨h1, h2⟩)]
   unfold mayR
   have e1 : allTo (fitR ws x.f0 x.f1) ws.length = (allTo (fitW ws x.f0) ws.length && allTo (fitW ws x.f1) ws.length) := by
    rw [← allTo_and]
    refine allTo_congr (fun i hi => ?_)
    unfold fitR fitW
    rw [rmB_ok (o0 i hi), rmB_ok (o1 i hi)]
    cases mayV (lx x.f0 i) <;> cases mayV (lx x.f1 i) <;> cases ((lx x.f0 i).f0 == rd ws (i : Int)) <;> rfl
   have e2 : allTo (fun i => rwB (lx x.f0 i) (lx x.f1 i)) ws.length = allTo (wiB x) ws.length := allTo_congr (fun i hi => rwB_ok (o0 i hi) (o1 i hi))
   rw [e1, e2]
  ·rw [if_neg h2, if_neg (fun hh => h2 hh.2)]
 ·rw [if_neg h1, if_neg (fun hh => h1 hh.1)]
theorem ref22_Same_eq (k : Nat) (l m : List S32) (hl : l.length ≤ 1000) (hk : l.length < k) : shunterref22_Same.f k l m = some (decide (l = m)) := by
 unfold shunterref22_Same.f
 by_cases h : l.length = m.length
 ·rw [if_pos (by omega)]
  have go : ∀ (n k i : Nat), i + n = l.length → n < k → (∀ j, j < i → rd_T32 l (j : Int) = rd_T32 m (j : Int)) → shunterref22_Same.l0 k l m (i : Int) = some (decide (l = m)) := by
   intro n
   induction n with
   | zero =>
    intro k i h1 h2 h3
    obtain ⟨k, rfl⟩ : ∃ q, k = q + 1 := ⟨k - 1, by omega⟩
    simp only [shunterref22_Same.l0]
    rw [if_neg (by omega), decide_eq_true]
    refine List.ext_getElem h (fun j h4 h5 => ?_)
    have := h3 j (by omega)
    unfold rd_T32 at this
    simpa [List.getD_eq_getElem?_getD, h4, h5] using this
   | succ n ih =>
    intro k i h1 h2 h3
    obtain ⟨k, rfl⟩ : ∃ q, k = q + 1 := ⟨k - 1, by omega⟩
    simp only [shunterref22_Same.l0]
    rw [if_pos (by omega), if_pos (by omega), if_pos (by omega), wrap64_id _ (by omega) (by omega), show ((i : Int) + 1) = ((i + 1 : Nat) : Int) by omega]
    by_cases e : rd_T32 l (i : Int) = rd_T32 m (i : Int)
    ·rw [if_neg (by rw [e]; simp)]
     exact ih k (i + 1) (by omega) (by omega) (fun j hj => by
      rcases Nat.lt_or_ge j i with q | q
      ·exact h3 j q
      ·obtain rfl : j = i := by omega
       exact e)
    ·have hd : decide (l = m) = false := decide_eq_false (fun hh => e (by rw [hh]))
     rw [hd, if_pos]
     rcases hx : rd_T32 l (i : Int) with ⟨a, b, c⟩
     rcases hy : rd_T32 m (i : Int) with ⟨a', b', c'⟩
     rw [hx, hy] at e
     by_cases e0 : a = a'
     ·by_cases e1 : b = b'
      ·by_cases e2 : c = c'
       ·exact absurd (by rw [e0, e1, e2]) e
       ·simp [e2]
      ·simp [e1]
     ·simp [e0]
  exact go l.length k 0 (by omega) hk (fun j hj => by omega)
 ·rw [if_neg (by omega), decide_eq_false (fun hh => h (by rw [hh]))]
def fidx (p : S99 → Bool) (l : List S99) (i : Nat) : Int := if (l.drop i).findIdx p < (l.drop i).length then ((i + (l.drop i).findIdx p : Nat) : Int) else -1
theorem fidx_step (p : S99 → Bool) (l : List S99) (i : Nat) (h : i < l.length) : fidx p l i = if p l[i] = true then (i : Int) else fidx p l (i + 1) := by
 unfold fidx
 rw [List.drop_eq_getElem_cons h, List.findIdx_cons]
 cases hp : p l[i] with
 | true => rw [cond_true, if_pos (by simp; omega), if_pos rfl, Nat.add_zero]
 | false =>
  simp only [cond_false, List.length_cons, Nat.add_lt_add_iff_right, Bool.false_eq_true, if_false]
  split
  ·congr 1; omega
  ·rfl
theorem fidx_end (p : S99 → Bool) (l : List S99) : fidx p l l.length = -1 := by unfold fidx; rw [List.drop_length]; simp
theorem ref22_Find_loop (l : List S99) (hl : l.length < 1000000) (hL : ∀ y ∈ l, okI (cv y)) (x : S94) : ∀ (n k i : Nat), i + n = l.length → n + 1001 < k →
 shunterref22_Find.l0 k l (i : Int) x.f0 x.f1 x.f2 x.f3 = some (fidx (fun y => sameI (cv y) x) l i)
 | 0, k, i, h, hk => by
  obtain ⟨k, rfl⟩ : ∃ m, k = m + 1 := ⟨k - 1, by omega⟩
  obtain rfl : i = l.length := by omega
  simp only [shunterref22_Find.l0]
  rw [if_neg (by omega), fidx_end]
 | n + 1, k, i, h, hk => by
  obtain ⟨k, rfl⟩ : ∃ m, k = m + 1 := ⟨k - 1, by omega⟩
  have ih := ref22_Find_loop l hl hL x n k (i + 1) (by omega) (by omega)
  have hi : i < l.length := by omega
  have hy := hL l[i] (List.getElem_mem hi)
  simp only [shunterref22_Find.l0]
  rw [if_pos (by omega), if_pos (by omega), rd99 l i hi, wrap64_id _ (by omega) (by omega), show ((i : Int) + 1) = ((i + 1 : Nat) : Int) by omega, ih, fidx_step _ l i hi]
  have s0 := ref22_Same_eq k (l[i]).f0 x.f0 hy.la (by have := hy.la; simp only [cv] at this; omega)
  have s1 := ref22_Same_eq k (l[i]).f1 x.f1 hy.lb (by have := hy.lb; simp only [cv] at this; omega)
  rw [s0, s1]
  generalize l[i] = y
  have hs : sameI (cv y) x = true ↔ x.f0 = y.f0 ∧ x.f1 = y.f1 ∧ x.f2 = y.f2 := sameI_iff (cv y) x
  by_cases c1 : y.f2 = x.f2
  ·rw [if_pos c1, Option.bind_some]
   by_cases c2 : y.f0 = x.f0
   ·rw [decide_eq_true c2, if_pos rfl, Option.bind_some]
    by_cases c3 : y.f1 = x.f1
    ·rw [decide_eq_true c3, if_pos rfl, if_pos (hs.2 ⟨c2.symm, c3.symm, c1.symm⟩)]
    ·rw [decide_eq_false c3, if_neg (by simp), if_neg (fun hx => c3 (hs.1 hx).2.1.symm)]
   ·rw [decide_eq_false c2, if_neg (by simp), if_neg (fun hx => c2 (hs.1 hx).1.symm)]
  ·rw [if_neg c1, if_neg (fun hx => c1 (hs.1 hx).2.2.symm)]
theorem ref22_Find_eq (k : Nat) (l : List S99) (hl : l.length < 1000000) (hL : ∀ y ∈ l, okI (cv y)) (hk : l.length + 1001 < k) (x : S94) : shunterref22_Find.f k l x.f0 x.f1 x.f2 x.f3 = some (fidx (fun y => sameI (cv y) x) l 0) :=
 ref22_Find_loop l hl hL x l.length k 0 (by omega) hk
theorem sameI_refl (x : S94) : sameI x x = true := (sameI_iff x x).2 ⟨rfl, rfl, rfl⟩
theorem sameI_comm (a b : S94) : sameI a b = sameI b a := by
 rw [Bool.eq_iff_iff, sameI_iff, sameI_iff]
 exact ⟨fun h => ⟨h.1.symm, h.2.1.symm, h.2.2.symm⟩, fun h => ⟨h.1.symm, h.2.1.symm, h.2.2.symm⟩⟩
theorem fidx_neg {p : S99 → Bool} {l : List S99} (h : l.any p = false) : fidx p l 0 = -1 := by
 unfold fidx
 rw [List.drop_zero, if_neg (fun hh => by have := List.findIdx_lt_length.1 hh; rw [← List.any_eq_true, h] at this; cases this)]
theorem fidx_pos {p : S99 → Bool} {l : List S99} (h : l.any p = true) : ∃ (i : Nat) (hi : i < l.length), fidx p l 0 = (i : Int) ∧ p l[i] = true := by
 have hlt : l.findIdx p < l.length := List.findIdx_lt_length.2 (by rw [List.any_eq_true] at h; exact h)
 refine ⟨l.findIdx p, hlt, ?_, List.findIdx_getElem⟩
 unfold fidx
 rw [List.drop_zero, if_pos hlt, Nat.zero_add]
def rputL (c m : Int) (l : List S99) (x : S94) : List S99 := if putE c m (isoT l) x = 0 then l ++ [vc x] else l
def rsetL (c : Int) (l : List S99) (x : S94) : List S99 := if c = 0 then l.map (fun y => if sameI (cv y) x = true then { y with f3 := x.f3 } else y) else l
def rdropL (c : Int) (l : List S99) (x : S94) : List S99 := if c = 0 then l.filter (fun y => !sameI (cv y) x) else l
theorem vc_flat (x : S94) : (⟨x.f0, x.f1, x.f2, x.f3⟩ : S99) = vc x := rfl
theorem ref22_Put_eq (k : Nat) (l : List S99) (hk : l.length + 1001 < k) (hl : l.length < 1000000) (hL : ∀ y ∈ l, okI (cv y)) (W : List Int) (m : Int) (hm : (l.length : Int) ≤ m) (x : S94) (h : okI x) :
 shunterref22_Put.f k l W m x.f0 x.f1 x.f2 x.f3 = some (rputL (mayL W x) m l x, putE (mayL W x) m (isoT l) x) := by
 unfold shunterref22_Put.f rputL
 rw [ref22_May_eq W x h, Option.bind_some, ref22_Find_eq k l hl hL hk x, Option.bind_some]
 unfold putE
 rw [isoT_any, isoT_length]
 by_cases c0 : mayL W x = 0
 ·rw [if_pos c0, if_neg (show ¬ mayL W x ≠ 0 from fun hh => hh c0)]
  cases ha : l.any (fun z => sameI (cv z) x) with
  | true =>
   obtain ⟨i, hi, e, _⟩ := fidx_pos ha
   rw [e, if_pos (by omega), if_pos rfl, if_neg (by decide)]
  | false =>
   rw [fidx_neg ha, if_neg (by decide), if_neg (show ¬ (false = true) by simp)]
   by_cases c1 : (l.length : Int) = m
   ·rw [if_pos (by omega), if_pos c1, if_neg (by decide)]
   ·rw [if_neg (by omega), if_neg c1, if_pos rfl, if_pos (by simp; omega), Option.bind_some, if_pos (by simp; omega), vc_flat, List.nil_append]
 ·rw [if_neg c0, if_pos c0, if_neg c0]
theorem ref22_Set_eq (k : Nat) (l : List S99) (hk : l.length + 1001 < k) (hl : l.length < 1000000) (hL : ∀ y ∈ l, okI (cv y)) (W : List Int) (x : S94) (h : okI x) (hd : l.Pairwise (fun a b => sameI (cv a) (cv b) = false)) :
 shunterref22_Set.f k l W x.f0 x.f1 x.f2 x.f3 = some (rsetL (mayL W x) l x, setE (mayL W x) (isoT l) x) := by
 unfold shunterref22_Set.f rsetL
 rw [ref22_May_eq W x h, Option.bind_some, ref22_Find_eq k l hl hL hk x, Option.bind_some]
 unfold setE
 rw [isoT_any]
 by_cases c0 : mayL W x = 0
 ·rw [if_pos c0, if_pos c0, if_neg (show ¬ mayL W x ≠ 0 from fun hh => hh c0)]
  cases ha : l.any (fun z => sameI (cv z) x) with
  | true =>
   obtain ⟨i, hi, e, hs⟩ := fidx_pos ha
   rw [e, if_neg (by omega), if_pos (by simp; omega), Option.bind_some, if_pos (by omega), List.nil_append, if_pos (by omega), if_pos rfl, rd99 l i hi, Int.toNat_natCast]
   have hm := set_map (same := fun a b => sameI (cv a) (cv b)) (fun a b x h1 h2 => sameI_trans _ _ _ h1 h2) (fun y : S99 => { y with f3 := x.f3 }) (vc x) l i l[i] hd (List.getElem?_eq_getElem hi) hs
   congr 2
  | false =>
   rw [fidx_neg ha, if_pos (by decide), if_neg (by simp)]
   congr 2
   symm
   conv => rhs; rw [← List.map_id l]
   refine List.map_congr_left (fun y hy => ?_)
   rw [if_neg (fun hh => by rw [List.any_eq_false] at ha; exact ha y hy hh)]; rfl
 ·rw [if_neg c0, if_neg c0, if_pos c0]
theorem ref22_Drop_eq (k : Nat) (l : List S99) (hk : l.length + 1001 < k) (hl : l.length < 1000000) (hL : ∀ y ∈ l, okI (cv y)) (W : List Int) (x : S94) (h : okI x) (hd : l.Pairwise (fun a b => sameI (cv a) (cv b) = false)) :
 shunterref22_Drop.f k l W x.f0 x.f1 x.f2 x.f3 = some (rdropL (mayL W x) l x, setE (mayL W x) (isoT l) x) := by
 unfold shunterref22_Drop.f rdropL
 rw [ref22_May_eq W x h, Option.bind_some, ref22_Find_eq k l hl hL hk x, Option.bind_some]
 unfold setE
 rw [isoT_any]
 by_cases c0 : mayL W x = 0
 ·rw [if_pos c0, if_pos c0, if_neg (show ¬ mayL W x ≠ 0 from fun hh => hh c0)]
  cases ha : l.any (fun z => sameI (cv z) x) with
  | true =>
   obtain ⟨i, hi, e, hs⟩ := fidx_pos ha
   rw [e, if_neg (by omega), if_pos (by omega), if_pos (by omega), Option.bind_some, if_pos (by simp; omega), Option.bind_some, wrap64_id _ (by omega) (by omega), if_pos (by omega), if_pos (by omega), Option.bind_some, if_pos (by simp; omega), if_pos rfl]
   have hm := erase_filter (same := fun a b => sameI (cv a) (cv b)) (fun a b x h1 h2 => sameI_trans _ _ _ h1 h2) (vc x) l i l[i] hd (List.getElem?_eq_getElem hi) hs
   have hm2 : l.filter (fun y => !sameI (cv y) x) = l.eraseIdx i := hm.symm
   rw [hm2, List.eraseIdx_eq_take_drop_succ, List.nil_append, Int.toNat_natCast, show ((i : Int) + 1).toNat = i + 1 by omega]
  | false =>
   rw [fidx_neg ha, if_pos (by decide), if_neg (by simp)]
   congr 2
   symm
   exact List.filter_eq_self.2 (fun y hy => by
    rw [List.any_eq_false] at ha
    have := ha y hy
    simp only [Bool.not_eq_true] at this
    rw [this]; rfl)
 ·rw [if_neg c0, if_neg c0, if_pos c0]
theorem put_iso (c m : Int) (l : List S99) (x : S94) : putL c m (isoT l) x = isoT (rputL c m l x) := by
 unfold putL rputL
 split
 ·unfold isoT; rw [List.map_append, List.map_singleton, isort_snoc]; rfl
 ·rfl
theorem set_iso (c : Int) (l : List S99) (x : S94) : setL c (isoT l) x = isoT (rsetL c l x) := by
 unfold setL rsetL
 split
 ·unfold isoT
  have h := isort_map (fun y : S94 => y.f2) (fun y => if sameI y x = true then { y with f3 := x.f3 } else y) (fun a => by split <;> rfl) (l.map cv)
  rw [← h, List.map_map, List.map_map]
  congr 1
  refine List.map_congr_left (fun y _ => ?_)
  simp only [Function.comp_apply]
  split <;> rfl
 ·rfl
theorem drop_iso (c : Int) (l : List S99) (x : S94) : dropL c (isoT l) x = isoT (rdropL c l x) := by
 unfold dropL rdropL
 split
 ·unfold isoT
  rw [← isort_filter, List.filter_map]
  rfl
 ·rfl
def apart (l : List S99) : Prop := l.Pairwise (fun a b => sameI (cv a) (cv b) = false)
theorem apart_iso {l : List S99} (h : apart l) : (isoT l).Pairwise (fun a b => sameI a b = false) := by
 unfold isoT
 refine isort_apart _ (fun a b hh => by rw [sameI_comm]; exact hh) ?_
 rw [List.pairwise_map]; exact h
theorem apart_put {c m : Int} {l : List S99} {x : S94} (h : apart l) : apart (rputL c m l x) := by
 unfold rputL
 split
 ·rename_i e
  unfold apart
  rw [List.pairwise_append]
  refine ⟨h, by simp, fun a ha b hb => ?_⟩
  obtain rfl := List.mem_singleton.1 hb
  have hany : (isoT l).any (fun y => sameI y x) = false := by
   unfold putE at e
   split at e
   ·rename_i e2; exact absurd e e2
   ·split at e
    ·cases e
    ·rename_i e2; simpa using e2
  rw [isoT_any, List.any_eq_false] at hany
  exact (Bool.not_eq_true _).mp (hany a ha)
 ·exact h
theorem apart_set {c : Int} {l : List S99} {x : S94} (h : apart l) : apart (rsetL c l x) := by
 unfold rsetL
 split
 ·unfold apart
  rw [List.pairwise_map]
  refine h.imp (fun {a b} hab => ?_)
  have hc : ∀ z : S99, (cv (if sameI (cv z) x = true then { z with f3 := x.f3 } else z)).f0 = (cv z).f0 ∧ (cv (if sameI (cv z) x = true then { z with f3 := x.f3 } else z)).f1 = (cv z).f1 ∧ (cv (if sameI (cv z) x = true then { z with f3 := x.f3 } else z)).f2 = (cv z).f2 := by
   intro z; split <;> exact ⟨rfl, rfl, rfl⟩
  rw [Bool.eq_false_iff] at hab ⊢
  intro hh
  apply hab
  rw [sameI_iff] at hh ⊢
  rw [(hc a).1, (hc b).1, (hc a).2.1, (hc b).2.1, (hc a).2.2, (hc b).2.2] at hh
  exact hh
 ·exact h
theorem apart_drop {c : Int} {l : List S99} {x : S94} (h : apart l) : apart (rdropL c l x) := by
 unfold rdropL
 split
 ·exact List.Pairwise.filter _ h
 ·exact h
def qK (key : List S32) (y : S94) : Bool := decide (key.length = y.f0.length) && meetL key y
theorem ref22_Meets_eq (k : Nat) (key : List S32) (y : S94) (hk : ∀ z ∈ key, okV z) (hy : okI y) (he : y.f1.length = y.f0.length) (hm : key.length ≤ 1000) (hf : key.length < k) : shunterref22_Meets.f k key y.f0 y.f1 y.f2 y.f3 = some (qK key y) := by
 unfold shunterref22_Meets.f qK
 by_cases h0 : key.length = y.f0.length
 ·rw [if_pos (by omega), decide_eq_true h0, Bool.true_and]
  have go : ∀ (d i k : Nat), i + d = key.length → d < k → allTo (fun i => wiV (lx key i) (lx y.f0 i) (lx y.f1 i)) i = true → shunterref22_Meets.l0 k key (i : Int) y.f0 y.f1 y.f2 y.f3 = some (meetL key y) := by
   intro d
   induction d with
   | zero =>
    intro i k h1 h2 h3
    obtain ⟨k, rfl⟩ : ∃ q, k = q + 1 := ⟨k - 1, by omega⟩
    obtain rfl : i = key.length := by omega
    unfold shunterref22_Meets.l0
    rw [if_neg (by omega)]
    unfold meetL
    rw [h3]
   | succ d ih =>
    intro i k h1 h2 h3
    obtain ⟨k, rfl⟩ : ∃ q, k = q + 1 := ⟨k - 1, by omega⟩
    have hi : i < key.length := by omega
    have hw := ref02_Within_ok (lx_ok hk hi) (lx_ok hy.a (show i < y.f0.length by omega)) (lx_ok hy.b (show i < y.f1.length by omega))
    unfold lx at hw
    have hs : wrap64 ((i : Int) + 1) = ((i + 1 : Nat) : Int) := by unfold wrap64; omega
    unfold shunterref22_Meets.l0
    rw [if_pos (by omega), if_pos (by omega), if_pos (by omega), if_pos (by omega), hw, Option.bind_some]
    cases hb : wiV (rd_T32 key (i : Int)) (rd_T32 y.f0 (i : Int)) (rd_T32 y.f1 (i : Int)) with
    | true =>
     rw [if_pos rfl, hs]
     exact ih (i + 1) k (by omega) (by omega) (allTo_succ h3 hb)
    | false =>
     rw [if_neg (by simp)]
     unfold meetL
     rw [allTo_no hi (p := fun i => wiV (lx key i) (lx y.f0 i) (lx y.f1 i)) hb]
  exact go key.length 0 k (by omega) hf (allTo_zero _)
 ·rw [if_neg (by omega), decide_eq_false h0, Bool.false_and]
def BestIs (l : List S99) (r : Int) (o : Option S94) : Prop := (r = -1 ∧ o = none) ∨ ∃ (j : Nat) (hj : j < l.length), r = (j : Int) ∧ o = some (cv l[j])
theorem best_step {l : List S99} {b : Int} {o : Option S94} (h : BestIs l b o) (i : Nat) (hi : i < l.length) (q : S94 → Bool) :
 BestIs l (if q (cv l[i]) = true then (if b < 0 then (i : Int) else if (l[i]).f2 < (rd_T99 l b).f2 then (i : Int) else b) else b) (better (fun y : S94 => y.f2) q o (cv l[i])) := by
 rcases h with ⟨rfl, rfl⟩ | ⟨j, hj, rfl, rfl⟩
 ·rw [better_none]
  by_cases c : q (cv l[i]) = true
  ·rw [if_pos c, if_pos (by decide), if_pos c]; exact .inr ⟨i, hi, rfl, rfl⟩
  ·rw [if_neg c, if_neg c]; exact .inl ⟨rfl, rfl⟩
 ·rw [better_some, rd99 l j hj]
  by_cases c : q (cv l[i]) = true
  ·rw [if_pos c, if_neg (by omega)]
   by_cases c2 : (l[i]).f2 < (l[j]).f2
   ·rw [if_pos c2, if_pos ⟨c, c2⟩]; exact .inr ⟨i, hi, rfl, rfl⟩
   ·rw [if_neg c2, if_neg (fun hh => c2 hh.2)]; exact .inr ⟨j, hj, rfl, rfl⟩
  ·rw [if_neg c, if_neg (fun hh => c hh.1)]; exact .inr ⟨j, hj, rfl, rfl⟩
theorem take_fold {l : List S99} (q : S94 → Bool) (i : Nat) (hi : i < l.length) : ((l.take (i + 1)).map cv).foldl (better (fun y : S94 => y.f2) q) none = better (fun y : S94 => y.f2) q (((l.take i).map cv).foldl (better (fun y : S94 => y.f2) q) none) (cv l[i]) := by
 rw [List.take_succ_eq_append_getElem hi, List.map_append, List.foldl_append]; rfl
structure okR (n : Nat) (y : S94) : Prop where
 i : okI y
 ea : y.f0.length = n
 eb : y.f1.length = n
theorem ref22_Get_loop (n0 : Nat) (l : List S99) (hl : l.length < 1000000) (hok : ∀ y ∈ l, okR n0 (cv y)) (key : List S32) (hk0 : ∀ z ∈ key, okV z) (hm0 : key.length ≤ 1000) : ∀ (n k i : Nat) (b : Int), i + n = l.length → n + 1001 < k → BestIs l b (((l.take i).map cv).foldl (better (fun y : S94 => y.f2) (qK key)) none) →
 ∃ r, shunterref22_Get.l0 k l key b (i : Int) = some r ∧ BestIs l r ((isoT l).find? (qK key))
 | 0, k, i, b, h, hk, hb => by
  obtain ⟨k, rfl⟩ : ∃ m, k = m + 1 := ⟨k - 1, by omega⟩
  obtain rfl : i = l.length := by omega
  simp only [shunterref22_Get.l0]
  rw [if_neg (by omega)]
  refine ⟨b, rfl, ?_⟩
  rw [List.take_length] at hb
  unfold isoT
  rw [find_isort]; exact hb
 | n + 1, k, i, b, h, hk, hb => by
  obtain ⟨k, rfl⟩ : ∃ m, k = m + 1 := ⟨k - 1, by omega⟩
  have hi : i < l.length := by omega
  have hy := hok l[i] (List.getElem_mem hi)
  have hm : shunterref22_Meets.f k key (l[i]).f0 (l[i]).f1 (l[i]).f2 (l[i]).f3 = some (qK key (cv l[i])) := ref22_Meets_eq k key (cv l[i]) hk0 hy.i (by rw [hy.ea, hy.eb]) hm0 (by omega)
  have hs := best_step hb i hi (qK key)
  rw [← take_fold (qK key) i hi] at hs
  have hr : rd_T99 l (i : Int) = l[i] := rd99 l i hi
  simp only [shunterref22_Get.l0]
  rw [if_pos (by omega), if_pos (by omega), hr, hm, Option.bind_some, wrap64_id _ (by omega) (by omega), show ((i : Int) + 1) = ((i + 1 : Nat) : Int) by omega]
  by_cases c : qK key (cv l[i]) = true
  ·rw [if_pos c]
   rw [if_pos c] at hs
   by_cases c1 : b < 0
   ·rw [if_pos c1]
    rw [if_pos c1] at hs
    exact ref22_Get_loop n0 l hl hok key hk0 hm0 n k (i + 1) _ (by omega) (by omega) hs
   ·rw [if_neg c1] at hs
    have hbl : b < (l.length : Int) := by
     rcases hb with ⟨rfl, _⟩ | ⟨j, hj, rfl, _⟩ <;> omega
    rw [if_neg c1, if_pos (by omega), if_pos hbl]
    by_cases c2 : (l[i]).f2 < (rd_T99 l b).f2
    ·rw [if_pos c2]
     rw [if_pos c2] at hs
     exact ref22_Get_loop n0 l hl hok key hk0 hm0 n k (i + 1) _ (by omega) (by omega) hs
    ·rw [if_neg c2]
     rw [if_neg c2] at hs
     exact ref22_Get_loop n0 l hl hok key hk0 hm0 n k (i + 1) _ (by omega) (by omega) hs
  ·rw [if_neg c]
   rw [if_neg c] at hs
   exact ref22_Get_loop n0 l hl hok key hk0 hm0 n k (i + 1) _ (by omega) (by omega) hs
theorem ref22_Get_eq (n0 k : Nat) (l : List S99) (hl : l.length < 1000000) (hk : l.length + 1001 < k) (hok : ∀ y ∈ l, okR n0 (cv y)) (key : List S32) (hk0 : ∀ z ∈ key, okV z) (hm0 : key.length ≤ 1000) :
 ∃ r, shunterref22_Get.f k l key = some r ∧ BestIs l r ((isoT l).find? (qK key)) :=
 ref22_Get_loop n0 l hl hok key hk0 hm0 l.length k 0 (-1) (by omega) (by omega) (.inl ⟨rfl, rfl⟩)
theorem cv_vc (y : S94) : cv (vc y) = y := rfl
def qT (l : List S99) (t : Nat) (a : S94) : Bool := !(((isoT l).take t).any (fun b => sameI b a))
theorem out_any (l : List S99) (t : Nat) (a : S94) : (((isoT l).take t).map vc).any (fun z => sameI (cv z) a) = ((isoT l).take t).any (fun b => sameI b a) := by
 rw [List.any_map]; rfl
theorem Sorted_inner (l : List S99) (hl : l.length < 1000000) (hL : ∀ y ∈ l, okI (cv y)) (hd : apart l) (t : Nat) (ht : t < l.length) (F : Nat) (fin : Option (List S99)) (hF : l.length + 1001 < F)
 (hout : ∀ k, F < k → shunterref22_Sorted.l0 k l (((isoT l).take (t + 1)).map vc) = fin) :
 ∀ (n k i : Nat) (b : Int), i + n = l.length → n + F + 1 < k → BestIs l b (((l.take i).map cv).foldl (better (fun y : S94 => y.f2) (qT l t)) none) →
 shunterref22_Sorted.l1 k l (((isoT l).take t).map vc) b (i : Int) = fin
 | 0, k, i, b, h, hk, hb => by
  obtain ⟨k, rfl⟩ : ∃ m, k = m + 1 := ⟨k - 1, by omega⟩
  obtain rfl : i = l.length := by omega
  rw [List.take_length] at hb
  have e : (isoT l).find? (qT l t) = (isoT l)[t]? := find_next sameI sameI_refl (isoT l) t (apart_iso hd)
  unfold isoT at e
  rw [find_isort] at e
  rw [e] at hb
  have htl : t < (isoT l).length := by rw [isoT_length]; exact ht
  have e2 : (isort (fun y : S94 => y.f2) (l.map cv))[t]? = some (isoT l)[t] := List.getElem?_eq_getElem htl
  rw [e2] at hb
  rcases hb with ⟨_, hb⟩ | ⟨j, hj, rfl, hb⟩
  ·cases hb
  ·simp only [shunterref22_Sorted.l1]
   rw [if_neg (by omega), if_pos (by omega), if_pos (by omega), if_pos (by simp; omega), rd99 l j hj]
   rw [← hout k (by omega), List.take_succ_eq_append_getElem htl, List.map_append]
   injection hb with hb
   rw [hb]; rfl
 | n + 1, k, i, b, h, hk, hb => by
  obtain ⟨k, rfl⟩ : ∃ m, k = m + 1 := ⟨k - 1, by omega⟩
  have hi : i < l.length := by omega
  have hs := best_step hb i hi (qT l t)
  rw [← take_fold (qT l t) i hi] at hs
  have hfl : (((isoT l).take t).map vc).length ≤ l.length := by rw [List.length_map, List.length_take, isoT_length]; omega
  have hf : shunterref22_Find.f k (((isoT l).take t).map vc) (l[i]).f0 (l[i]).f1 (l[i]).f2 (l[i]).f3 = some (fidx (fun y => sameI (cv y) (cv l[i])) (((isoT l).take t).map vc) 0) := ref22_Find_eq k _ (by omega) (fun y hy => by obtain ⟨z, hz, rfl⟩ := List.mem_map.1 hy; obtain ⟨q, hq, he⟩ := (mem_isoT l z).1 (List.mem_of_mem_take hz); rw [cv_vc, ← he]; exact hL q hq) (by omega) (cv l[i])
  simp only [shunterref22_Sorted.l1]
  rw [if_pos (by omega), if_pos (by omega), rd99 l i hi, hf, Option.bind_some, wrap64_id _ (by omega) (by omega), show ((i : Int) + 1) = ((i + 1 : Nat) : Int) by omega]
  by_cases c : qT l t (cv l[i]) = true
  ·rw [if_pos c] at hs
   have ha : (((isoT l).take t).map vc).any (fun z => sameI (cv z) (cv l[i])) = false := by
    rw [out_any]; unfold qT at c; simpa using c
   rw [fidx_neg ha, if_pos (by decide)]
   by_cases c1 : b < 0
   ·rw [if_pos c1]
    rw [if_pos c1] at hs
    exact Sorted_inner l hl hL hd t ht F fin hF hout n k (i + 1) _ (by omega) (by omega) hs
   ·rw [if_neg c1] at hs
    have hbl : b < (l.length : Int) := by
     rcases hb with ⟨rfl, _⟩ | ⟨j, hj, rfl, _⟩ <;> omega
    rw [if_neg c1, if_pos (by omega), if_pos hbl]
    by_cases c2 : (l[i]).f2 < (rd_T99 l b).f2
    ·rw [if_pos c2]
     rw [if_pos c2] at hs
     exact Sorted_inner l hl hL hd t ht F fin hF hout n k (i + 1) _ (by omega) (by omega) hs
    ·rw [if_neg c2]
     rw [if_neg c2] at hs
     exact Sorted_inner l hl hL hd t ht F fin hF hout n k (i + 1) _ (by omega) (by omega) hs
  ·rw [if_neg c] at hs
   have ha : (((isoT l).take t).map vc).any (fun z => sameI (cv z) (cv l[i])) = true := by
    rw [out_any]; unfold qT at c; simpa using c
   obtain ⟨j, hj, e, _⟩ := fidx_pos ha
   rw [e, if_neg (by omega)]
   exact Sorted_inner l hl hL hd t ht F fin hF hout n k (i + 1) _ (by omega) (by omega) hs
set_option maxRecDepth 100000 in
theorem Sorted_outer (l : List S99) (hl : l.length < 1000000) (hL : ∀ y ∈ l, okI (cv y)) (hd : apart l) : ∀ (n k t : Nat), t + n = l.length → (n + 1) * (l.length + 3) + l.length + 1003 < k →
 shunterref22_Sorted.l0 k l (((isoT l).take t).map vc) = some ((isoT l).map vc)
 | 0, k, t, h, hk => by
  obtain ⟨k, rfl⟩ : ∃ m, k = m + 1 := ⟨k - 1, by omega⟩
  simp only [shunterref22_Sorted.l0]
  have e : (isoT l).take t = isoT l := List.take_of_length_le (by rw [isoT_length]; omega)
  rw [e, if_neg (by rw [List.length_map, isoT_length]; omega)]
 | n + 1, k, t, h, hk => by
  obtain ⟨k, rfl⟩ : ∃ m, k = m + 1 := ⟨k - 1, by omega⟩
  simp only [shunterref22_Sorted.l0]
  rw [if_pos (by rw [List.length_map, List.length_take, isoT_length]; omega)]
  have hmul : (n + 1 + 1) * (l.length + 3) = (n + 1) * (l.length + 3) + (l.length + 3) := Nat.succ_mul _ _
  have := Sorted_inner l hl hL hd t (by omega) ((n + 1) * (l.length + 3) + l.length + 1003) (some ((isoT l).map vc)) (by omega) (fun k hk2 => Sorted_outer l hl hL hd n k (t + 1) (by omega) hk2) l.length k 0 (-1) (by omega) (by omega) (.inl ⟨rfl, rfl⟩)
  exact this
set_option maxRecDepth 100000 in
theorem ref22_Sorted_eq (k : Nat) (l : List S99) (hl : l.length < 1000000) (hL : ∀ y ∈ l, okI (cv y)) (hd : apart l) (hk : (l.length + 1) * (l.length + 3) + l.length + 1003 < k) : shunterref22_Sorted.f k l = some ((isoT l).map vc) :=
 Sorted_outer l hl hL hd l.length k 0 (by omega) hk
end Go.Proofs.Ytfdbcnbakchcgaa.XQ
