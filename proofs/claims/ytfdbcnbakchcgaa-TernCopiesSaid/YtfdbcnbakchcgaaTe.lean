import Derived.Test.YtfdbcnbakchcgaaTd
import Derived.Test.YtfdbcnbakchcgaaTr
namespace Go.Proofs.Ytfdbcnbakchcgaa.XT
open Go.RowKit Go.Proofs.YtfdbcnbakchcgaaW.PrintWords Go.Proofs.YtfdbcnbakchcgaaW.PrintLast Go.Proofs.YtfdbcnbakchcgaaW.PrintMore
attribute [local go_sem] max2_int min2_int max_two min_two max_three min_three max_four min_four   -- for this text's walks alone
set_option linter.unusedVariables false
set_option linter.unusedSimpArgs false
theorem idxT_eq (p : S59 → Bool) : ∀ (xs : List S59) (k : Nat), idxT p xs k = if xs.findIdx p < xs.length then ((k + xs.findIdx p : Nat) : Int) else -1
 | [], k => by simp [idxT]
 | y :: t, k => by
  rw [idxT, List.findIdx_cons]
  cases h : p y with
  | true => simp
  | false =>
   simp only [Bool.false_eq_true, if_false, cond_false, List.length_cons, Nat.add_lt_add_iff_right]
   rw [idxT_eq p t (k + 1)]
   split
   ·congr 1; omega
   ·rfl
theorem idxT_any (p : S59 → Bool) (xs : List S59) : decide (0 ≤ idxT p xs 0) = xs.any p := by
 rw [idxT_eq]
 cases h : xs.any p with
 | true =>
  have : xs.findIdx p < xs.length := List.findIdx_lt_length.2 (by rw [List.any_eq_true] at h; exact h)
  rw [if_pos this]; simp
 | false =>
  have : ¬ xs.findIdx p < xs.length := fun hh => by
   have := List.findIdx_lt_length.1 hh
   rw [← List.any_eq_true, h] at this
   cases this
  rw [if_neg this]; rfl
/-- What Put answers to a rule that may be, or may not be for the reason c. -/
def putE (c m : Int) (xs : List S59) (x : S59) : Int := if c ≠ 0 then c else if xs.any (fun y => sameT y x) = true then 6 else if (xs.length : Int) = m then 8 else 0
def putL (c m : Int) (xs : List S59) (x : S59) : List S59 := if putE c m xs x = 0 then ins (fun y => y.f2) x xs else xs
def setE (c : Int) (xs : List S59) (x : S59) : Int := if c ≠ 0 then c else if xs.any (fun y => sameT y x) = true then 0 else 5
def setL (c : Int) (xs : List S59) (x : S59) : List S59 := if c = 0 then xs.map (fun y => if sameT y x = true then { y with f3 := x.f3 } else y) else xs
def dropL (c : Int) (xs : List S59) (x : S59) : List S59 := if c = 0 then xs.filter (fun y => !sameT y x) else xs
theorem sameT_iff (x y : S59) : sameT x y = true ↔ x.f0 = y.f0 ∧ x.f1 = y.f1 ∧ x.f2 = y.f2 := by
 obtain ⟨⟨a, b, c⟩, ⟨d, e, f⟩, g, h⟩ := x
 obtain ⟨⟨a', b', c'⟩, ⟨d', e', f'⟩, g', h'⟩ := y
 simp [sameT, and_assoc]
theorem sameT_trans (a b x : S59) (h1 : sameT a x = true) (h2 : sameT b x = true) : sameT a b = true := by
 rw [sameT_iff] at *
 exact ⟨h1.1.trans h2.1.symm, h1.2.1.trans h2.2.1.symm, h1.2.2.trans h2.2.2.symm⟩
theorem sameT_comm (a b : S59) : sameT a b = sameT b a := by
 rw [Bool.eq_iff_iff, sameT_iff, sameT_iff]
 exact ⟨fun h => ⟨h.1.symm, h.2.1.symm, h.2.2.symm⟩, fun h => ⟨h.1.symm, h.2.1.symm, h.2.2.symm⟩⟩
/-- Put, in all its cases. -/
theorem Put_calls (w0 w : World) (g : Nat) (v : Value) (xs : List S59) (W m : Int) (x : S59) (h : TK w0 w g v xs W m) (c : Int) (hm : mayT W x = some c) (hn : xs.length ≤ 1000) :
 Calls Try.prog 46 #[.pointer (some ⟨g, 0, none⟩), .agg #[.int .i64 x.f0.f0, .int .u64 x.f0.f1, .int .u64 x.f0.f2, .int .i64 x.f1.f0, .int .u64 x.f1.f1, .int .u64 x.f1.f2, .int .i64 x.f2, .int .i64 x.f3]] w fun e w' => e = .returned (.int .i64 (putE c m xs x)) ∧ ∃ v1, TP w0 w w' g v v1 (putL c m xs x) W m := by
 by_cases hc : c = 0
 ·subst hc
  have hany := idxT_any (fun y => sameT y x) xs
  cases ha : xs.any (fun y => sameT y x) with
  | true =>
   have e : putE 0 m xs x = 6 := by unfold putE; rw [if_neg (by simp), if_pos ha]
   have e2 : putL 0 m xs x = xs := by unfold putL; rw [e]; rfl
   rw [e, e2]
   refine (Put_twice w0 w g v xs W m x h hm _ rfl (by rw [hany, ha]) hn).mono ?_
   rintro _ w' ⟨rfl, hb⟩
   exact ⟨rfl, v, TP.of_below h hb⟩
  | false =>
   by_cases hl : (xs.length : Int) = m
   ·have e : putE 0 m xs x = 8 := by unfold putE; rw [if_neg (by simp), if_neg (by rw [ha]; simp), if_pos hl]
    have e2 : putL 0 m xs x = xs := by unfold putL; rw [e]; rfl
    rw [e, e2]
    refine (Put_full w0 w g v xs W m x h hm _ rfl (by rw [hany, ha]) (by simpa using hl) hn).mono ?_
    rintro _ w' ⟨rfl, hb⟩
    exact ⟨rfl, v, TP.of_below h hb⟩
   ·have e : putE 0 m xs x = 0 := by unfold putE; rw [if_neg (by simp), if_neg (by rw [ha]; simp), if_neg hl]
    have e2 : putL 0 m xs x = ins (fun y => y.f2) x xs := by unfold putL; rw [e]; rfl
    rw [e, e2, ins_at]
    have hi := idxT_eq (fun y => decide (x.f2 < y.f2)) xs 0
    by_cases hlt : xs.findIdx (fun y => decide (x.f2 < y.f2)) < xs.length
    ·rw [if_pos hlt, Nat.zero_add] at hi
     exact Put_mid w0 w g v xs W m x h hm _ rfl (by rw [hany, ha]) (by simpa using hl) _ (by omega) hi hn
    ·rw [if_neg hlt] at hi
     have hle : xs.findIdx (fun y => decide (x.f2 < y.f2)) ≤ xs.length := List.findIdx_le_length
     exact Put_end w0 w g v xs W m x h hm _ rfl (by rw [hany, ha]) (by simpa using hl) _ (by omega) hi (by omega) hn
 ·have e : putE c m xs x = c := by unfold putE; rw [if_pos hc]
  have e2 : putL c m xs x = xs := by unfold putL; rw [e, if_neg hc]
  rw [e, e2]
  refine (Put_e w0 w g v xs W m x h c hm (by simpa using hc) hn).mono ?_
  rintro _ w' ⟨rfl, hb⟩
  exact ⟨rfl, v, TP.of_below h hb⟩
theorem idxT_neg (p : S59 → Bool) (xs : List S59) (h : xs.any p = false) : decide (idxT p xs 0 < 0) = true := by
 have := idxT_any p xs
 rw [h] at this
 simp only [decide_eq_false_iff_not, decide_eq_true_eq] at *
 omega
theorem idxT_pos (p : S59 → Bool) (xs : List S59) (h : xs.any p = true) : ∃ (i : Nat) (hi : i < xs.length), idxT p xs 0 = (i : Int) ∧ p xs[i] = true := by
 have hlt : xs.findIdx p < xs.length := List.findIdx_lt_length.2 (by rw [List.any_eq_true] at h; exact h)
 refine ⟨xs.findIdx p, hlt, by rw [idxT_eq, if_pos hlt, Nat.zero_add], List.findIdx_getElem⟩
theorem Set_calls (w0 w : World) (g : Nat) (v : Value) (xs : List S59) (W m : Int) (x : S59) (h : TK w0 w g v xs W m) (c : Int) (hm : mayT W x = some c) (hn : xs.length ≤ 1000) (hd : xs.Pairwise (fun a b => sameT a b = false)) :
 Calls Try.prog 47 #[.pointer (some ⟨g, 0, none⟩), .agg #[.int .i64 x.f0.f0, .int .u64 x.f0.f1, .int .u64 x.f0.f2, .int .i64 x.f1.f0, .int .u64 x.f1.f1, .int .u64 x.f1.f2, .int .i64 x.f2, .int .i64 x.f3]] w fun e w' => e = .returned (.int .i64 (setE c xs x)) ∧ ∃ v1, TP w0 w w' g v v1 (setL c xs x) W m := by
 by_cases hc : c = 0
 ·subst hc
  cases ha : xs.any (fun y => sameT y x) with
  | true =>
   obtain ⟨i, hi, e1, e2⟩ := idxT_pos _ _ ha
   have e : setE 0 xs x = 0 := by unfold setE; rw [if_neg (by simp), if_pos ha]
   have e3 : setL 0 xs x = xs.set i { rd_T59 xs (i : Int) with f3 := x.f3 } := by
    have er : rd_T59 xs (i : Int) = xs[i] := by simp [rd_T59, List.getD_eq_getElem?_getD, hi]
    rw [er, set_map (same := sameT) sameT_trans (fun y => { y with f3 := x.f3 }) x xs i xs[i] hd (List.getElem?_eq_getElem hi) e2]
    rfl
   rw [e, e3]
   refine (Set_ok w0 w g v xs W m x h hm i e1 hi hn).mono ?_
   rintro _ w' ⟨rfl, hb⟩
   exact ⟨rfl, v, hb⟩
  | false =>
   have e : setE 0 xs x = 5 := by unfold setE; rw [if_neg (by simp), if_neg (by rw [ha]; simp)]
   have e3 : setL 0 xs x = xs := by
    show xs.map _ = xs
    conv => rhs; rw [← List.map_id xs]
    refine List.map_congr_left (fun y hy => ?_)
    rw [if_neg (fun hh => by rw [List.any_eq_false] at ha; exact ha y hy hh)]; rfl
   rw [e, e3]
   refine (Set_none w0 w g v xs W m x h hm _ rfl (idxT_neg _ _ ha) hn).mono ?_
   rintro _ w' ⟨rfl, hb⟩
   exact ⟨rfl, v, TP.of_below h hb⟩
 ·have e : setE c xs x = c := by unfold setE; rw [if_pos hc]
  have e2 : setL c xs x = xs := by unfold setL; rw [if_neg hc]
  rw [e, e2]
  refine (Set_e w0 w g v xs W m x h c hm (by simpa using hc) hn).mono ?_
  rintro _ w' ⟨rfl, hb⟩
  exact ⟨rfl, v, TP.of_below h hb⟩
theorem Drop_calls (w0 w : World) (g : Nat) (v : Value) (xs : List S59) (W m : Int) (x : S59) (h : TK w0 w g v xs W m) (c : Int) (hm : mayT W x = some c) (hn : xs.length ≤ 1000) (hd : xs.Pairwise (fun a b => sameT a b = false)) :
 Calls Try.prog 48 #[.pointer (some ⟨g, 0, none⟩), .agg #[.int .i64 x.f0.f0, .int .u64 x.f0.f1, .int .u64 x.f0.f2, .int .i64 x.f1.f0, .int .u64 x.f1.f1, .int .u64 x.f1.f2, .int .i64 x.f2, .int .i64 x.f3]] w fun e w' => e = .returned (.int .i64 (setE c xs x)) ∧ ∃ v1, TP w0 w w' g v v1 (dropL c xs x) W m := by
 by_cases hc : c = 0
 ·subst hc
  cases ha : xs.any (fun y => sameT y x) with
  | true =>
   obtain ⟨i, hi, e1, e2⟩ := idxT_pos _ _ ha
   have e : setE 0 xs x = 0 := by unfold setE; rw [if_neg (by simp), if_pos ha]
   have e3 : dropL 0 xs x = xs.eraseIdx i := by
    rw [erase_filter (same := sameT) sameT_trans x xs i xs[i] hd (List.getElem?_eq_getElem hi) e2]
    rfl
   rw [e, e3]
   exact Drop_ok w0 w g v xs W m x h hm i e1 hi hn
  | false =>
   have e : setE 0 xs x = 5 := by unfold setE; rw [if_neg (by simp), if_neg (by rw [ha]; simp)]
   have e3 : dropL 0 xs x = xs := List.filter_eq_self.2 (fun y hy => by
    rw [List.any_eq_false] at ha
    have := ha y hy
    simp only [Bool.not_eq_true] at this
    rw [this]; rfl)
   rw [e, e3]
   refine (Drop_none w0 w g v xs W m x h hm _ rfl (idxT_neg _ _ ha) hn).mono ?_
   rintro _ w' ⟨rfl, hb⟩
   exact ⟨rfl, v, TP.of_below h hb⟩
 ·have e : setE c xs x = c := by unfold setE; rw [if_pos hc]
  have e2 : dropL c xs x = xs := by unfold dropL; rw [if_neg hc]
  rw [e, e2]
  refine (Drop_e w0 w g v xs W m x h c hm (by simpa using hc) hn).mono ?_
  rintro _ w' ⟨rfl, hb⟩
  exact ⟨rfl, v, TP.of_below h hb⟩
/-- A list just made. -/
theorem TK_new (w : World) (W m : Int) : TK w (w.alloc (.cells #[.slice none 0 0, .int .i64 W, .int .i64 m] 147 (0, 0))) w.heap.size (.slice none 0 0) [] W m :=
 ⟨blk_new w _, Kd.R_nil _ _ _ _ _, Nat.le_refl _, below_alloc (Below.refl _ _) _⟩
def lv1 : S59 := ⟨⟨8, 0, 0⟩, ⟨8, 0, 0⟩, 2, 2⟩
def lv2 : S59 := ⟨⟨8, 0, 16⟩, ⟨8, 0, 240⟩, 1, 1⟩
def lvp (k : Int) (y : S59) : Bool := (vec_Meets.f 8 0 k y.f0.f0 y.f0.f1 y.f0.f2 y.f1.f0 y.f1.f1 y.f1.f2).getD false
set_option maxHeartbeats 1000000 in
set_option maxRecDepth 100000 in
theorem lives_calls (w : World) : Calls Try.prog 35 #[] w fun e w' => e = .returned (.bool true) ∧ Below w.heap.size w w' := by
 have hm1 : mayT 8 lv1 = some 0 := by decide +kernel
 have hm2 : mayT 8 lv2 = some 0 := by decide +kernel
 have hp1 : ∀ y ∈ [lv2, lv1], vec_Meets.f 8 0 31 y.f0.f0 y.f0.f1 y.f0.f2 y.f1.f0 y.f1.f1 y.f1.f2 = some (lvp 31 y) := by
  intro y hy
  simp only [List.mem_cons, List.not_mem_nil, or_false] at hy
  rcases hy with rfl | rfl <;> decide +kernel
 have hp2 : ∀ y ∈ [lv2, lv1], vec_Meets.f 8 0 47 y.f0.f0 y.f0.f1 y.f0.f2 y.f1.f0 y.f1.f1 y.f1.f2 = some (lvp 47 y) := by
  intro y hy
  simp only [List.mem_cons, List.not_mem_nil, or_false] at hy
  rcases hy with rfl | rfl <;> decide +kernel
 have g1 : getA (lvp 31) [lv2, lv1] = (1, 1, true) := by
  have : lvp 31 lv2 = true := by decide +kernel
  unfold getA; rw [List.find?_cons_of_pos this]; rfl
 have g2 : getA (lvp 47) [lv2, lv1] = (2, 2, true) := by
  have h1 : lvp 47 lv2 = false := by decide +kernel
  have h2 : lvp 47 lv1 = true := by decide +kernel
  unfold getA; rw [List.find?_cons_of_neg (by simp [h1]), List.find?_cons_of_pos h2]; rfl
 have P1 : ∀ w1 : World, TK w w1 w.heap.size (.slice none 0 0) [] 8 2 → Calls Try.prog 46 #[.pointer (some ⟨w.heap.size, 0, none⟩), .agg #[.int .i64 8, .int .u64 0, .int .u64 0, .int .i64 8, .int .u64 0, .int .u64 0, .int .i64 2, .int .i64 2]] w1 fun e w' => e = .returned (.int .i64 0) ∧ ∃ v1, TK w w' w.heap.size v1 [lv1] 8 2 := by
  intro w1 h
  refine (Put_calls w w1 w.heap.size _ [] 8 2 lv1 h 0 hm1 (by simp)).mono ?_
  rintro e w' ⟨rfl, v1, hp⟩
  exact ⟨rfl, v1, hp.tk⟩
 have P2 : ∀ (w1 : World) (v : Value), TK w w1 w.heap.size v [lv1] 8 2 → Calls Try.prog 46 #[.pointer (some ⟨w.heap.size, 0, none⟩), .agg #[.int .i64 8, .int .u64 0, .int .u64 16, .int .i64 8, .int .u64 0, .int .u64 240, .int .i64 1, .int .i64 1]] w1 fun e w' => e = .returned (.int .i64 0) ∧ ∃ v1, TK w w' w.heap.size v1 [lv2, lv1] 8 2 := by
  intro w1 v h
  refine (Put_calls w w1 w.heap.size _ [lv1] 8 2 lv2 h 0 hm2 (by simp)).mono ?_
  rintro e w' ⟨rfl, v1, hp⟩
  exact ⟨rfl, v1, hp.tk⟩
 have G1 : ∀ (w1 : World) (v : Value), TK w w1 w.heap.size v [lv2, lv1] 8 2 → Calls Try.prog 41 #[.pointer (some ⟨w.heap.size, 0, none⟩), .agg #[.int .i64 8, .int .u64 0, .int .u64 31]] w1 fun e w' => e = .returned (.tuple #[.int .i64 1, .int .i64 1, .bool true]) ∧ TK w w' w.heap.size v [lv2, lv1] 8 2 := by
  intro w1 v h
  refine (Get_calls w w1 w.heap.size v [lv2, lv1] 8 2 8 0 31 (lvp 31) h (by simp) hp1).mono ?_
  rintro e w' ⟨rfl, hb⟩
  exact ⟨by rw [g1], h.step hb⟩
 have G2 : ∀ (w1 : World) (v : Value), TK w w1 w.heap.size v [lv2, lv1] 8 2 → Calls Try.prog 41 #[.pointer (some ⟨w.heap.size, 0, none⟩), .agg #[.int .i64 8, .int .u64 0, .int .u64 47]] w1 fun e w' => e = .returned (.tuple #[.int .i64 2, .int .i64 2, .bool true]) ∧ TK w w' w.heap.size v [lv2, lv1] 8 2 := by
  intro w1 v h
  refine (Get_calls w w1 w.heap.size v [lv2, lv1] 8 2 8 0 47 (lvp 47) h (by simp) hp2).mono ?_
  rintro e w' ⟨rfl, hb⟩
  exact ⟨by rw [g2], h.step hb⟩
 have N1 : Calls Try.prog 39 #[.int .i64 8, .int .i64 2] w fun e w' => e = .returned (.pointer (some ⟨w.heap.size, 0, none⟩)) ∧ TK w w' w.heap.size (.slice none 0 0) [] 8 2 := by
  refine (New_ok 8 2 w (by decide) (by decide) (by decide) (by decide)).mono ?_
  rintro e w' ⟨rfl, rfl⟩
  exact ⟨rfl, TK_new w 8 2⟩
 have AP1 := Aside0.mk P1
 have AP2 := Aside0.mk P2
 have AG1 := Aside0.mk G1
 have AG2 := Aside0.mk G2
 have AN1 := Aside0.mk N1
 clear P1 P2 G1 G2 N1 g1 g2 hp1 hp2 hm1 hm2
 go_enter Try.func35, Try.ntmps35
 go_wp2_with (first
  | (go_at_call 39; with_reducible refine AN1.out.mono ?_; rintro e w1 ⟨rfl, ht⟩; have HT0 := Aside0.mk ht; clear ht)
  | (go_at_call 46; with_reducible refine (AP1.out _ HT0.out).mono ?_; rintro e w2 ⟨rfl, v1, ht⟩; have HT1 := Aside0.mk ht; clear ht)
  | (go_at_call 46; with_reducible refine (AP2.out _ _ HT1.out).mono ?_; rintro e w3 ⟨rfl, v2, ht⟩; have HT2 := Aside0.mk ht; clear ht)
  | (go_at_call 41; with_reducible refine (AG1.out _ _ HT2.out).mono ?_; rintro e w4 ⟨rfl, ht⟩; have HT3 := Aside0.mk ht; clear ht)
  | (go_at_call 41; with_reducible refine (AG2.out _ _ HT3.out).mono ?_; rintro e w5 ⟨rfl, ht⟩; have HT4 := Aside0.mk ht; clear ht))
 go_ret
 exact ⟨rfl, HT4.out.below⟩
end Go.Proofs.Ytfdbcnbakchcgaa.XT
