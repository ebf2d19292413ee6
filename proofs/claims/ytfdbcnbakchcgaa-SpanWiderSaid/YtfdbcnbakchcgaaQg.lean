import Derived.Test.YtfdbcnbakchcgaaSv
import Derived.Test.YtfdbcnbakchcgaaQf
namespace Go.Proofs.Ytfdbcnbakchcgaa.XQ
open Go.RowKit Go.Proofs.YtfdbcnbakchcgaaW.PrintWords Go.Proofs.YtfdbcnbakchcgaaW.PrintLast Go.Proofs.YtfdbcnbakchcgaaW.PrintMore
attribute [local go_sem] max2_int min2_int max_two min_two max_three min_three max_four min_four
set_option linter.unusedVariables false
set_option linter.unusedSimpArgs false
theorem idxT_eq (p : S94 → Bool) : ∀ (xs : List S94) (k : Nat), idxT p xs k = if xs.findIdx p < xs.length then ((k + xs.findIdx p : Nat) : Int) else -1
 | [], k => by simp [idxT]
 | y :: t, k => by
  rw [idxT, List.findIdx_cons]
  cases h : p y with
  | true => simp
  | false =>
   simp only [Bool.false_eq_true, if_false, cond_false, List.length_cons, Nat.add_lt_add_iff_right]
   rw [idxT_eq p t (k + 1)]
   split
   ·congr 1; omega
   ·rfl
theorem idxT_any (p : S94 → Bool) (xs : List S94) : decide (0 ≤ idxT p xs 0) = xs.any p := by
 rw [idxT_eq]
 cases h : xs.any p with
 | true =>
  have : xs.findIdx p < xs.length := List.findIdx_lt_length.2 (by rw [List.any_eq_true] at h; exact h)
  rw [if_pos this]; simp
 | false =>
  have : ¬ xs.findIdx p < xs.length := fun hh => by
   have := List.findIdx_lt_length.1 hh
   rw [← List.any_eq_true, h] at this
   cases this
  rw [if_neg this]; rfl
def putE (c m : Int) (xs : List S94) (x : S94) : Int := if c ≠ 0 then c else if xs.any (fun y => sameI y x) = true then 6 else if (xs.length : Int) = m then 8 else 0
def putL (c m : Int) (xs : List S94) (x : S94) : List S94 := if putE c m xs x = 0 then ins (fun y => y.f2) x xs else xs
theorem sameI_iff (y x : S94) : sameI y x = true ↔ x.f0 = y.f0 ∧ x.f1 = y.f1 ∧ x.f2 = y.f2 := by
 unfold sameI
 simp only [Bool.and_eq_true, decide_eq_true_eq]
 constructor
 ·rintro ⟨h1, h2, h3⟩; exact ⟨h2, h3, h1⟩
 ·rintro ⟨h1, h2, h3⟩; exact ⟨h3, h1, h2⟩
theorem Put_calls (w0 w : World) (g : Nat) (v wv : Value) (xs : List S94) (ws : List Int) (m : Int) (x : S94) (A : Option Addr) (c : Nat) (B : Option Addr) (d : Nat) (h : LK w0 w g v wv xs ws m) (hA : Kd.C k32 w A x.f0.length x.f0) (hB : Kd.C k32 w B x.f1.length x.f1) (hok0 : ∀ y ∈ x.f0, okV y) (hok1 : ∀ y ∈ x.f1, okV y) (hxl : x.f0.length ≤ c ∧ x.f1.length ≤ d ∧ x.f0.length ≤ 1000 ∧ x.f1.length ≤ 1000) (hn : xs.length ≤ 1000) :
 Calls Try.prog 55 #[.pointer (some ⟨g, 0, none⟩), .agg #[.slice A x.f0.length c, .slice B x.f1.length d, .int .i64 x.f2, .int .i64 x.f3]] w fun e w' => e = .returned (.int .i64 (putE (mayL ws x) m xs x)) ∧ ∃ v1, LP w0 w w' g v v1 wv (putL (mayL ws x) m xs x) ws m := by
 by_cases hc : mayL ws x = 0
 ·rw [hc]
  have hany := idxT_any (fun y => sameI y x) xs
  cases ha : xs.any (fun y => sameI y x) with
  | true =>
   have e : putE 0 m xs x = 6 := by unfold putE; rw [if_neg (by simp), if_pos ha]
   have e2 : putL 0 m xs x = xs := by unfold putL; rw [e]; rfl
   rw [e, e2]
   refine (Put_twice w0 w g v wv xs ws m x A c B d h hA hB hok0 hok1 hc _ rfl (by rw [hany, ha]) hn).mono ?_
   rintro _ w' ⟨rfl, hb⟩
   exact ⟨rfl, v, LP.of_below h hb⟩
  | false =>
   by_cases hl : (xs.length : Int) = m
   ·have e : putE 0 m xs x = 8 := by unfold putE; rw [if_neg (by simp), if_neg (by rw [ha]; simp), if_pos hl]
    have e2 : putL 0 m xs x = xs := by unfold putL; rw [e]; rfl
    rw [e, e2]
    refine (Put_full w0 w g v wv xs ws m x A c B d h hA hB hok0 hok1 hc _ rfl (by rw [hany, ha]) (by simpa using hl) hn).mono ?_
    rintro _ w' ⟨rfl, hb⟩
    exact ⟨rfl, v, LP.of_below h hb⟩
   ·have e : putE 0 m xs x = 0 := by unfold putE; rw [if_neg (by simp), if_neg (by rw [ha]; simp), if_neg hl]
    have e2 : putL 0 m xs x = ins (fun y => y.f2) x xs := by unfold putL; rw [e]; rfl
    rw [e, e2, ins_at]
    have hi := idxT_eq (fun y => decide (x.f2 < y.f2)) xs 0
    by_cases hlt : xs.findIdx (fun y => decide (x.f2 < y.f2)) < xs.length
    ·rw [if_pos hlt, Nat.zero_add] at hi
     exact Put_mid w0 w g v wv xs ws m x A c B d h hA hB hok0 hok1 hc _ rfl (by rw [hany, ha]) (by simpa using hl) _ (by omega) hxl hi hn
    ·rw [if_neg hlt] at hi
     have hle : xs.findIdx (fun y => decide (x.f2 < y.f2)) ≤ xs.length := List.findIdx_le_length
     exact Put_end w0 w g v wv xs ws m x A c B d h hA hB hok0 hok1 hc _ rfl (by rw [hany, ha]) (by simpa using hl) _ (by omega) hxl hi (by omega) hn
 ·have e : putE (mayL ws x) m xs x = mayL ws x := by unfold putE; rw [if_pos hc]
  have e2 : putL (mayL ws x) m xs x = xs := by unfold putL; rw [e, if_neg hc]
  rw [e, e2]
  refine (Put_e w0 w g v wv xs ws m x A c B d h hA hB hok0 hok1 _ rfl (by simpa using hc) hn).mono ?_
  rintro _ w' ⟨rfl, hb⟩
  exact ⟨rfl, v, LP.of_below h hb⟩
end Go.Proofs.Ytfdbcnbakchcgaa.XQ
