import Derived.Test.YtfdbcnbakchcgaaQg
import Derived.Test.YtfdbcnbakchcgaaXQx13
import Derived.Test.YtfdbcnbakchcgaaXQx14
import Derived.Test.YtfdbcnbakchcgaaXQx16
namespace Go.Proofs.Ytfdbcnbakchcgaa.XQ
open Go.RowKit Go.Proofs.YtfdbcnbakchcgaaW.PrintWords Go.Proofs.YtfdbcnbakchcgaaW.PrintLast Go.Proofs.YtfdbcnbakchcgaaW.PrintMore
attribute [local go_sem] max2_int min2_int max_two min_two max_three min_three max_four min_four
set_option linter.unusedVariables false
set_option linter.unusedSimpArgs false
def cv (y : S99) : S94 := ⟨y.f0, y.f1, y.f2, y.f3⟩
def vc (y : S94) : S99 := ⟨y.f0, y.f1, y.f2, y.f3⟩
def isoT (x : List S99) : List S94 := isort (fun y : S94 => y.f2) (x.map cv)
theorem isoT_length (x : List S99) : (isoT x).length = x.length := by unfold isoT; rw [isort_length, List.length_map]
theorem mem_isoT (x : List S99) (y : S94) : y ∈ isoT x ↔ ∃ z ∈ x, cv z = y := by unfold isoT; rw [mem_isort, List.mem_map]
theorem isoT_any (x : List S99) (p : S94 → Bool) : (isoT x).any p = x.any (fun z => p (cv z)) := by
 rw [Bool.eq_iff_iff, List.any_eq_true, List.any_eq_true]
 constructor
 ·rintro ⟨y, hy, hp⟩
  obtain ⟨z, hz, rfl⟩ := (mem_isoT x y).1 hy
  exact ⟨z, hz, hp⟩
 ·rintro ⟨z, hz, hp⟩
  exact ⟨cv z, (mem_isoT x _).2 ⟨z, hz, rfl⟩, hp⟩
structure okI (x : S94) : Prop where
 a : ∀ z ∈ x.f0, okV z
 b : ∀ z ∈ x.f1, okV z
 la : x.f0.length ≤ 1000
 lb : x.f1.length ≤ 1000
def rputL (c m : Int) (l : List S99) (x : S94) : List S99 := if putE c m (isoT l) x = 0 then l ++ [vc x] else l
def rsetL (c : Int) (l : List S99) (x : S94) : List S99 := if c = 0 then l.map (fun y => if sameI (cv y) x = true then { y with f3 := x.f3 } else y) else l
def rdropL (c : Int) (l : List S99) (x : S94) : List S99 := if c = 0 then l.filter (fun y => !sameI (cv y) x) else l
def apart (l : List S99) : Prop := l.Pairwise (fun a b => sameI (cv a) (cv b) = false)
theorem apart_put {c m : Int} {l : List S99} {x : S94} (h : apart l) : apart (rputL c m l x) := by
 unfold rputL
 split
 ·rename_i e
  unfold apart
  rw [List.pairwise_append]
  refine ⟨h, by simp, fun a ha b hb => ?_⟩
  obtain rfl := List.mem_singleton.1 hb
  have hany : (isoT l).any (fun y => sameI y x) = false := by
   unfold putE at e
   split at e
   ·rename_i e2; exact absurd e e2
   ·split at e
    ·cases e
    ·rename_i e2; simpa using e2
  rw [isoT_any, List.any_eq_false] at hany
  exact (Bool.not_eq_true _).mp (hany a ha)
 ·exact h
theorem apart_set {c : Int} {l : List S99} {x : S94} (h : apart l) : apart (rsetL c l x) := by
 unfold rsetL
 split
 ·unfold apart
  rw [List.pairwise_map]
  refine h.imp (fun {a b} hab => ?_)
  have hc : ∀ z : S99, (cv (if sameI (cv z) x = true then { z with f3 := x.f3 } else z)).f0 = (cv z).f0 ∧ (cv (if sameI (cv z) x = true then { z with f3 := x.f3 } else z)).f1 = (cv z).f1 ∧ (cv (if sameI (cv z) x = true then { z with f3 := x.f3 } else z)).f2 = (cv z).f2 := by
   intro z; split <;> exact ⟨rfl, rfl, rfl⟩
  rw [Bool.eq_false_iff] at hab ⊢
  intro hh
  apply hab
  rw [sameI_iff] at hh ⊢
  rw [(hc a).1, (hc b).1, (hc a).2.1, (hc b).2.1, (hc a).2.2, (hc b).2.2] at hh
  exact hh
 ·exact h
theorem apart_drop {c : Int} {l : List S99} {x : S94} (h : apart l) : apart (rdropL c l x) := by
 unfold rdropL
 split
 ·exact List.Pairwise.filter _ h
 ·exact h
def qK (key : List S32) (y : S94) : Bool := decide (key.length = y.f0.length) && meetL key y
theorem ref22_Meets_eq (k : Nat) (key : List S32) (y : S94) (hk : ∀ z ∈ key, okV z) (hy : okI y) (he : y.f1.length = y.f0.length) (hm : key.length ≤ 1000) (hf : key.length < k) : shunterref22_Meets.f k key y.f0 y.f1 y.f2 y.f3 = some (qK key y) := by
 unfold shunterref22_Meets.f qK
 by_cases h0 : key.length = y.f0.length
 ·rw [if_pos (by omega), decide_eq_true h0, Bool.true_and]
  have go : ∀ (d i k : Nat), i + d = key.length → d < k → allTo (fun i => wiV (lx key i) (lx y.f0 i) (lx y.f1 i)) i = true → shunterref22_Meets.l0 k key (i : Int) y.f0 y.f1 y.f2 y.f3 = some (meetL key y) := by
   intro d
   induction d with
   | zero =>
    intro i k h1 h2 h3
    obtain ⟨k, rfl⟩ : ∃ q, k = q + 1 := ⟨k - 1, by omega⟩
    obtain rfl : i = key.length := by omega
    unfold shunterref22_Meets.l0
    rw [if_neg (by omega)]
    unfold meetL
    rw [h3]
   | succ d ih =>
    intro i k h1 h2 h3
    obtain ⟨k, rfl⟩ : ∃ q, k = q + 1 := ⟨k - 1, by omega⟩
    have hi : i < key.length := by omega
    have hw := ref02_Within_ok (lx_ok hk hi) (lx_ok hy.a (show i < y.f0.length by omega)) (lx_ok hy.b (show i < y.f1.length by omega))
    unfold lx at hw
    have hs : wrap64 ((i : Int) + 1) = ((i + 1 : Nat) : Int) := by unfold wrap64; omega
    unfold shunterref22_Meets.l0
    rw [if_pos (by omega), if_pos (by omega), if_pos (by omega), if_pos (by omega), hw, Option.bind_some]
    cases hb : wiV (rd_T32 key (i : Int)) (rd_T32 y.f0 (i : Int)) (rd_T32 y.f1 (i : Int)) with
    | true =>
     rw [if_pos rfl, hs]
     exact ih (i + 1) k (by omega) (by omega) (allTo_succ h3 hb)
    | false =>
     rw [if_neg (by simp)]
     unfold meetL
     rw [allTo_no hi (p := fun i => wiV (lx key i) (lx y.f0 i) (lx y.f1 i)) hb]
  exact go key.length 0 k (by omega) hf (allTo_zero _)
 ·rw [if_neg (by omega), decide_eq_false h0, Bool.false_and]
structure okR (n : Nat) (y : S94) : Prop where
 i : okI y
 ea : y.f0.length = n
 eb : y.f1.length = n
end Go.Proofs.Ytfdbcnbakchcgaa.XQ
