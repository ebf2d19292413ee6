import Derived.Test.YtfdbcnbakchcgaaQi
import Derived.Test.YtfdbcnbakchcgaaXQx3
import Derived.Test.YtfdbcnbakchcgaaXQx7
import Derived.Test.YtfdbcnbakchcgaaXQx17
namespace Go.Proofs.Ytfdbcnbakchcgaa.XQ
open Go.RowKit Go.Proofs.YtfdbcnbakchcgaaW.PrintWords Go.Proofs.YtfdbcnbakchcgaaW.PrintLast Go.Proofs.YtfdbcnbakchcgaaW.PrintMore
attribute [local go_sem] max2_int min2_int max_two min_two max_three min_three max_four min_four
set_option linter.unusedVariables false
set_option linter.unusedSimpArgs false
structure SI (x : List S99) (n : Nat) (m : Int) : Prop where
 ap : apart x
 ok : ∀ y ∈ x, okR n (cv y)
 le : (x.length : Int) ≤ m
def stepL (ws : List Int) (m : Int) (x : List S99) (kd : Int) (X : S94) : List S99 :=
 if kd = 0 then rputL (mayL ws X) m x X else if kd = 1 then rsetL (mayL ws X) x X else if kd = 2 then rdropL (mayL ws X) x X else x
theorem mayL_zero {ws : List Int} {x : S94} (h : mayL ws x = 0) : x.f0.length = ws.length ∧ x.f1.length = ws.length := by
 unfold mayL at h
 split at h
 ·assumption
 ·exact absurd h (by decide)
theorem putE_zero {c m : Int} {xs : List S94} {x : S94} (h : putE c m xs x = 0) : c = 0 ∧ (xs.length : Int) ≠ m := by
 unfold putE at h
 split at h
 ·rename_i e; exact absurd h e
 ·rename_i e
  refine ⟨Decidable.of_not_not e, ?_⟩
  split at h
  ·cases h
  ·split at h
   ·cases h
   ·assumption
theorem SI.step {x : List S99} {ws : List Int} {m : Int} (h : SI x ws.length m) (kd : Int) (X : S94) (hX : okI X) : SI (stepL ws m x kd X) ws.length m := by
 unfold stepL
 split
 ·refine ⟨apart_put h.ap, fun y hy => ?_, ?_⟩
  ·unfold rputL at hy
   split at hy
   ·rename_i e
    rcases List.mem_append.1 hy with hy | hy
    ·exact h.ok y hy
    ·obtain rfl := List.mem_singleton.1 hy
     have hz := mayL_zero (putE_zero e).1
     exact ⟨⟨hX.a, hX.b, hX.la, hX.lb⟩, hz.1, hz.2⟩
   ·exact h.ok y hy
  ·unfold rputL
   split
   ·rename_i e
    have e2 := (putE_zero e).2
    have hle := h.le
    rw [isoT_length] at e2
    rw [List.length_append, List.length_singleton]; omega
   ·exact h.le
 ·split
  ·refine ⟨apart_set h.ap, fun y hy => ?_, ?_⟩
   ·unfold rsetL at hy
    split at hy
    ·obtain ⟨z, hz, rfl⟩ := List.mem_map.1 hy
     have := h.ok z hz
     split
     ·exact ⟨⟨this.i.a, this.i.b, this.i.la, this.i.lb⟩, this.ea, this.eb⟩
     ·exact this
    ·exact h.ok y hy
   ·unfold rsetL; split
    ·rw [List.length_map]; exact h.le
    ·exact h.le
  ·split
   ·refine ⟨apart_drop h.ap, fun y hy => ?_, ?_⟩
    ·unfold rdropL at hy
     split at hy
     ·exact h.ok y (List.mem_filter.1 hy).1
     ·exact h.ok y hy
    ·unfold rdropL; split
     ·have := List.length_filter_le (fun y => !sameI (cv y) X) x; have := h.le; omega
     ·exact h.le
   ·exact h
theorem SI.iso {x : List S99} {n : Nat} {m : Int} (h : SI x n m) : ∀ y ∈ isoT x, okR n y := fun y hy => by
 obtain ⟨z, hz, rfl⟩ := (mem_isoT x y).1 hy
 exact h.ok z hz
def lightB (ops : List S87) : Bool := decide (ops.length ≤ 80) && ops.all (fun y => decide (y.f3.length ≤ 10) && decide (y.f4.length ≤ 10))
theorem light_loop (ops : List S87) (hl : ops.length ≤ 80) : ∀ (n k i : Nat), i + n = ops.length → n < k → shunterlaw22_light.l0 k ops (i : Int) = some ((ops.drop i).all (fun y => decide (y.f3.length ≤ 10) && decide (y.f4.length ≤ 10)))
 | 0, k + 1, i, hi, _ => by
  unfold shunterlaw22_light.l0
  rw [if_neg (by omega), List.drop_of_length_le (by omega), List.all_nil]
 | n + 1, k + 1, i, hi, hk => by
  have hil : i < ops.length := by omega
  unfold shunterlaw22_light.l0
  rw [if_pos (by omega), if_pos (by omega), show rd_T87 ops (i : Int) = ops[i] by simp [rd_T87, List.getD_eq_getElem?_getD, hil], List.drop_eq_getElem_cons hil, List.all_cons]
  by_cases h1 : 10 < (ops[i]).f3.length
  ·rw [if_pos (by omega), decide_eq_false (by omega), Bool.false_and, Bool.false_and]
  ·rw [if_neg (by omega), decide_eq_true (by omega), Bool.true_and]
   by_cases h2 : 10 < (ops[i]).f4.length
   ·rw [if_pos (by omega), decide_eq_false (by omega), Bool.false_and]
   ·rw [if_neg (by omega), decide_eq_true (by omega), Bool.true_and, wrap64_id _ (by omega) (by omega), show (i : Int) + 1 = ((i + 1 : Nat) : Int) by omega]
    exact light_loop ops hl n k (i + 1) (by omega) (by omega)
theorem light_eq (ops : List S87) : shunterlaw22_light.f 1000 ops = some (lightB ops) := by
 unfold shunterlaw22_light.f lightB
 by_cases h : ops.length ≤ 80
 ·rw [if_neg (by omega), decide_eq_true h, Bool.true_and]
  have := light_loop ops h ops.length 1000 0 (by omega) (by omega)
  rw [List.drop_zero] at this
  exact this
 ·rw [if_pos (by omega), decide_eq_false h, Bool.false_and]
theorem light_len {ops : List S87} (h : lightB ops = true) : ops.length ≤ 80 ∧ ∀ y ∈ ops, y.f3.length ≤ 10 ∧ y.f4.length ≤ 10 := by
 unfold lightB at h
 rw [Bool.and_eq_true, decide_eq_true_eq, List.all_eq_true] at h
 exact ⟨h.1, fun y hy => by have := h.2 y hy; simpa using this⟩
theorem light_calls (ops : List S87) (A : Option Addr) (c : Nat) (w : World) (hA : Kd.C k87 w A ops.length ops) (hc : ops.length ≤ c) : Calls Try.prog 50 #[.slice A ops.length c] w fun e w' => e = .returned (.bool (lightB ops)) ∧ Below w.heap.size w w' :=
 (shunterlaw22_light.calls 1000 A c ops _ w hA hc (light_eq ops)).mono (fun e w1 ⟨he, hd⟩ => ⟨he, hd.below⟩)
def widB (ws : List Int) (m : Int) : Bool := !ws.any badW && (decide (1 ≤ ws.length) && (decide (ws.length ≤ 4) && (decide (1 ≤ m) && decide (m ≤ 256))))
theorem Widths_loop (ws : List Int) (m : Int) (hl : ws.length ≤ 1000) : ∀ (n k i : Nat), i + n = ws.length → n < k → shunterref22_Widths.l0 k ws m (i : Int) = some (!(ws.drop i).any badW && (decide (1 ≤ ws.length) && (decide (ws.length ≤ 4) && (decide (1 ≤ m) && decide (m ≤ 256)))))
 | 0, k + 1, i, hi, _ => by
  unfold shunterref22_Widths.l0
  rw [if_neg (by omega), List.drop_of_length_le (by omega), List.any_nil, Bool.not_false, Bool.true_and]
  by_cases h1 : 1 ≤ ws.length
  ·rw [if_pos (by omega), decide_eq_true h1, Bool.true_and]
   by_cases h2 : ws.length ≤ 4
   ·rw [if_pos (by omega), decide_eq_true h2, Bool.true_and]
    by_cases h3 : 1 ≤ m
    ·rw [if_pos (by omega), decide_eq_true h3, Bool.true_and]
    ·rw [if_neg (by omega), decide_eq_false h3, Bool.false_and]
   ·rw [if_neg (by omega), decide_eq_false h2, Bool.false_and]
  ·rw [if_neg (by omega), decide_eq_false h1, Bool.false_and]
 | n + 1, k + 1, i, hi, hk => by
  have hil : i < ws.length := by omega
  unfold shunterref22_Widths.l0
  rw [if_pos (by omega), if_pos (by omega), show rd ws (i : Int) = ws[i] by simp [rd, List.getD_eq_getElem?_getD, hil], List.drop_eq_getElem_cons hil, List.any_cons]
  by_cases h1 : ws[i] < 1
  ·rw [if_pos h1, show badW ws[i] = true from decide_eq_true (.inl h1), Bool.true_or, Bool.not_true, Bool.false_and]
  ·rw [if_neg h1]
   by_cases h2 : 128 < ws[i]
   ·rw [if_pos h2, show badW ws[i] = true from decide_eq_true (.inr h2), Bool.true_or, Bool.not_true, Bool.false_and]
   ·rw [if_neg h2, show badW ws[i] = false from decide_eq_false (by omega), Bool.false_or, wrap64_id _ (by omega) (by omega), show (i : Int) + 1 = ((i + 1 : Nat) : Int) by omega]
    exact Widths_loop ws m hl n k (i + 1) (by omega) (by omega)
theorem Widths_eq (ws : List Int) (m : Int) (hl : ws.length ≤ 1000) : shunterref22_Widths.f 2000 ws m = some (widB ws m) := by
 have := Widths_loop ws m hl ws.length 2000 0 (by omega) (by omega)
 rw [List.drop_zero] at this
 exact this
theorem Widths_calls (ws : List Int) (m : Int) (A : Option Addr) (c : Nat) (w : World) (hA : Kd.C (Kd.int .i64) w A ws.length ws) (hc : ws.length ≤ c) (hl : ws.length ≤ 1000) : Calls Try.prog 53 #[.slice A ws.length c, .int .i64 m] w fun e w' => e = .returned (.bool (widB ws m)) ∧ Below w.heap.size w w' :=
 (shunterref22_Widths.calls 2000 A c ws m _ w hA hc (Widths_eq ws m hl)).mono (fun e w1 ⟨he, hd⟩ => ⟨he, hd.below⟩)
theorem widB_true {ws : List Int} {m : Int} (h : widB ws m = true) : 1 ≤ ws.length ∧ ws.length ≤ 4 ∧ ws.any badW = false ∧ 1 ≤ m ∧ m ≤ 256 := by
 unfold widB at h
 simp only [Bool.and_eq_true, decide_eq_true_eq] at h
 exact ⟨h.2.1, h.2.2.1, by simpa using h.1, h.2.2.2.1, h.2.2.2.2⟩
theorem widB_false {ws : List Int} {m : Int} (h : widB ws m = false) : ws.length < 1 ∨ 4 < ws.length ∨ ws.any badW = true ∨ m < 1 ∨ 256 < m := by
 by_cases h1 : ws.length < 1
 ·exact .inl h1
 ·by_cases h2 : 4 < ws.length
  ·exact .inr (.inl h2)
  ·by_cases h3 : ws.any badW = true
   ·exact .inr (.inr (.inl h3))
   ·by_cases h4 : m < 1
    ·exact .inr (.inr (.inr (.inl h4)))
    ·refine .inr (.inr (.inr (.inr ?_)))
     unfold widB at h
     rw [show ws.any badW = false by simpa using h3, decide_eq_true (by omega), decide_eq_true (by omega), decide_eq_true (by omega)] at h
     simp at h
     omega
theorem blk_new2 (w : World) (o1 o2 : Obj) : ((w.alloc o1).alloc o2).heap[w.heap.size + 1]? = some o2 := by have := blk_new (w.alloc o1) o2; simpa using this
theorem C_int1 {w : World} {g : Nat} (n : Int) (h : w.heap[g]? = some (.cells #[.int .i64 n] 3 (0, 0))) : Kd.C (Kd.int .i64) w (some ⟨g, 0, none⟩) 1 [n] :=
 ⟨rfl, by omega, fun _ => ⟨_, rfl, fun j p hj => by
  have hj0 : j = 0 := by
   have : j < [n].length := (List.getElem?_eq_some_iff.1 hj).1
   simp at this; exact this
  subst hj0
  have hp : n = p := by simpa using hj
  subst hp
  refine ⟨[.int .i64 n], rfl, rfl, fun i u hu => ?_⟩
  have hb := blk_cell h i
  have e : (⟨g, 0, none⟩ : Addr).add (0 * (Kd.int .i64).sz + i) = ⟨g, i, none⟩ := by simp [Addr.add]; try exact fun e => e.symm
  rw [e, hb, ← hu]; simp⟩⟩
theorem C_vec1 {w : World} {g : Nat} (x : S32) (h : w.heap[g]? = some (.cells #[.int .i64 x.f0, .int .u64 x.f1, .int .u64 x.f2] 32 (0, 0))) : Kd.C k32 w (some ⟨g, 0, none⟩) 1 [x] :=
 ⟨rfl, by omega, fun _ => ⟨_, rfl, fun j p hj => by
  have hj0 : j = 0 := by
   have : j < [x].length := (List.getElem?_eq_some_iff.1 hj).1
   simp at this; exact this
  subst hj0
  have hp : x = p := by simpa using hj
  subst hp
  refine ⟨[.int .i64 x.f0, .int .u64 x.f1, .int .u64 x.f2], rfl, k32_mk w x, fun i u hu => ?_⟩
  have hb := blk_cell h i
  have e : (⟨g, 0, none⟩ : Addr).add (0 * k32.sz + i) = ⟨g, i, none⟩ := by simp [Addr.add]; try exact fun e => e.symm
  rw [e, hb, ← hu]; simp⟩⟩
def xL : S94 := ⟨[⟨16, 0, 80⟩], [⟨16, 0, 96⟩], 0, 1⟩
theorem xL_ok : okR 1 xL := ⟨⟨fun z hz => by obtain rfl := List.mem_singleton.1 hz; unfold okV; decide, fun z hz => by obtain rfl := List.mem_singleton.1 hz; unfold okV; decide, by decide, by decide⟩, rfl, rfl⟩
theorem xL_put : putE (mayL [16] xL) 2 [] xL = 0 := by decide +kernel
theorem lives_new (w : World) (A : Addr) (h : Kd.C (Kd.int .i64) w (some A) 1 [16]) : Calls Try.prog 52 #[.slice (some A) 1 1, .int .i64 2] w fun e w' => ∃ g wv, e = .returned (.pointer (some ⟨g, 0, none⟩)) ∧ LK w w' g (.slice none 0 0) wv [] [16] 2 :=
 New_ok (some A) 1 [16] 2 w h (by decide) (by decide) (by decide) (by decide) (by decide) (by decide)
theorem lives_put (w0 w : World) (g : Nat) (wv : Value) (A B : Addr) (hA : Kd.C k32 w (some A) 1 [⟨16, 0, 80⟩]) (hB : Kd.C k32 w (some B) 1 [⟨16, 0, 96⟩]) (h : LK w0 w g (.slice none 0 0) wv [] [16] 2) : Calls Try.prog 55 #[.pointer (some ⟨g, 0, none⟩), .agg #[.slice (some A) 1 1, .slice (some B) 1 1, .int .i64 0, .int .i64 1]] w fun e w' => e = .returned (.int .i64 0) ∧ ∃ v1, LK w0 w' g v1 wv [xL] [16] 2 := by
 refine (show Calls Try.prog 55 #[.pointer (some ⟨g, 0, none⟩), .agg #[.slice (some A) 1 1, .slice (some B) 1 1, .int .i64 0, .int .i64 1]] w _ from Put_calls w0 w g (.slice none 0 0) wv [] [16] 2 xL (some A) 1 (some B) 1 h hA hB xL_ok.i.a xL_ok.i.b ⟨by decide, by decide, by decide, by decide⟩ (by decide)).mono ?_
 rintro e_ w' ⟨rfl, v1, hlp⟩
 refine ⟨by rw [xL_put], v1, ?_⟩
 have hl := hlp.lk
 unfold putL at hl
 rw [xL_put, if_pos rfl] at hl
 exact hl
theorem lives_get (w0 w : World) (g : Nat) (v wv : Value) (A : Addr) (n : Int) (a b : Int) (t : Bool) (hn : 0 ≤ n ∧ n < 2 ^ 64) (hA : Kd.C k32 w (some A) 1 [⟨16, 0, n⟩]) (h : LK w0 w g v wv [xL] [16] 2) (hg : getA (qK [⟨16, 0, n⟩]) [xL] = (a, b, t)) : Calls Try.prog 56 #[.pointer (some ⟨g, 0, none⟩), .slice (some A) 1 1] w fun e w' => e = .returned (.tuple #[.int .i64 a, .int .i64 b, .bool t]) ∧ Below w.heap.size w w' := by
 have := Get_calls w0 w g v wv [xL] [16] 2 (some A) 1 [⟨16, 0, n⟩] h hA (Nat.le_refl 1) (fun z hz => by obtain rfl := List.mem_singleton.1 hz; exact ⟨(by show (0 : Int) ≤ 0; decide), (by show (0 : Int) < 2 ^ 64; decide), hn.1, hn.2⟩) (fun y hy => by obtain rfl := List.mem_singleton.1 hy; exact xL_ok) (by decide) (show 1 ≤ 1000 by decide)
 rw [hg] at this
 exact this
set_option maxHeartbeats 1000000 in
set_option maxRecDepth 100000 in
theorem lives_calls (w : World) : Calls Try.prog 51 #[] w fun e w' => e = .returned (.bool true) ∧ Below w.heap.size w w' := by
 go_enter Try.func51, Try.ntmps51
 go_wp2_with (first | (go_at_call 52; with_reducible refine (lives_new _ _ (C_int1 16 (blk_new w _))).mono ?_; rintro e_ w1 ⟨g, wv, rfl, hlk⟩; have HL := Aside0.mk hlk; have HB := Aside0.mk (below_step (below_alloc (Below.refl w.heap.size w) (.cells #[.int .i64 16] 3 (0, 0))) hlk.below); clear hlk) | (go_at_call 55; with_reducible refine (lives_put (w.alloc (.cells #[.int .i64 16] 3 (0, 0))) _ g wv _ _ (C_vec1 ⟨16, 0, 80⟩ (blk_alloc (blk_new w1 (.cells #[.int .i64 16, .int .u64 0, .int .u64 80] 32 (0, 0))) _)) (C_vec1 ⟨16, 0, 96⟩ (blk_new2 w1 (.cells #[.int .i64 16, .int .u64 0, .int .u64 80] 32 (0, 0)) (.cells #[.int .i64 16, .int .u64 0, .int .u64 96] 32 (0, 0)))) (HL.out.step (below_alloc (below_alloc (Below.refl _ _) _) _))).mono ?_; rintro e_ w2 ⟨rfl, v1, hlk⟩; have HM := Aside0.mk hlk; have HB2 := Aside0.mk (show Below w.heap.size w w2 from below_step (below_alloc (Below.refl w.heap.size w) (.cells #[.int .i64 16] 3 (0, 0))) hlk.below); clear hlk HL HB) | (go_at_call 56; with_reducible refine (lives_get (w.alloc (.cells #[.int .i64 16] 3 (0, 0))) _ g v1 wv _ 88 1 0 true (by decide) (C_vec1 ⟨16, 0, 88⟩ (blk_new w2 (.cells #[.int .i64 16, .int .u64 0, .int .u64 88] 32 (0, 0)))) (HM.out.step (below_alloc (Below.refl _ _) _)) (by decide +kernel)).mono ?_; rintro e_ w3 ⟨rfl, hb⟩; have HM' := Aside0.mk ((HM.out.step (below_alloc (Below.refl _ _) (.cells #[.int .i64 16, .int .u64 0, .int .u64 88] 32 (0, 0)))).step hb); clear hb) | (go_at_call 56; with_reducible refine (lives_get (w.alloc (.cells #[.int .i64 16] 3 (0, 0))) _ g v1 wv _ 97 0 0 false (by decide) (C_vec1 ⟨16, 0, 97⟩ (blk_new w3 (.cells #[.int .i64 16, .int .u64 0, .int .u64 97] 32 (0, 0)))) (HM'.out.step (below_alloc (Below.refl _ _) _)) (by decide +kernel)).mono ?_; rintro e_ w4 ⟨rfl, hb⟩; have HM'' := Aside0.mk ((HM'.out.step (below_alloc (Below.refl _ _) (.cells #[.int .i64 16, .int .u64 0, .int .u64 97] 32 (0, 0)))).step hb); clear hb))
 go_ret
 exact ⟨rfl, below_step (below_alloc (Below.refl w.heap.size w) (.cells #[.int .i64 16] 3 (0, 0))) HM''.out.below⟩
end Go.Proofs.Ytfdbcnbakchcgaa.XQ
