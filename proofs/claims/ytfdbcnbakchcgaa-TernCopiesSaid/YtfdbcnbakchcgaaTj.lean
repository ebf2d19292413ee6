import Derived.Test.YtfdbcnbakchcgaaTg
namespace Go.Proofs.Ytfdbcnbakchcgaa.XT
open Go.RowKit Go.Proofs.YtfdbcnbakchcgaaW.PrintWords Go.Proofs.YtfdbcnbakchcgaaW.PrintLast Go.Proofs.YtfdbcnbakchcgaaW.PrintMore
attribute [local go_sem] max2_int min2_int max_two min_two max_three min_three max_four min_four   -- for this text's walks alone
set_option linter.unusedVariables false
set_option linter.unusedSimpArgs false
/-- What stands of the reference's list. -/
structure SI (x : List S78) (m : Int) : Prop where
 ap : apart x
 ok : ∀ y ∈ x, okI (cv y)
 le : (x.length : Int) ≤ m
/-- The list behind a step. -/
def stepL (W m : Int) (x : List S78) (kd : Int) (X : S59) : List S78 :=
 if kd = 0 then rputL (mayV W X) m x X else if kd = 1 then rsetL (mayV W X) x X else if kd = 2 then rdropL (mayV W X) x X else x
theorem stepL_length (W m : Int) (x : List S78) (kd : Int) (X : S59) : (stepL W m x kd X).length ≤ x.length + 1 := by
 unfold stepL
 split
 ·unfold rputL; split <;> simp
 ·split
  ·unfold rsetL; split <;> simp
  ·split
   ·unfold rdropL; split
    ·have := List.length_filter_le (fun y => !sameT (cv y) X) x; omega
    ·omega
   ·omega
theorem SI.step {x : List S78} {m : Int} (h : SI x m) (W : Int) (kd : Int) (X : S59) (hX : okI X) : SI (stepL W m x kd X) m := by
 unfold stepL
 split
 ·refine ⟨apart_put h.ap, fun y hy => ?_, ?_⟩
  ·unfold rputL at hy
   split at hy
   ·rcases List.mem_append.1 hy with hy | hy
    ·exact h.ok y hy
    ·obtain rfl := List.mem_singleton.1 hy; exact hX
   ·exact h.ok y hy
  ·unfold rputL
   split
   ·rename_i e
    unfold putE at e
    have hle := h.le
    rw [isoT_length] at e
    split at e
    ·rename_i e2; exact absurd e e2
    ·split at e
     ·cases e
     ·split at e
      ·cases e
      ·rw [List.length_append, List.length_singleton]; omega
   ·exact h.le
 ·split
  ·refine ⟨apart_set h.ap, fun y hy => ?_, ?_⟩
   ·unfold rsetL at hy
    split at hy
    ·obtain ⟨z, hz, rfl⟩ := List.mem_map.1 hy
     have := h.ok z hz
     split <;> exact this
    ·exact h.ok y hy
   ·unfold rsetL; split
    ·rw [List.length_map]; exact h.le
    ·exact h.le
  ·split
   ·refine ⟨apart_drop h.ap, fun y hy => ?_, ?_⟩
    ·unfold rdropL at hy
     split at hy
     ·exact h.ok y (List.mem_filter.1 hy).1
     ·exact h.ok y hy
    ·unfold rdropL; split
     ·have := List.length_filter_le (fun y => !sameT (cv y) X) x; have := h.le; omega
     ·exact h.le
   ·exact h
theorem okI_iso {x : List S78} (h : ∀ y ∈ x, okI (cv y)) : ∀ y ∈ isoT x, okI y := fun y hy => by
 obtain ⟨z, hz, rfl⟩ := (mem_isoT x y).1 hy
 exact h z hz
/-- One step, of any kind: the program's list is isoT x, the reference's y. -/
theorem step_two (w0 w : World) (g : Nat) (v vx : Value) (x y : List S78) (W m : Int) (kd pr nn p0 p1 p2 m0 m1 m2 : Int) (h : ST w0 w g v vx (isoT x) y W m) (hx : SI x m) (hi : SI y m) (hlx : x.length ≤ 400) (hl : y.length ≤ 400) (hX : okI (⟨⟨p0, p1, p2⟩, ⟨m0, m1, m2⟩, pr, nn⟩ : S59)) :
 Calls Try.prog 40 #[.pointer (some ⟨g, 0, none⟩), vx, .agg #[.int .i64 W, .int .i64 m], .agg #[.int .i64 kd, .int .i64 pr, .int .i64 nn, .int .i64 p0, .int .u64 p1, .int .u64 p2, .int .i64 m0, .int .u64 m1, .int .u64 m2]] w fun e_ w' => ∃ v1 vx1 bb, e_ = .returned (.tuple #[vx1, .bool bb]) ∧ (x = y → bb = true) ∧ ST w0 w' g v1 vx1 (isoT (stepL W m x kd (⟨⟨p0, p1, p2⟩, ⟨m0, m1, m2⟩, pr, nn⟩ : S59))) (stepL W m y kd (⟨⟨p0, p1, p2⟩, ⟨m0, m1, m2⟩, pr, nn⟩ : S59)) W m ∧ Kept w w' (SK g v vx) := by
 have hn : (isoT x).length ≤ 1000 := by rw [isoT_length]; omega
 have hm := mayT_eq W (⟨⟨p0, p1, p2⟩, ⟨m0, m1, m2⟩, pr, nn⟩ : S59) hX
 unfold stepL
 by_cases c0 : kd = 0
 ·subst c0
  rw [if_pos rfl, if_pos rfl, ← put_iso]
  refine (step_put w0 w g 1000 v vx (isoT x) y _ W m _ (mayV W (⟨⟨p0, p1, p2⟩, ⟨m0, m1, m2⟩, pr, nn⟩ : S59)) pr nn p0 p1 p2 m0 m1 m2 h hn hm (ref21_Put_eq 1000 y (by omega) (by omega) W m hi.le (⟨⟨p0, p1, p2⟩, ⟨m0, m1, m2⟩, pr, nn⟩ : S59) hX) _ rfl _ rfl).mono ?_
  rintro e_ w' ⟨v1, vx1, rfl, ht, hkp⟩
  exact ⟨v1, vx1, _, rfl, fun e => by rw [e]; exact beq_self_eq_true _, ht, hkp⟩
 ·rw [if_neg c0, if_neg c0]
  by_cases c1 : kd = 1
  ·subst c1
   rw [if_pos rfl, if_pos rfl, ← set_iso]
   refine (step_set w0 w g 1000 v vx (isoT x) y _ W m _ (mayV W (⟨⟨p0, p1, p2⟩, ⟨m0, m1, m2⟩, pr, nn⟩ : S59)) pr nn p0 p1 p2 m0 m1 m2 h hn hm (apart_iso hx.ap) (ref21_Set_eq 1000 y (by omega) (by omega) W (⟨⟨p0, p1, p2⟩, ⟨m0, m1, m2⟩, pr, nn⟩ : S59) hX hi.ap) _ rfl _ rfl).mono ?_
   rintro e_ w' ⟨v1, vx1, rfl, ht, hkp⟩
   exact ⟨v1, vx1, _, rfl, fun e => by rw [e]; exact beq_self_eq_true _, ht, hkp⟩
  ·rw [if_neg c1, if_neg c1]
   by_cases c2 : kd = 2
   ·subst c2
    rw [if_pos rfl, if_pos rfl, ← drop_iso]
    refine (step_drop w0 w g 1000 v vx (isoT x) y _ W m _ (mayV W (⟨⟨p0, p1, p2⟩, ⟨m0, m1, m2⟩, pr, nn⟩ : S59)) pr nn p0 p1 p2 m0 m1 m2 h hn hm (apart_iso hx.ap) (ref21_Drop_eq 1000 y (by omega) (by omega) W (⟨⟨p0, p1, p2⟩, ⟨m0, m1, m2⟩, pr, nn⟩ : S59) hX hi.ap) _ rfl _ rfl).mono ?_
    rintro e_ w' ⟨v1, vx1, rfl, ht, hkp⟩
    exact ⟨v1, vx1, _, rfl, fun e => by rw [e]; exact beq_self_eq_true _, ht, hkp⟩
   ·rw [if_neg c2, if_neg c2]
    have hV := hX.1
    have hK := vV_lt hV
    obtain ⟨r, hr, hb⟩ := ref21_Get_eq 1000 y (by omega) (by omega) hi.ok p0 (vV ⟨p0, p1, p2⟩) hK
    have hq := fun z (hz : z ∈ isoT x) => vec_Meets_q p0 (vV ⟨p0, p1, p2⟩) hK z (okI_iso hx.ok z hz)
    rw [vV_hi hV, vV_lo hV] at hr hq
    have k0 : (kd == 0) = false := by simpa using c0
    have k1 : (kd == 1) = false := by simpa using c1
    have k2 : (kd == 2) = false := by simpa using c2
    obtain ⟨t, ht0⟩ : ∃ t, getA (qK p0 (vV ⟨p0, p1, p2⟩)) (isoT x) = t := ⟨_, rfl⟩
    obtain ⟨ga, gb, gc⟩ := t
    rcases hb with ⟨rfl, hb⟩ | ⟨j, hj, rfl, hb⟩
    ·refine (step_none w0 w g 1000 v vx (isoT x) y W m kd pr nn p0 p1 p2 m0 m1 m2 (qK p0 (vV ⟨p0, p1, p2⟩)) h hn k0 k1 k2 hq hr ga gb gc ht0).mono ?_
     rintro e_ w' ⟨bb, rfl, hbb, ht, hkp⟩
     exact ⟨v, vx, bb, rfl, fun e => by subst e; unfold getA at ht0; rw [hb] at ht0; injection ht0 with e1 e2; injection e2 with e2 e3; exact hbb e1.symm e2.symm e3.symm, ht, hkp⟩
    ·refine (step_found w0 w g 1000 v vx (isoT x) y W m kd pr nn p0 p1 p2 m0 m1 m2 (qK p0 (vV ⟨p0, p1, p2⟩)) h hn k0 k1 k2 hq j hj hr ga gb gc ht0).mono ?_
     rintro e_ w' ⟨bb, rfl, hbb, ht, hkp⟩
     exact ⟨v, vx, bb, rfl, fun e => by subst e; unfold getA at ht0; rw [hb] at ht0; injection ht0 with e1 e2; injection e2 with e2 e3; exact hbb e1.symm e2.symm e3.symm, ht, hkp⟩
/-- A list just made, and no rule put. -/
theorem ST_new (w : World) (W m : Int) : ST w (w.alloc (.cells #[.slice none 0 0, .int .i64 W, .int .i64 m] 147 (0, 0))) w.heap.size (.slice none 0 0) (.slice none 0 0) (isoT []) [] W m :=
 ⟨TK_new w W m, Kd.R_nil _ _ _ _ _, fun k e => by simp [Value.ownBlock] at e⟩
end Go.Proofs.Ytfdbcnbakchcgaa.XT
