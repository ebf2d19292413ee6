import Derived.Test.YtfdbcnbakchcgaaTg
namespace Go.Proofs.Ytfdbcnbakchcgaa.XT
open Go.RowKit Go.Proofs.YtfdbcnbakchcgaaW.PrintWords Go.Proofs.YtfdbcnbakchcgaaW.PrintLast Go.Proofs.YtfdbcnbakchcgaaW.PrintMore
attribute [local go_sem] max2_int min2_int max_two min_two max_three min_three max_four min_four   -- for this text's walks alone
set_option linter.unusedVariables false
set_option linter.unusedSimpArgs false
/-- What stands of the reference's list. -/
structure SI (x : List S78) (m : Int) : Prop where
 ap : apart x
 ok : ∀ y ∈ x, okI (cv y)
 le : (x.length : Int) ≤ m
/-- The list behind a step. -/
def stepL (W m : Int) (x : List S78) (kd : Int) (X : S59) : List S78 :=
 if kd = 0 then rputL (mayV W X) m x X else if kd = 1 then rsetL (mayV W X) x X else if kd = 2 then rdropL (mayV W X) x X else x
theorem stepL_length (W m : Int) (x : List S78) (kd : Int) (X : S59) : (stepL W m x kd X).length ≤ x.length + 1 := by
 unfold stepL
 split
 ·unfold rputL; split <;> simp
 ·split
  ·unfold rsetL; split <;> simp
  ·split
   ·unfold rdropL; split
    ·have := List.length_filter_le (fun y => !sameT (cv y) X) x; omega
    ·omega
   ·omega
theorem SI.step {x : List S78} {m : Int} (h : SI x m) (W : Int) (kd : Int) (X : S59) (hX : okI X) : SI (stepL W m x kd X) m := by
 unfold stepL
 split
 ·refine ⟨apart_put h.ap, fun y hy => ?_, ?_⟩
  ·unfold rputL at hy
   split at hy
   ·rcases List.mem_append.1 hy with hy | hy
    ·exact h.ok y hy
    ·obtain rfl := List.mem_singleton.1 hy; exact hX
   ·exact h.ok y hy
  ·unfold rputL
   split
   ·rename_i e
    unfold putE at e
    have hle := h.le
    rw [isoT_length] at e
    split at e
    ·rename_i e2; exact absurd e e2
    ·split at e
     ·cases e
     ·split at e
      ·cases e
      ·rw [List.length_append, List.length_singleton]; omega
   ·exact h.le
 ·split
  ·refine ⟨apart_set h.ap, fun y hy => ?_, ?_⟩
   ·unfold rsetL at hy
    split at hy
    ·obtain ⟨z, hz, rfl⟩ := List.mem_map.1 hy
     have := h.ok z hz
     split <;> exact this
    ·exact h.ok y hy
   ·unfold rsetL; split
    ·rw [List.length_map]; exact h.le
    ·exact h.le
  ·split
   ·refine ⟨apart_drop h.ap, fun y hy => ?_, ?_⟩
    ·unfold rdropL at hy
     split at hy
     ·exact h.ok y (List.mem_filter.1 hy).1
     ·exact h.ok y hy
    ·unfold rdropL; split
     ·have := List.length_filter_le (fun y => !sameT (cv y) X) x; have := h.le; omega
     ·exact h.le
   ·exact h
theorem okI_iso {x : List S78} (h : ∀ y ∈ x, okI (cv y)) : ∀ y ∈ isoT x, okI y := fun y hy => by
 obtain ⟨z, hz, rfl⟩ := (mem_isoT x y).1 hy
 exact h z hz
/-- One step, of any kind. -/
theorem step_any (w0 w : World) (g : Nat) (v vx : Value) (x : List S78) (W m : Int) (kd pr nn p0 p1 p2 m0 m1 m2 : Int) (h : ST w0 w g v vx (isoT x) x W m) (hi : SI x m) (hl : x.length ≤ 400) (hX : okI (⟨⟨p0, p1, p2⟩, ⟨m0, m1, m2⟩, pr, nn⟩ : S59)) :
 Calls Try.prog 40 #[.pointer (some ⟨g, 0, none⟩), vx, .agg #[.int .i64 W, .int .i64 m], .agg #[.int .i64 kd, .int .i64 pr, .int .i64 nn, .int .i64 p0, .int .u64 p1, .int .u64 p2, .int .i64 m0, .int .u64 m1, .int .u64 m2]] w fun e_ w' => ∃ v1 vx1, e_ = .returned (.tuple #[vx1, .bool true]) ∧ ST w0 w' g v1 vx1 (isoT (stepL W m x kd (⟨⟨p0, p1, p2⟩, ⟨m0, m1, m2⟩, pr, nn⟩ : S59))) (stepL W m x kd (⟨⟨p0, p1, p2⟩, ⟨m0, m1, m2⟩, pr, nn⟩ : S59)) W m := by
 have hn : (isoT x).length ≤ 1000 := by rw [isoT_length]; omega
 have hm := mayT_eq W (⟨⟨p0, p1, p2⟩, ⟨m0, m1, m2⟩, pr, nn⟩ : S59) hX
 unfold stepL
 by_cases c0 : kd = 0
 ·subst c0
  rw [if_pos rfl, ← put_iso]
  exact step_put w0 w g 1000 v vx (isoT x) x _ W m _ (mayV W (⟨⟨p0, p1, p2⟩, ⟨m0, m1, m2⟩, pr, nn⟩ : S59)) pr nn p0 p1 p2 m0 m1 m2 h hn hm (ref21_Put_eq 1000 x (by omega) (by omega) W m hi.le (⟨⟨p0, p1, p2⟩, ⟨m0, m1, m2⟩, pr, nn⟩ : S59) hX) rfl
 ·rw [if_neg c0]
  by_cases c1 : kd = 1
  ·subst c1
   rw [if_pos rfl, ← set_iso]
   exact step_set w0 w g 1000 v vx (isoT x) x _ W m _ (mayV W (⟨⟨p0, p1, p2⟩, ⟨m0, m1, m2⟩, pr, nn⟩ : S59)) pr nn p0 p1 p2 m0 m1 m2 h hn hm (apart_iso hi.ap) (ref21_Set_eq 1000 x (by omega) (by omega) W (⟨⟨p0, p1, p2⟩, ⟨m0, m1, m2⟩, pr, nn⟩ : S59) hX hi.ap) rfl
  ·rw [if_neg c1]
   by_cases c2 : kd = 2
   ·subst c2
    rw [if_pos rfl, ← drop_iso]
    exact step_drop w0 w g 1000 v vx (isoT x) x _ W m _ (mayV W (⟨⟨p0, p1, p2⟩, ⟨m0, m1, m2⟩, pr, nn⟩ : S59)) pr nn p0 p1 p2 m0 m1 m2 h hn hm (apart_iso hi.ap) (ref21_Drop_eq 1000 x (by omega) (by omega) W (⟨⟨p0, p1, p2⟩, ⟨m0, m1, m2⟩, pr, nn⟩ : S59) hX hi.ap) rfl
   ·rw [if_neg c2]
    have hV := hX.1
    have hK := vV_lt hV
    obtain ⟨r, hr, hb⟩ := ref21_Get_eq 1000 x (by omega) (by omega) hi.ok p0 (vV ⟨p0, p1, p2⟩) hK
    have hq := fun y (hy : y ∈ isoT x) => vec_Meets_q p0 (vV ⟨p0, p1, p2⟩) hK y (okI_iso hi.ok y hy)
    rw [vV_hi hV, vV_lo hV] at hr hq
    have k0 : (kd == 0) = false := by simpa using c0
    have k1 : (kd == 1) = false := by simpa using c1
    have k2 : (kd == 2) = false := by simpa using c2
    rcases hb with ⟨rfl, hb⟩ | ⟨j, hj, rfl, hb⟩
    ·refine (step_none w0 w g 1000 v vx (isoT x) x W m kd pr nn p0 p1 p2 m0 m1 m2 (qK p0 (vV ⟨p0, p1, p2⟩)) h hn k0 k1 k2 hq hr (by unfold getA; rw [hb])).mono ?_
     rintro e_ w' ⟨rfl, ht⟩
     exact ⟨v, vx, rfl, ht⟩
    ·refine (step_found w0 w g 1000 v vx (isoT x) x W m kd pr nn p0 p1 p2 m0 m1 m2 (qK p0 (vV ⟨p0, p1, p2⟩)) h hn k0 k1 k2 hq j hj hr (by unfold getA; rw [hb]; rfl)).mono ?_
     rintro e_ w' ⟨rfl, ht⟩
     exact ⟨v, vx, rfl, ht⟩
/-- A list just made, and no rule put. -/
theorem ST_new (w : World) (W m : Int) : ST w (w.alloc (.cells #[.slice none 0 0, .int .i64 W, .int .i64 m] 147 (0, 0))) w.heap.size (.slice none 0 0) (.slice none 0 0) (isoT []) [] W m :=
 ⟨TK_new w W m, Kd.R_nil _ _ _ _ _, fun k e => by simp [Value.ownBlock] at e⟩
end Go.Proofs.Ytfdbcnbakchcgaa.XT
