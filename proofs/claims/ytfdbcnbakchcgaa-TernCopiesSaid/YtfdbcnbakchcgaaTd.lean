import Derived.Test.YtfdbcnbakchcgaaSq
import Derived.Test.YtfdbcnbakchcgaaTc
import Derived.Test.YtfdbcnbakchcgaaXTx5
namespace Go.Proofs.Ytfdbcnbakchcgaa.XT
open Go.RowKit Go.Proofs.YtfdbcnbakchcgaaW.PrintWords Go.Proofs.YtfdbcnbakchcgaaW.PrintLast Go.Proofs.YtfdbcnbakchcgaaW.PrintMore
attribute [local go_sem] max2_int min2_int max_two min_two max_three min_three max_four min_four   -- for this text's walks alone
set_option linter.unusedVariables false
set_option linter.unusedSimpArgs false
set_option maxHeartbeats 400000 in
set_option maxRecDepth 100000 in
theorem Get_nil (k0 k1 k2 : Int) (w : World) : Calls Try.prog 41 #[.pointer none, .agg #[.int .i64 k0, .int .u64 k1, .int .u64 k2]] w fun e w' => e = .returned (.tuple #[.int .i64 0, .int .i64 0, .bool false]) ∧ Below w.heap.size w w' := by
 go_enter Try.func41, Try.ntmps41
 go_wp2
 go_ret3
 exact ⟨rfl, below_alloc (Below.refl _ _) _⟩
/-- What Get answers. -/
def getA (p : S59 → Bool) (xs : List S59) : Int × Int × Bool := match xs.find? p with | none => (0, 0, false) | some y => (y.f3, y.f2, true)
theorem getA_hit (p : S59 → Bool) (xs : List S59) (i : Nat) (hi : i < xs.length) (h : ∀ j, j < i → p (rd_T59 xs (j : Int)) = false) (hp : p (rd_T59 xs (i : Int)) = true) : getA p xs = ((rd_T59 xs (i : Int)).f3, (rd_T59 xs (i : Int)).f2, true) := by
 unfold getA
 have hx : xs = xs.take i ++ xs[i] :: xs.drop (i + 1) := by rw [← List.drop_eq_getElem_cons hi, List.take_append_drop]
 have hr : rd_T59 xs (i : Int) = xs[i] := by simp [rd_T59, List.getD_eq_getElem?_getD, hi]
 have hn : (xs.take i).find? p = none := List.find?_eq_none.2 (fun y hy => by
  obtain ⟨j, hj, rfl⟩ := List.mem_iff_getElem.1 hy
  have hj2 : j < i ∧ j < xs.length := by rw [List.length_take] at hj; omega
  have := h j hj2.1
  rw [show rd_T59 xs (j : Int) = xs[j] by simp [rd_T59, List.getD_eq_getElem?_getD, hj2.2]] at this
  rw [List.getElem_take, this]; simp)
 have hf : xs.find? p = some xs[i] := by
  conv => lhs; rw [hx]
  rw [List.find?_append, hn, Option.none_or, List.find?_cons_of_pos (by rw [← hr]; exact hp)]
 rw [hf, hr]
theorem getA_miss (p : S59 → Bool) (xs : List S59) (h : ∀ j, j < xs.length → p (rd_T59 xs (j : Int)) = false) : getA p xs = (0, 0, false) := by
 unfold getA
 rw [List.find?_eq_none.2 (fun y hy => by
  obtain ⟨j, hj, rfl⟩ := List.mem_iff_getElem.1 hy
  have := h j hj
  rw [show rd_T59 xs (j : Int) = xs[j] by simp [rd_T59, List.getD_eq_getElem?_getD, hj]] at this
  rw [this]; simp)]
set_option maxHeartbeats 1000000 in
set_option maxRecDepth 100000 in
theorem Get_calls (w0 w : World) (g : Nat) (v : Value) (xs : List S59) (W m k0 k1 k2 : Int) (p : S59 → Bool) (h : TK w0 w g v xs W m) (hn : xs.length ≤ 1000) (hp : ∀ y ∈ xs, vec_Meets.f k0 k1 k2 y.f0.f0 y.f0.f1 y.f0.f2 y.f1.f0 y.f1.f1 y.f1.f2 = some (p y)) :
 Calls Try.prog 41 #[.pointer (some ⟨g, 0, none⟩), .agg #[.int .i64 k0, .int .u64 k1, .int .u64 k2]] w fun e w' => e = .returned (.tuple #[.int .i64 (getA p xs).1, .int .i64 (getA p xs).2.1, .bool (getA p xs).2.2]) ∧ Below w.heap.size w w' := by
 obtain ⟨A, c, rfl⟩ := Kd.R_slice h.row
 have HP := Aside0.mk hp
 have HT := Aside0.mk h
 have HG0 := Aside0.mk (BG.start (.cells #[.int .i64 k0, .int .u64 k1, .int .u64 k2] 32 (0, 0)) h.blk)
 clear hp h
 have q0 := blk_cell HG0.out.bx 0
 have q1 := blk_cell HG0.out.bx 1
 have q2 := blk_cell HG0.out.bx 2
 have l0 := blk_cell HG0.out.bg 0
 simp only [List.getElem?_toArray, List.getElem?_cons_succ, List.getElem?_cons_zero] at q0 q1 q2 l0
 go_enter Try.func41, Try.ntmps41
 go_wp2
 go_loopw [16] (fun u16 w' => ∃ i : Nat, i ≤ xs.length ∧ u16 = .int .i64 i ∧ Aside0 (∀ j, j < i → p (rd_T59 xs (j : Int)) = false) ∧ Aside0 (BG w w' (.cells #[.int .i64 k0, .int .u64 k1, .int .u64 k2] 32 (0, 0)) g (.cells #[.slice A xs.length c, .int .i64 W, .int .i64 m] 147 (0, 0)))) (fun u16 _ => xs.length - (intOf u16).toNat)
 case atStart => exact ⟨0, Nat.zero_le _, rfl, ⟨fun j hj => by omega⟩, HG0⟩
 case round =>
  clear q0 q1 q2 l0
  obtain ⟨i, hi, rfl, HNO, HG⟩ := hrel
  by_cases hlt : i < xs.length
  ·have HT1 := Aside0.mk (HT.out.step HG.out.below)
   obtain ⟨ad, hA, p0, p1, p2, p3, p4, p5, p6, p7⟩ := at_T59 (Kd.R_reads' HT1.out.row).2.2 (i : Int) (by omega) (by omega)
   subst hA
   rw [Int.toNat_natCast] at p0 p1 p2 p3 p4 p5 p6 p7
   have hmem : rd_T59 xs (i : Int) ∈ xs := by simp [rd_T59, List.getD_eq_getElem?_getD, hlt]
   have HM := Aside0.mk (HP.out _ hmem)
   have HHIT := Aside0.mk (getA_hit p xs i hlt HNO.out)
   have HNX := Aside0.mk (fun (hq : p (rd_T59 xs (i : Int)) = false) (j : Nat) (hj : j < i + 1) => (show p (rd_T59 xs (j : Int)) = false from by
    rcases Nat.lt_or_ge j i with c | c
    ·exact HNO.out j c
    ·obtain rfl : j = i := by omega
     exact hq))
   clear hmem
   generalize rd_T59 xs (i : Int) = y at *
   have hi0 : 0 ≤ (i : Int) := by omega
   have hil : (i : Int) < (xs.length : Int) := by omega
   have HG5 := Aside0.mk (HG.out.step (below_alloc (Below.refl _ _) (.cells #[.int .i64 y.f0.f0, .int .u64 y.f0.f1, .int .u64 y.f0.f2, .int .i64 y.f1.f0, .int .u64 y.f1.f1, .int .u64 y.f1.f2, .int .i64 y.f2, .int .i64 y.f3] 59 (0, 0))))
   have q0 := blk_cell HG5.out.bx 0
   have q1 := blk_cell HG5.out.bx 1
   have q2 := blk_cell HG5.out.bx 2
   have l0 := blk_cell HG5.out.bg 0
   simp only [List.getElem?_toArray, List.getElem?_cons_succ, List.getElem?_cons_zero] at q0 q1 q2 l0
   cases hpy : p y with
   | true =>
    rw [hpy] at HM
    have HA := Aside0.mk (HHIT.out hpy)
    clear hpy
    go_wp2_with (go_at_call 88; with_reducible refine (vec_Meets.calls k0 k1 k2 y.f0.f0 y.f0.f1 y.f0.f2 y.f1.f0 y.f1.f1 y.f1.f2 true _ HM.out).mono ?_; rintro e w1 ⟨rfl, hb⟩; have HG6 := Aside0.mk (HG5.out.step hb); have HY := Aside0.mk (blk_below (blk_new wr (.cells #[.int .i64 y.f0.f0, .int .u64 y.f0.f1, .int .u64 y.f0.f2, .int .i64 y.f1.f0, .int .u64 y.f1.f1, .int .u64 y.f1.f2, .int .i64 y.f2, .int .i64 y.f3] 59 (0, 0))) hb); clear hb; clear q0 q1 q2 l0; have y2 := blk_cell HY.out 2; have y6 := blk_cell HY.out 6; have y7 := blk_cell HY.out 7; simp only [List.getElem?_toArray, List.getElem?_cons_succ, List.getElem?_cons_zero] at y2 y6 y7)
    refine start_ (n := 7) (S := fun w' => w'.cell? ⟨wr.heap.size, 7, none⟩ = some (.int .i64 y.f3) ∧ w'.cell? ⟨wr.heap.size, 6, none⟩ = some (.int .i64 y.f2)) (ds := []) #[false, false, false, false, false, false, false] (by kernel_rfl) rfl rfl ⟨y7, y6⟩ (fun hHeld => ?_)
    refine pl_ [0, 2, 1, 4, 3, 5, 6] ?_
    iterate 2 refine pP rfl rfl (by kernel_rfl) (fun _ _ _ h => h) (by rfl) (by intro w'; go_simp; with_reducible rfl) (by simp only [Act.put, z1, z2, z3, i64_w, i32_w]; rfl) ?_
    refine pT hHeld rfl rfl (by kernel_rfl) (fun _ _ _ h => h) (by rfl) (by rintro w' ⟨s0, s1⟩; go_simp; with_reducible rfl) (by simp only [Act.put, z1, z2, z3, i64_w, i32_w]; rfl) ?_
    refine pP rfl rfl (by kernel_rfl) (fun _ _ _ h => h) (by rfl) (by intro w'; go_simp; with_reducible rfl) (by simp only [Act.put, z1, z2, z3, i64_w, i32_w]; rfl) ?_
    refine pT hHeld rfl rfl (by kernel_rfl) (fun _ _ _ h => h) (by rfl) (by rintro w' ⟨s0, s1⟩; go_simp; with_reducible rfl) (by simp only [Act.put, z1, z2, z3, i64_w, i32_w]; rfl) ?_
    iterate 2 refine pP rfl rfl (by kernel_rfl) (fun _ _ _ h => h) (by rfl) (by intro w'; go_simp; with_reducible rfl) (by simp only [Act.put, z1, z2, z3, i64_w, i32_w]; rfl) ?_
    refine pl0 ?_
    refine done_ (by kernel_rfl) ?_
    go_wp2
    go_ret3
    exact ⟨by rw [HA.out]; rfl, below_drew1 HG6.out.below⟩
   | false =>
    rw [hpy] at HM
    have HNO2 := Aside0.mk (HNX.out hpy)
    clear hpy
    go_wp2_with (go_at_call 88; with_reducible refine (vec_Meets.calls k0 k1 k2 y.f0.f0 y.f0.f1 y.f0.f2 y.f1.f0 y.f1.f1 y.f1.f2 false _ HM.out).mono ?_; rintro e w1 ⟨rfl, hb⟩; have HG6 := Aside0.mk (HG5.out.step hb); clear hb; clear q0 q1 q2 l0)
    go_roundw
    case measure => first | (simp [intOf]; done) | (simp [intOf]; omega)
    case rel => exact ⟨i + 1, hlt, by go_num, HNO2, HG6⟩
  ·have hie : i = xs.length := by omega
   subst hie
   have HA := Aside0.mk (getA_miss p xs HNO.out)
   go_wp2
   go_ret3
   exact ⟨by rw [HA.out]; rfl, HG.out.below⟩
theorem clone_calls (w : World) (base : Nat) (ok : Nat → Prop) (A : Option Addr) (c : Nat) (xs : List S59) (hR : Kd.R k59 59 w base ok (.slice A xs.length c) xs) (hn : xs.length ≤ 1000) :
 Calls Try.prog 95 #[.slice A xs.length c] w fun e w' => ∃ v', e = .returned v' ∧ Kd.R k59 59 w' w.heap.size (fun k => w.heap.size ≤ k ∧ k < w'.heap.size) v' xs ∧ Below w.heap.size w w' := by
 obtain ⟨h0, inner, hown, hr⟩ := hR
 have hil : inner.length = xs.length * 8 := hr.1
 have hfin : ∀ (v' : Value) (w' : World), w'.ownsRow w.heap.size 59 8 v' xs.length inner → Kd.R k59 59 w' w.heap.size (fun k => w.heap.size ≤ k ∧ k < w'.heap.size) v' xs := fun v' w' ho =>
  ⟨fun k hk => ⟨own_base ho k hk, own_lt ho k hk⟩, inner, ho, hr.imp_ (fun p cs hM => by rw [k59_openM hM]; exact k59_mkM _ _ _ p)⟩
 have hcell : ∀ ad, A = some ad → ∀ j u, inner[j]? = some u → w.cell? (ad.add j) = some u := by
  intro ad hA j u hu
  subst hA
  rcases hown.2 with ⟨hv, _⟩ | ⟨g, cap, cur, hv, hb, hh, hnc, hcm, hcs, ht⟩
  ·cases hv
  injection hv with hv1
  injection hv1 with hv1
  subst hv1
  rw [add_plain]
  rw [blk_cell hh j, ← hu, ← ht, List.getElem?_take, if_pos (by rw [show k59.sz = 8 from rfl, ← hil]; exact (List.getElem?_eq_some_iff.1 hu).1)]
  simp
 have hA0 : A = none → xs.length = 0 := by
  intro hA
  subst hA
  rcases hown.2 with ⟨hv, h⟩ | ⟨g, cap, cur, hv, _⟩
  ·exact h
  ·cases hv
 have hc := (Kd.R_reads' (show Kd.R k59 59 w base ok (.slice A xs.length c) xs from ⟨h0, inner, hown, hr⟩)).2.1
 refine (tnclone A xs.length c w inner hil (one_row (v := .slice A xs.length c) hr) hA0 hcell hn hc).mono ?_
 rintro e w' ⟨v', rfl, ho, hb⟩
 exact ⟨v', rfl, hfin v' w' ho, hb⟩
set_option maxHeartbeats 400000 in
set_option maxRecDepth 100000 in
theorem List_calls (w0 w : World) (g : Nat) (v : Value) (xs : List S59) (W m : Int) (h : TK w0 w g v xs W m) (hn : xs.length ≤ 1000) :
 Calls Try.prog 42 #[.pointer (some ⟨g, 0, none⟩)] w fun e w' => ∃ v', e = .returned v' ∧ Kd.R k59 59 w' w.heap.size (fun k => w.heap.size ≤ k ∧ k < w'.heap.size) v' xs ∧ Below w.heap.size w w' := by
 obtain ⟨A, c, rfl⟩ := Kd.R_slice h.row
 have c0 : w.cell? ⟨g, 0, none⟩ = some (.slice A xs.length c) := blk_cell h.blk 0
 have HR := Aside0.mk h.row
 clear h
 go_enter Try.func42, Try.ntmps42
 go_wp2_with (go_at_call 95; refine (clone_calls _ w0.heap.size (fun k => k ≠ g) A c xs HR.out hn).mono ?_; rintro e w1 ⟨v', rfl, hr, hb⟩; have HR1 := Aside0.mk hr; have HB1 := Aside0.mk hb; clear hr hb)
 go_ret
 exact ⟨_, rfl, HR1.out, HB1.out⟩
set_option maxHeartbeats 400000 in
set_option maxRecDepth 100000 in
theorem List_nil (w : World) : Calls Try.prog 42 #[.pointer none] w fun e w' => e = .returned (.slice none 0 0) ∧ w' = w := by
 go_enter Try.func42, Try.ntmps42
 go_wp2
 go_ret
 exact ⟨rfl, rfl⟩
set_option maxHeartbeats 400000 in
set_option maxRecDepth 100000 in
theorem Copy_nil (w : World) : Calls Try.prog 49 #[.pointer none] w fun e w' => e = .returned (.pointer none) ∧ w' = w := by
 go_enter Try.func49, Try.ntmps49
 go_wp2
 go_ret
 exact ⟨rfl, rfl⟩
set_option maxHeartbeats 400000 in
set_option maxRecDepth 100000 in
theorem Copy_calls (w0 w : World) (g : Nat) (v : Value) (xs : List S59) (W m : Int) (h : TK w0 w g v xs W m) (hn : xs.length ≤ 1000) :
 Calls Try.prog 49 #[.pointer (some ⟨g, 0, none⟩)] w fun e w' => ∃ gc v1, e = .returned (.pointer (some ⟨gc, 0, none⟩)) ∧ TK w w' gc v1 xs W m := by
 obtain ⟨A, c, rfl⟩ := Kd.R_slice h.row
 have HB0 := Aside0.mk h.blk
 have l0 := blk_cell h.blk 0
 have l1 := blk_cell h.blk 1
 have l2 := blk_cell h.blk 2
 simp only [List.getElem?_toArray, List.getElem?_cons_succ, List.getElem?_cons_zero] at l0 l1 l2
 have HR := Aside0.mk (Kd.R_drew h.row)
 clear h
 go_enter Try.func49, Try.ntmps49
 go_wp2
 refine start_ (n := 16) (S := fun w' => w'.cell? ⟨g, 0, none⟩ = some (.slice A xs.length c) ∧ w'.cell? ⟨g, 1, none⟩ = some (.int .i64 W) ∧ w'.cell? ⟨g, 2, none⟩ = some (.int .i64 m)) (ds := []) #[false, false, false, false, false, false, false, false, false, false, false, false, false, false, false, false] (by kernel_rfl) rfl rfl ⟨l0, l1, l2⟩ (fun hHeld => ?_)
 refine pl_ [0, 1, 2, 5, 6, 7, 9, 10, 11, 3, 8, 12] ?_
 iterate 9 refine pP rfl rfl (by kernel_rfl) (fun _ _ _ h => h) (by rfl) (by intro w'; go_simp; with_reducible rfl) (by simp only [Act.put, z1, z2, z3, i64_w, i32_w]; rfl) ?_
 iterate 3 refine pT hHeld rfl rfl (by kernel_rfl) (fun _ _ _ h => h) (by rfl) (by rintro w' ⟨s0, s1, s2⟩; go_simp; with_reducible rfl) (by simp only [Act.put, z1, z2, z3, i64_w, i32_w]; rfl) ?_
 refine pl0 ?_
 refine one_ (i := 4) (N := some 9) #[true, true, true, true, true, true, true, true, true, true, true, true, true, false, false, false] rfl rfl (by kernel_rfl) (by decide) (fun K hK => ?_)
 refine goes_ Try.func95 (by kernel_rfl) rfl #[.slice A xs.length c] (by rfl) rfl rfl (by simp only [List.map_toArray, List.map_cons, List.map_nil]; rfl) ?_
 with_reducible refine (clone_calls _ w0.heap.size (fun k => k ≠ g) A c xs HR.out hn).mono ?_
 rintro e w1 ⟨v1, rfl, hR, hb⟩
 refine ⟨_, rfl, ?_⟩
 obtain ⟨A1, c1, rfl⟩ := Kd.R_slice hR
 have HR1 := Aside0.mk hR
 have HB1 := Aside0.mk hb
 have HK1 := Aside0.mk (blk_below (w := w.drew) HB0.out hb)
 clear hR hb
 have m0 := blk_cell HK1.out 0
 have m1 := blk_cell HK1.out 1
 have m2 := blk_cell HK1.out 2
 simp only [List.getElem?_toArray, List.getElem?_cons_succ, List.getElem?_cons_zero] at m0 m1 m2
 refine hK.out _ _ ⟨m0, m1, m2⟩ (fun hHeld => ?_)
 clear hK K
 refine norm_ (a' := ?_) ?_ ?_
 rotate_left
 ·show Act.put _ (some 9) _ = _
  simp only [Act.put, List.setIfInBounds_toArray, List.set_cons_zero, List.set_cons_succ, i64_w, i32_w]
  rfl
 refine pl_ [13] ?_
 refine pP rfl rfl (by kernel_rfl) (fun _ _ _ h => h) (by rfl) (by intro w'; go_simp; with_reducible rfl) (by simp only [Act.put, z1, z2, z3, i64_w, i32_w]; rfl) ?_
 refine pl0 ?_
 refine one_ (i := 14) (N := some 19) #[true, true, true, true, true, true, true, true, true, true, true, true, true, true, true, false] rfl rfl (by kernel_rfl) (by decide) (fun K hK => ?_)
 refine value_ (w1 := ?_) (v := ?_) (by rfl) rfl ?_ ?_
 rotate_left 2
 ·go_simp
  constructor
  ·rfl
  ·rfl
 have HK2 := Aside0.mk (blk_alloc HK1.out (.cells #[.slice A1 xs.length c1, .int .i64 W, .int .i64 m] 147 (0, 0)))
 clear m0 m1 m2
 have m0 := blk_cell HK2.out 0
 have m1 := blk_cell HK2.out 1
 have m2 := blk_cell HK2.out 2
 simp only [List.getElem?_toArray, List.getElem?_cons_succ, List.getElem?_cons_zero] at m0 m1 m2
 refine hK.out _ _ ⟨m0, m1, m2⟩ (fun hHeld => ?_)
 clear hK K
 refine norm_ (a' := ?_) ?_ ?_
 rotate_left
 ·show Act.put _ (some 19) _ = _
  simp only [Act.put, List.setIfInBounds_toArray, List.set_cons_zero, List.set_cons_succ, i64_w, i32_w]
  rfl
 refine pl_ [15] ?_
 refine pP rfl rfl (by kernel_rfl) (fun _ _ _ h => h) (by rfl) (by intro w'; go_simp; with_reducible rfl) (by simp only [Act.put, z1, z2, z3, i64_w, i32_w]; rfl) ?_
 refine pl0 ?_
 refine done_ (by kernel_rfl) ?_
 go_wp2
 go_ret
 have hb1 : Below w.heap.size w w1 := below_step (below_drew1 (Below.refl _ _)) HB1.out
 refine ⟨w1.heap.size, _, rfl, blk_new w1 _, ?_, below_size hb1, below_alloc hb1 _⟩
 exact Kd.R_alloc (Kd.R_mono HR1.out (fun k hk => by omega)) _
end Go.Proofs.Ytfdbcnbakchcgaa.XT
