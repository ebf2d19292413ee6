import Derived.Test.YtfdbcnbakchcgaaXTx1
namespace Go.Proofs.Ytfdbcnbakchcgaa.XT
open Go.RowKit Go.Proofs.YtfdbcnbakchcgaaW.PrintWords Go.Proofs.YtfdbcnbakchcgaaW.PrintLast Go.Proofs.YtfdbcnbakchcgaaW.PrintMore
attribute [local go_sem] max2_int min2_int max_two min_two max_three min_three max_four min_four   -- for this text's walks alone
set_option linter.unusedVariables false
set_option linter.unusedSimpArgs false
/-- A list of rules at block g: its rules are a slice of its own, v; nothing below w0 was touched. -/
structure TK (w0 w : World) (g : Nat) (v : Value) (xs : List S59) (W m : Int) : Prop where
 blk : w.heap[g]? = some (.cells #[v, .int .i64 W, .int .i64 m] 147 (0, 0))
 row : Kd.R k59 59 w w0.heap.size (fun k => k ≠ g) v xs
 ge : w0.heap.size ≤ g
 below : Below w0.heap.size w0 w
theorem TK.lt {w0 w : World} {g : Nat} {v : Value} {xs : List S59} {W m : Int} (h : TK w0 w g v xs W m) : g < w.heap.size := blk_lt h.blk
theorem TK.step {w0 w w1 : World} {g : Nat} {v : Value} {xs : List S59} {W m : Int} (h : TK w0 w g v xs W m) (hb : Below w.heap.size w w1) : TK w0 w1 g v xs W m :=
 ⟨blk_below h.blk hb, Kd.R_below h.row hb, h.ge, below_step h.below hb⟩
/-- What a call of a list's method leaves. -/
structure TP (w0 w w' : World) (g : Nat) (v v1 : Value) (xs : List S59) (W m : Int) : Prop where
 tk : TK w0 w' g v1 xs W m
 kept : Kept w w' (fun k => k = g ∨ some k = v.ownBlock)
 at_ : v1.ownBlock = v.ownBlock ∨ ∃ b, v1.ownBlock = some b ∧ w.heap.size ≤ b
theorem TP.of_below {w0 w w' : World} {g : Nat} {v : Value} {xs : List S59} {W m : Int} (h : TK w0 w g v xs W m) (hb : Below w.heap.size w w') : TP w0 w w' g v v xs W m :=
 ⟨h.step hb, Kept.of_below hb _, .inl rfl⟩
theorem eqA59 (d : Nat) (w : World) (x y : S59) : (Op.equalIn (d + 3) 59 (.agg #[.int .i64 x.f0.f0, .int .u64 x.f0.f1, .int .u64 x.f0.f2, .int .i64 x.f1.f0, .int .u64 x.f1.f1, .int .u64 x.f1.f2, .int .i64 x.f2, .int .i64 x.f3]) (.agg #[.int .i64 y.f0.f0, .int .u64 y.f0.f1, .int .u64 y.f0.f2, .int .i64 y.f1.f0, .int .u64 y.f1.f1, .int .u64 y.f1.f2, .int .i64 y.f2, .int .i64 y.f3])).run Try.prog w = .ok ((x.f0.f0 == y.f0.f0 && (x.f0.f1 == y.f0.f1 && (x.f0.f2 == y.f0.f2))) && ((x.f1.f0 == y.f1.f0 && (x.f1.f1 == y.f1.f1 && (x.f1.f2 == y.f1.f2))) && (x.f2 == y.f2 && (x.f3 == y.f3)))) w := by
 refine eqA_of Try.underlying59 (by kernel_rfl) ?_
 refine eqf_cons (by rfl) (by first | (go_simp; done) | (go_simp; rfl)) (by first | (go_simp; done) | (go_simp; rfl)) (eqA32 d w _ _ _ _ _ _) ?_
 refine eqf_cons (by rfl) (by first | (go_simp; done) | (go_simp; rfl)) (by first | (go_simp; done) | (go_simp; rfl)) (eqA32 d w _ _ _ _ _ _) ?_
 refine eqf_cons (by rfl) (by first | (go_simp; done) | (go_simp; rfl)) (by first | (go_simp; done) | (go_simp; rfl)) (by go_simp) ?_
 exact eqf_last (by rfl) (by first | (go_simp; done) | (go_simp; rfl)) (by first | (go_simp; done) | (go_simp; rfl)) (by go_simp)
/-- Are two rules the same, but for their numbers? -/
def sameT (y x : S59) : Bool := (y.f0.f0 == x.f0.f0 && (y.f0.f1 == x.f0.f1 && (y.f0.f2 == x.f0.f2))) && ((y.f1.f0 == x.f1.f0 && (y.f1.f1 == x.f1.f1 && (y.f1.f2 == x.f1.f2))) && (y.f2 == x.f2))
theorem eql59 (w : World) (x y : S59) (n : Int) : (binOp .eql 59 (.agg #[.int .i64 x.f0.f0, .int .u64 x.f0.f1, .int .u64 x.f0.f2, .int .i64 x.f1.f0, .int .u64 x.f1.f1, .int .u64 x.f1.f2, .int .i64 x.f2, .int .i64 n]) (.agg #[.int .i64 y.f0.f0, .int .u64 y.f0.f1, .int .u64 y.f0.f2, .int .i64 y.f1.f0, .int .u64 y.f1.f1, .int .u64 y.f1.f2, .int .i64 y.f2, .int .i64 n])).run Try.prog w = .ok (.bool (sameT y x)) w := by
 have h := eqA59 9997 w { x with f3 := n } { y with f3 := n }
 simp only [binOp]
 simp only [Op.equal, Op.maxDepth]
 have e : (((x.f0.f0 == y.f0.f0 && (x.f0.f1 == y.f0.f1 && (x.f0.f2 == y.f0.f2))) && ((x.f1.f0 == y.f1.f0 && (x.f1.f1 == y.f1.f1 && (x.f1.f2 == y.f1.f2))) && (x.f2 == y.f2 && (n == n))))) = sameT y x := by
  unfold sameT
  rw [Bool.eq_iff_iff]
  simp only [Bool.and_eq_true, beq_iff_eq]
  constructor
  ·rintro ⟨⟨h1, h2, h3⟩, ⟨h4, h5, h6⟩, h7, _⟩
   exact ⟨⟨h1.symm, h2.symm, h3.symm⟩, ⟨h4.symm, h5.symm, h6.symm⟩, h7.symm⟩
  ·rintro ⟨⟨h1, h2, h3⟩, ⟨h4, h5, h6⟩, h7⟩
   exact ⟨⟨h1.symm, h2.symm, h3.symm⟩, ⟨h4.symm, h5.symm, h6.symm⟩, h7.symm, trivial⟩
 dsimp only at h
 rw [e] at h
 simp [h]
/-- The place of the first rule of which p holds; -1: none is. -/
def idxT (p : S59 → Bool) : List S59 → Nat → Int
 | [], _ => -1
 | y :: t, i => if p y = true then (i : Int) else idxT p t (i + 1)
theorem idxT_drop (p : S59 → Bool) (l : List S59) (i : Nat) (hi : i < l.length) : idxT p (l.drop i) i = if p (rd_T59 l (i : Int)) = true then (i : Int) else idxT p (l.drop (i + 1)) (i + 1) := by
 rw [List.drop_eq_getElem_cons hi, idxT]
 have e : rd_T59 l (i : Int) = l[i] := by simp [rd_T59, List.getD_eq_getElem?_getD, hi]
 rw [e]
/-- A function value that tells p of a rule, over one captured block. -/
def Tells (f : FuncId) (kb : Nat) (o : Obj) (p : S59 → Bool) : Prop := ∀ (y : S59) (W : World), W.heap[kb]? = some o → Calls Try.prog f #[.agg #[.int .i64 y.f0.f0, .int .u64 y.f0.f1, .int .u64 y.f0.f2, .int .i64 y.f1.f0, .int .u64 y.f1.f1, .int .u64 y.f1.f2, .int .i64 y.f2, .int .i64 y.f3], .pointer (some ⟨kb, 0, none⟩)] W fun e w' => e = .returned (.bool (p y)) ∧ Below W.heap.size W w'
set_option maxHeartbeats 400000 in
set_option maxRecDepth 100000 in
theorem find_closure (x : S59) (kb : Nat) : Tells 133 kb (.cells #[.int .i64 x.f0.f0, .int .u64 x.f0.f1, .int .u64 x.f0.f2, .int .i64 x.f1.f0, .int .u64 x.f1.f1, .int .u64 x.f1.f2, .int .i64 x.f2, .int .i64 x.f3] 59 (0, 0)) (fun y => sameT y x) := by
 intro y W hk
 have hc := fun i => blk_cell hk i
 have c0 := hc 0; have c1 := hc 1; have c2 := hc 2; have c3 := hc 3; have c4 := hc 4; have c5 := hc 5; have c6 := hc 6; have c7 := hc 7
 simp only [List.getElem?_toArray, List.getElem?_cons_succ, List.getElem?_cons_zero] at c0 c1 c2 c3 c4 c5 c6 c7
 have hkl := blk_lt hk
 have hkn : kb ≠ W.heap.size := by omega
 have HE := fun w => eql59 w x y x.f3
 clear hc hk
 go_enter Try.func133, Try.ntmps133
 go_wp2
 go_ret
 exact ⟨rfl, below_alloc (Below.refl _ _) _⟩
set_option maxHeartbeats 400000 in
set_option maxRecDepth 100000 in
theorem put_closure (x : S59) (kb : Nat) : Tells 100 kb (.cells #[.int .i64 x.f0.f0, .int .u64 x.f0.f1, .int .u64 x.f0.f2, .int .i64 x.f1.f0, .int .u64 x.f1.f1, .int .u64 x.f1.f2, .int .i64 x.f2, .int .i64 x.f3] 59 (0, 0)) (fun y => decide (x.f2 < y.f2)) := by
 intro y W hk
 have c6 := blk_cell hk 6
 simp only [List.getElem?_toArray, List.getElem?_cons_succ, List.getElem?_cons_zero] at c6
 have hkl := blk_lt hk
 have hkn : kb ≠ W.heap.size := by omega
 clear hk
 go_enter Try.func100, Try.ntmps100
 go_wp2
 go_ret
 exact ⟨rfl, below_alloc (Below.refl _ _) _⟩
set_option maxHeartbeats 400000 in
set_option maxRecDepth 100000 in
theorem idx_find (kb : Nat) (o : Obj) (p : S59 → Bool) (hT : Tells 133 kb o p) (A0 : Option Addr) (c0 : Nat) (l0 : List S59) (w : World) (hk : w.heap[kb]? = some o) (hr0 : Kd.C k59 w A0 l0.length l0) (hc0 : l0.length ≤ c0) (hl : l0.length ≤ 1000) :
 Calls Try.prog 99 #[.slice A0 l0.length c0, .func (.func 133) #[] #[.pointer (some ⟨kb, 0, none⟩)]] w fun e w' => e = .returned (.int .i64 (idxT p l0 0)) ∧ Below w.heap.size w w' := by
 have HT := Aside0.mk (show ∀ (y : S59) (W : World), W.heap[kb]? = some o → Calls Try.prog 133 #[.agg #[.int .i64 y.f0.f0, .int .u64 y.f0.f1, .int .u64 y.f0.f2, .int .i64 y.f1.f0, .int .u64 y.f1.f1, .int .u64 y.f1.f2, .int .i64 y.f2, .int .i64 y.f3], .pointer (some ⟨kb, 0, none⟩)] W fun e w' => e = .returned (.bool (p y)) ∧ Below W.heap.size W w' from hT)
 clear hT
 have HK := Aside0.mk hk
 have HR0 := Aside0.mk hr0
 have HKl := Aside0.mk (blk_lt hk)
 clear hk hr0
 go_enter Try.func99, Try.ntmps99
 go_wp2
 go_loopw [8] (fun n w' => ∃ i : Nat, i ≤ l0.length ∧ n = .int .i64 i ∧ Aside0 (idxT p (l0.drop i) i = idxT p l0 0) ∧ Aside0 (Below w.heap.size w w')) (fun n _ => l0.length - (intOf n).toNat)
 case atStart => exact ⟨0, Nat.zero_le _, rfl, ⟨by rw [List.drop_zero]⟩, ⟨Below.refl _ _⟩⟩
 case round =>
  obtain ⟨i, hi, rfl, HG, HB⟩ := hrel
  by_cases hlt : i < l0.length
  ·have hg := HG.out
   rw [idxT_drop _ _ _ hlt] at hg
   obtain ⟨ad, hA, p0, p1, p2, p3, p4, p5, p6, p7⟩ := at_T59 (Kd.C_below HR0.out HB.out) (i : Int) (by omega) (by omega)
   subst hA
   rw [Int.toNat_natCast] at p0 p1 p2 p3 p4 p5 p6 p7
   have HKw := Aside0.mk (show wr.heap[kb]? = some o from by rw [HB.out.block kb HKl.out]; exact HK.out)
   generalize rd_T59 l0 (i : Int) = x at *
   by_cases hpx : p x = true
   ·rw [if_pos hpx] at hg
    have HG2 := Aside0.mk hg
    clear hg
    go_wp2_with (go_at_call 133; refine (HT.out x _ HKw.out).mono ?_; rintro e w1 ⟨rfl, hb⟩; have HB1 := Aside0.mk (below_step HB.out hb); clear hb; rw [hpx])
    go_ret
    exact ⟨by rw [← HG2.out]; rfl, HB1.out⟩
   ·replace hpx : p x = false := by simpa using hpx
    rw [if_neg (by rw [hpx]; simp)] at hg
    have HG2 := Aside0.mk hg
    clear hg
    go_wp2_with (go_at_call 133; refine (HT.out x _ HKw.out).mono ?_; rintro e w1 ⟨rfl, hb⟩; have HB1 := Aside0.mk (below_step HB.out hb); clear hb; rw [hpx])
    go_roundw
    case rel => exact ⟨i + 1, hlt, by go_num, HG2, HB1⟩
    case measure => simp [intOf]; omega
  ·obtain rfl : i = l0.length := by omega
   have hg := HG.out
   rw [List.drop_length, idxT] at hg
   have HG2 := Aside0.mk hg
   clear hg
   go_wp2
   go_ret
   exact ⟨by rw [← HG2.out]; rfl, HB.out⟩
set_option maxHeartbeats 400000 in
set_option maxRecDepth 100000 in
theorem idx_put (kb : Nat) (o : Obj) (p : S59 → Bool) (hT : Tells 100 kb o p) (A0 : Option Addr) (c0 : Nat) (l0 : List S59) (w : World) (hk : w.heap[kb]? = some o) (hr0 : Kd.C k59 w A0 l0.length l0) (hc0 : l0.length ≤ c0) (hl : l0.length ≤ 1000) :
 Calls Try.prog 99 #[.slice A0 l0.length c0, .func (.func 100) #[] #[.pointer (some ⟨kb, 0, none⟩)]] w fun e w' => e = .returned (.int .i64 (idxT p l0 0)) ∧ Below w.heap.size w w' := by
 have HT := Aside0.mk (show ∀ (y : S59) (W : World), W.heap[kb]? = some o → Calls Try.prog 100 #[.agg #[.int .i64 y.f0.f0, .int .u64 y.f0.f1, .int .u64 y.f0.f2, .int .i64 y.f1.f0, .int .u64 y.f1.f1, .int .u64 y.f1.f2, .int .i64 y.f2, .int .i64 y.f3], .pointer (some ⟨kb, 0, none⟩)] W fun e w' => e = .returned (.bool (p y)) ∧ Below W.heap.size W w' from hT)
 clear hT
 have HK := Aside0.mk hk
 have HR0 := Aside0.mk hr0
 have HKl := Aside0.mk (blk_lt hk)
 clear hk hr0
 go_enter Try.func99, Try.ntmps99
 go_wp2
 go_loopw [8] (fun n w' => ∃ i : Nat, i ≤ l0.length ∧ n = .int .i64 i ∧ Aside0 (idxT p (l0.drop i) i = idxT p l0 0) ∧ Aside0 (Below w.heap.size w w')) (fun n _ => l0.length - (intOf n).toNat)
 case atStart => exact ⟨0, Nat.zero_le _, rfl, ⟨by rw [List.drop_zero]⟩, ⟨Below.refl _ _⟩⟩
 case round =>
  obtain ⟨i, hi, rfl, HG, HB⟩ := hrel
  by_cases hlt : i < l0.length
  ·have hg := HG.out
   rw [idxT_drop _ _ _ hlt] at hg
   obtain ⟨ad, hA, p0, p1, p2, p3, p4, p5, p6, p7⟩ := at_T59 (Kd.C_below HR0.out HB.out) (i : Int) (by omega) (by omega)
   subst hA
   rw [Int.toNat_natCast] at p0 p1 p2 p3 p4 p5 p6 p7
   have HKw := Aside0.mk (show wr.heap[kb]? = some o from by rw [HB.out.block kb HKl.out]; exact HK.out)
   generalize rd_T59 l0 (i : Int) = x at *
   by_cases hpx : p x = true
   ·rw [if_pos hpx] at hg
    have HG2 := Aside0.mk hg
    clear hg
    go_wp2_with (go_at_call 100; refine (HT.out x _ HKw.out).mono ?_; rintro e w1 ⟨rfl, hb⟩; have HB1 := Aside0.mk (below_step HB.out hb); clear hb; rw [hpx])
    go_ret
    exact ⟨by rw [← HG2.out]; rfl, HB1.out⟩
   ·replace hpx : p x = false := by simpa using hpx
    rw [if_neg (by rw [hpx]; simp)] at hg
    have HG2 := Aside0.mk hg
    clear hg
    go_wp2_with (go_at_call 100; refine (HT.out x _ HKw.out).mono ?_; rintro e w1 ⟨rfl, hb⟩; have HB1 := Aside0.mk (below_step HB.out hb); clear hb; rw [hpx])
    go_roundw
    case rel => exact ⟨i + 1, hlt, by go_num, HG2, HB1⟩
    case measure => simp [intOf]; omega
  ·obtain rfl : i = l0.length := by omega
   have hg := HG.out
   rw [List.drop_length, idxT] at hg
   have HG2 := Aside0.mk hg
   clear hg
   go_wp2
   go_ret
   exact ⟨by rw [← HG2.out]; rfl, HB.out⟩
set_option maxHeartbeats 400000 in
set_option maxRecDepth 100000 in
theorem find_calls (w0 w : World) (g : Nat) (v : Value) (xs : List S59) (W m : Int) (x : S59) (h : TK w0 w g v xs W m) (hn : xs.length ≤ 1000) :
 Calls Try.prog 98 #[.pointer (some ⟨g, 0, none⟩), .agg #[.int .i64 x.f0.f0, .int .u64 x.f0.f1, .int .u64 x.f0.f2, .int .i64 x.f1.f0, .int .u64 x.f1.f1, .int .u64 x.f1.f2, .int .i64 x.f2, .int .i64 x.f3]] w fun e w' => e = .returned (.int .i64 (idxT (fun y => sameT y x) xs 0)) ∧ Below w.heap.size w w' := by
 obtain ⟨A, c, rfl, hc, hC⟩ := Kd.R_reads h.row
 have c0 : w.cell? ⟨g, 0, none⟩ = some (.slice A xs.length c) := blk_cell h.blk 0
 have hg := h.lt
 have c0' := (below_alloc (Below.refl w.heap.size w) (.cells #[.int .i64 x.f0.f0, .int .u64 x.f0.f1, .int .u64 x.f0.f2, .int .i64 x.f1.f0, .int .u64 x.f1.f1, .int .u64 x.f1.f2, .int .i64 x.f2, .int .i64 x.f3] 59 (0, 0))).cell (p := ⟨g, 0, none⟩) hg |>.trans c0
 have HCC := Aside0.mk (Kd.C_alloc hC (.cells #[.int .i64 x.f0.f0, .int .u64 x.f0.f1, .int .u64 x.f0.f2, .int .i64 x.f1.f0, .int .u64 x.f1.f1, .int .u64 x.f1.f2, .int .i64 x.f2, .int .i64 x.f3] 59 (0, 0)))
 have hmf : ∀ (fn : Fn) (first cap : Array Value) (w : World), (Instr.makeFunc fn first cap).run Try.prog w = .ok (.func fn first cap) w := fun _ _ _ _ => rfl
 clear h hC
 go_enter Try.func98, Try.ntmps98
 go_wp2_with (go_at_call 99; refine (idx_find w.heap.size _ _ (find_closure x _) A c xs _ (blk_new w _) HCC.out hc hn).mono ?_; rintro e w1 ⟨rfl, hb⟩; have HB1 := Aside0.mk (below_step (below_alloc (Below.refl _ _) _) hb); clear hb)
 go_ret
 exact ⟨rfl, HB1.out⟩
end Go.Proofs.Ytfdbcnbakchcgaa.XT
