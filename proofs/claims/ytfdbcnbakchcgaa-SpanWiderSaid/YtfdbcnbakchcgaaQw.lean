import Derived.Test.YtfdbcnbakchcgaaSv
import Derived.Test.YtfdbcnbakchcgaaQj
namespace Go.Proofs.Ytfdbcnbakchcgaa.XQ
open Go.RowKit Go.Proofs.YtfdbcnbakchcgaaW.PrintWords Go.Proofs.YtfdbcnbakchcgaaW.PrintLast Go.Proofs.YtfdbcnbakchcgaaW.PrintMore
attribute [local go_sem] max2_int min2_int max_two min_two max_three min_three max_four min_four
set_option linter.unusedVariables false
set_option linter.unusedSimpArgs false
theorem C_two87 {w : World} {g : Nat} (a b : S87) (A : Option Addr) (c : Nat) (B : Option Addr) (d : Nat) (A2 : Option Addr) (c2 : Nat) (B2 : Option Addr) (d2 : Nat) (h : w.heap[g]? = some (.cells #[.int .i64 a.f0, .int .i64 a.f1, .int .i64 a.f2, .slice A a.f3.length c, .slice B a.f4.length d, .int .i64 b.f0, .int .i64 b.f1, .int .i64 b.f2, .slice A2 b.f3.length c2, .slice B2 b.f4.length d2] 87 (0, 0)))
 (h3 : a.f3.length ≤ c) (i3 : Kd.C k32 w A a.f3.length a.f3) (h4 : a.f4.length ≤ d) (i4 : Kd.C k32 w B a.f4.length a.f4) (j3 : b.f3.length ≤ c2) (l3 : Kd.C k32 w A2 b.f3.length b.f3) (j4 : b.f4.length ≤ d2) (l4 : Kd.C k32 w B2 b.f4.length b.f4) : Kd.C k87 w (some ⟨g, 0, none⟩) 2 [a, b] :=
 ⟨rfl, by omega, fun _ => ⟨_, rfl, fun j p hj => by
  have hs : k87.sz = 5 := rfl
  rcases j with _ | _ | j
  ·have hp : a = p := by simpa using hj
   subst hp
   refine ⟨[.int .i64 a.f0, .int .i64 a.f1, .int .i64 a.f2, .slice A a.f3.length c, .slice B a.f4.length d], rfl, k87_mk w a h3 i3 h4 i4, fun i u hu => ?_⟩
   have e : (⟨g, 0, none⟩ : Addr).add (0 * k87.sz + i) = ⟨g, i, none⟩ := by simp [Addr.add]; try exact fun e => e.symm
   rw [e, blk_cell h i, ← hu]
   rcases i with _ | _ | _ | _ | _ | i <;> first | rfl | (simp at hu)
  ·have hp : b = p := by simpa using hj
   subst hp
   refine ⟨[.int .i64 b.f0, .int .i64 b.f1, .int .i64 b.f2, .slice A2 b.f3.length c2, .slice B2 b.f4.length d2], rfl, k87_mk w b j3 l3 j4 l4, fun i u hu => ?_⟩
   have e : (⟨g, 0, none⟩ : Addr).add ((0 + 1) * k87.sz + i) = ⟨g, 5 + i, none⟩ := by rw [hs]; simp [Addr.add]
   rw [e, blk_cell h (5 + i), ← hu]
   rcases i with _ | _ | _ | _ | _ | i <;> first | rfl | (simp at hu)
  ·simp at hj⟩⟩
theorem cut3 {R F : Nat → Nat → World → Prop} {G : Prop} (h2 : (∀ g8 g9 wk, F g8 g9 wk → R g8 g9 wk) → G) (h1 : ∀ g8 g9 wk, F g8 g9 wk → R g8 g9 wk) : G := h2 h1
structure FD (wq : World) (g8 g9 : Nat) (wk : World) : Prop where
 z8 : wk.heap[g8]? = some (.cells #[.slice none 0 0, .slice none 0 0, .int .i64 0, .int .i64 0] 94 (0, 0))
 z9 : wk.heap[g9]? = some (.cells #[.slice none 0 0, .slice none 0 0, .int .i64 0, .int .i64 0] 94 (0, 0))
 ne : g8 ≠ g9
 ge8 : wq.heap.size ≤ g8
 ge9 : wq.heap.size ≤ g9
 below : Below wq.heap.size wq wk
structure XY (x y : S94) (A : Option Addr) (c : Nat) (B : Option Addr) (d : Nat) (A2 : Option Addr) (c2 : Nat) (B2 : Option Addr) (d2 : Nat) (g8 g9 : Nat) (p1 n1 p2 n2 : Int) (W : World) : Prop where
 x : W.heap[g8]? = some (.cells #[.slice A x.f0.length c, .slice B x.f1.length d, .int .i64 p1, .int .i64 n1] 94 (0, 0))
 y : W.heap[g9]? = some (.cells #[.slice A2 y.f0.length c2, .slice B2 y.f1.length d2, .int .i64 p2, .int .i64 n2] 94 (0, 0))
theorem XY.step {x y : S94} {A B A2 B2 : Option Addr} {c d c2 d2 g8 g9 : Nat} {p1 n1 p2 n2 : Int} {W W1 : World} (h : XY x y A c B d A2 c2 B2 d2 g8 g9 p1 n1 p2 n2 W) (hb : Below W.heap.size W W1) : XY x y A c B d A2 c2 B2 d2 g8 g9 p1 n1 p2 n2 W1 := ⟨blk_below h.x hb, blk_below h.y hb⟩
theorem XY.keep {x y : S94} {A B A2 B2 : Option Addr} {c d c2 d2 g8 g9 : Nat} {p1 n1 p2 n2 : Int} {W W1 : World} {S : Nat → Prop} (h : XY x y A c B d A2 c2 B2 d2 g8 g9 p1 n1 p2 n2 W) (hk : Kept W W1 S) (h8 : ¬ S g8) (h9 : ¬ S g9) : XY x y A c B d A2 c2 B2 d2 g8 g9 p1 n1 p2 n2 W1 := ⟨(hk.2 g8 (blk_lt h.x) h8).trans h.x, (hk.2 g9 (blk_lt h.y) h9).trans h.y⟩
theorem XY.keep2 {x y : S94} {A B A2 B2 : Option Addr} {c d c2 d2 g8 g9 g : Nat} {p1 n1 p2 n2 : Int} {W W1 : World} {v : Value} (h : XY x y A c B d A2 c2 B2 d2 g8 g9 p1 n1 p2 n2 W) (hk : Kept W W1 (fun k => k = g ∨ some k = v.ownBlock)) (hg : g8 ≠ g ∧ g9 ≠ g) (hv : some g8 ≠ v.ownBlock ∧ some g9 ≠ v.ownBlock) : XY x y A c B d A2 c2 B2 d2 g8 g9 p1 n1 p2 n2 W1 := h.keep hk (by rintro (q | q); exact hg.1 q; exact hv.1 q) (by rintro (q | q); exact hg.2 q; exact hv.2 q)
theorem nil_not (g8 g9 : Nat) : some g8 ≠ (Value.slice none 0 0).ownBlock ∧ some g9 ≠ (Value.slice none 0 0).ownBlock := by simp [Value.ownBlock]
theorem XY.n1 {x y : S94} {A B A2 B2 : Option Addr} {c d c2 d2 g8 g9 : Nat} {p1 n1 p2 n2 : Int} {W : World} (h : XY x y A c B d A2 c2 B2 d2 g8 g9 p1 n1 p2 n2 W) (hne : g8 ≠ g9) (n : Int) : XY x y A c B d A2 c2 B2 d2 g8 g9 p1 n p2 n2 (W.setCell ⟨g8, 3, none⟩ (.int .i64 n)) := ⟨(by have := blk_set h.x 3 (.int .i64 n); simpa using this), (Below.heap_setCell _ ⟨g8, 3, none⟩ _ g9 (fun e => hne e.symm)).trans h.y⟩
theorem XY.n2 {x y : S94} {A B A2 B2 : Option Addr} {c d c2 d2 g8 g9 : Nat} {p1 n1 p2 n2 : Int} {W : World} (h : XY x y A c B d A2 c2 B2 d2 g8 g9 p1 n1 p2 n2 W) (hne : g8 ≠ g9) (n : Int) : XY x y A c B d A2 c2 B2 d2 g8 g9 p1 n1 p2 n (W.setCell ⟨g9, 3, none⟩ (.int .i64 n)) := ⟨(Below.heap_setCell _ ⟨g9, 3, none⟩ _ g8 hne).trans h.x, (by have := blk_set h.y 3 (.int .i64 n); simpa using this)⟩
theorem XY.p2 {x y : S94} {A B A2 B2 : Option Addr} {c d c2 d2 g8 g9 : Nat} {p1 n1 p2 n2 : Int} {W : World} (h : XY x y A c B d A2 c2 B2 d2 g8 g9 p1 n1 p2 n2 W) (hne : g8 ≠ g9) (n : Int) : XY x y A c B d A2 c2 B2 d2 g8 g9 p1 n1 n n2 (W.setCell ⟨g9, 2, none⟩ (.int .i64 n)) := ⟨(Below.heap_setCell _ ⟨g9, 2, none⟩ _ g8 hne).trans h.x, (by have := blk_set h.y 2 (.int .i64 n); simpa using this)⟩
theorem XY.cells {x y : S94} {A B A2 B2 : Option Addr} {c d c2 d2 g8 g9 : Nat} {p1 n1 p2 n2 : Int} {W : World} (h : XY x y A c B d A2 c2 B2 d2 g8 g9 p1 n1 p2 n2 W) : (W.cell? ⟨g8, 0, none⟩ = some (.slice A x.f0.length c) ∧ W.cell? ⟨g8, 1, none⟩ = some (.slice B x.f1.length d) ∧ W.cell? ⟨g8, 2, none⟩ = some (.int .i64 p1) ∧ W.cell? ⟨g8, 3, none⟩ = some (.int .i64 n1)) ∧ W.cell? ⟨g9, 0, none⟩ = some (.slice A2 y.f0.length c2) ∧ W.cell? ⟨g9, 1, none⟩ = some (.slice B2 y.f1.length d2) ∧ W.cell? ⟨g9, 2, none⟩ = some (.int .i64 p2) ∧ W.cell? ⟨g9, 3, none⟩ = some (.int .i64 n2) :=
 ⟨⟨(blk_cell h.x 0).trans rfl, (blk_cell h.x 1).trans rfl, (blk_cell h.x 2).trans rfl, (blk_cell h.x 3).trans rfl⟩, (blk_cell h.y 0).trans rfl, (blk_cell h.y 1).trans rfl, (blk_cell h.y 2).trans rfl, (blk_cell h.y 3).trans rfl⟩
theorem mayL_wi {ws : List Int} {x : S94} (h : mayL ws x = 0) : x.f0.length = ws.length ∧ x.f1.length = ws.length ∧ allTo (wiB x) ws.length = true := by
 have hl := mayL_zero h
 refine ⟨hl.1, hl.2, ?_⟩
 unfold mayL at h
 rw [if_pos hl] at h
 split at h
 ·split at h
  ·exact absurd h (by decide)
  ·split at h
   ·exact absurd h (by decide)
   ·split at h
    ·assumption
    ·exact absurd h (by decide)
 ·exact absurd h (by decide)
theorem wiV_hi {lo hi : S32} (h : wiV lo lo hi = true) : wiV hi lo hi = true := by
 unfold wiV wiN at h ⊢
 rw [decide_eq_true_eq] at h ⊢
 obtain ⟨⟨h1, h2, h3⟩, ⟨h4, h5⟩, h6, h7⟩ := h
 exact ⟨⟨h3, h1, h3⟩, ⟨h5.symm, rfl⟩, h7, Nat.le_refl _⟩
theorem qK_lo {ws : List Int} {x : S94} (h : mayL ws x = 0) : qK x.f0 x = true := by
 obtain ⟨h1, _, h3⟩ := mayL_wi h
 unfold qK meetL
 rw [decide_eq_true rfl, Bool.true_and, h1]
 exact h3
theorem qK_hi {ws : List Int} {x : S94} (h : mayL ws x = 0) : qK x.f1 x = true := by
 obtain ⟨h1, h2, h3⟩ := mayL_wi h
 unfold qK meetL
 rw [decide_eq_true (h2.trans h1.symm), Bool.true_and, h2]
 exact (allTo_iff _ _).2 (fun i hi => by have h4 := allTo_at (p := wiB x) h3 hi; exact wiV_hi h4)
theorem get_first {q : S94 → Bool} {X Y : S94} (h : q X = true) : getA q [X, Y] = (X.f3, X.f2, true) := by
 unfold getA
 rw [List.find?_cons, h]
theorem get_second {q : S94 → Bool} {X Y : S94} (h : q X = false) (h2 : q Y = true) : getA q [X, Y] = (Y.f3, Y.f2, true) := by
 unfold getA
 rw [List.find?_cons, h, List.find?_cons, h2]
set_option maxHeartbeats 1000000 in
set_option maxRecDepth 100000 in
theorem SpanWider_wide (E : Option Addr) (e : Nat) (ws : List Int) (ka : Int) (x : S94) (A : Option Addr) (c : Nat) (B : Option Addr) (d : Nat) (kb : Int) (y : S94) (A2 : Option Addr) (c2 : Nat) (B2 : Option Addr) (d2 : Nat) (w : World) (hE : Kd.C (Kd.int .i64) w E ws.length ws) (he : ws.length ≤ e) (hA : Kd.C k32 w A x.f0.length x.f0) (hc : x.f0.length ≤ c) (hB : Kd.C k32 w B x.f1.length x.f1) (hd : x.f1.length ≤ d) (hA2 : Kd.C k32 w A2 y.f0.length y.f0) (hc2 : y.f0.length ≤ c2) (hB2 : Kd.C k32 w B2 y.f1.length y.f1) (hd2 : y.f1.length ≤ d2) (h : 20 < ws.length) :
 Calls Try.prog 12 #[.slice E ws.length e, .agg #[.int .i64 ka, .int .i64 x.f2, .int .i64 x.f3, .slice A x.f0.length c, .slice B x.f1.length d], .agg #[.int .i64 kb, .int .i64 y.f2, .int .i64 y.f3, .slice A2 y.f0.length c2, .slice B2 y.f1.length d2]] w fun e_ w' => e_ = .returned (.bool true) ∧ Below w.heap.size w w' := by
 have HB0 := Aside0.mk (below_alloc (below_alloc (Below.refl w.heap.size w) (.cells #[.int .i64 ka, .int .i64 x.f2, .int .i64 x.f3, .slice A x.f0.length c, .slice B x.f1.length d] 87 (0, 0))) (.cells #[.int .i64 kb, .int .i64 y.f2, .int .i64 y.f3, .slice A2 y.f0.length c2, .slice B2 y.f1.length d2] 87 (0, 0)))
 have HBA := Aside0.mk (blk_alloc (blk_new w (.cells #[.int .i64 ka, .int .i64 x.f2, .int .i64 x.f3, .slice A x.f0.length c, .slice B x.f1.length d] 87 (0, 0))) (.cells #[.int .i64 kb, .int .i64 y.f2, .int .i64 y.f3, .slice A2 y.f0.length c2, .slice B2 y.f1.length d2] 87 (0, 0)))
 have HBB := Aside0.mk (blk_new2 w (.cells #[.int .i64 ka, .int .i64 x.f2, .int .i64 x.f3, .slice A x.f0.length c, .slice B x.f1.length d] 87 (0, 0)) (.cells #[.int .i64 kb, .int .i64 y.f2, .int .i64 y.f3, .slice A2 y.f0.length c2, .slice B2 y.f1.length d2] 87 (0, 0)))
 have g1 : decide ((20 : Int) < (ws.length : Int)) = true := decide_eq_true (by omega)
 clear h hE he hA hc hB hd hA2 hc2 hB2 hd2
 have a0 := blk_cell HBA.out 0
 have a1 := blk_cell HBA.out 1
 have a2 := blk_cell HBA.out 2
 have a3 := blk_cell HBA.out 3
 have a4 := blk_cell HBA.out 4
 have b0 := blk_cell HBB.out 0
 have b1 := blk_cell HBB.out 1
 have b2 := blk_cell HBB.out 2
 have b3 := blk_cell HBB.out 3
 have b4 := blk_cell HBB.out 4
 simp only [List.getElem?_toArray, List.getElem?_cons_succ, List.getElem?_cons_zero] at a0 a1 a2 a3 a4 b0 b1 b2 b3 b4
 go_enter Try.func12, Try.ntmps12
 go_wp2_with (first | (go_at_call 51; with_reducible refine (lives_calls _).mono ?_; rintro e_ wz ⟨rfl, hb⟩; have HZ := Aside0.mk (below_step HB0.out hb); clear hb))
 go_ret
 exact ⟨rfl, HZ.out⟩
set_option maxHeartbeats 1000000 in
set_option maxRecDepth 100000 in
theorem SpanWider_heavy (E : Option Addr) (e : Nat) (ws : List Int) (ka : Int) (x : S94) (A : Option Addr) (c : Nat) (B : Option Addr) (d : Nat) (kb : Int) (y : S94) (A2 : Option Addr) (c2 : Nat) (B2 : Option Addr) (d2 : Nat) (w : World) (hE : Kd.C (Kd.int .i64) w E ws.length ws) (he : ws.length ≤ e) (hA : Kd.C k32 w A x.f0.length x.f0) (hc : x.f0.length ≤ c) (hB : Kd.C k32 w B x.f1.length x.f1) (hd : x.f1.length ≤ d) (hA2 : Kd.C k32 w A2 y.f0.length y.f0) (hc2 : y.f0.length ≤ c2) (hB2 : Kd.C k32 w B2 y.f1.length y.f1) (hd2 : y.f1.length ≤ d2) (h : ¬ 20 < ws.length) (hL : lightB [⟨ka, x.f2, x.f3, x.f0, x.f1⟩, ⟨kb, y.f2, y.f3, y.f0, y.f1⟩] = false) :
 Calls Try.prog 12 #[.slice E ws.length e, .agg #[.int .i64 ka, .int .i64 x.f2, .int .i64 x.f3, .slice A x.f0.length c, .slice B x.f1.length d], .agg #[.int .i64 kb, .int .i64 y.f2, .int .i64 y.f3, .slice A2 y.f0.length c2, .slice B2 y.f1.length d2]] w fun e_ w' => e_ = .returned (.bool true) ∧ Below w.heap.size w w' := by
 have HB0 := Aside0.mk (below_alloc (below_alloc (Below.refl w.heap.size w) (.cells #[.int .i64 ka, .int .i64 x.f2, .int .i64 x.f3, .slice A x.f0.length c, .slice B x.f1.length d] 87 (0, 0))) (.cells #[.int .i64 kb, .int .i64 y.f2, .int .i64 y.f3, .slice A2 y.f0.length c2, .slice B2 y.f1.length d2] 87 (0, 0)))
 have HBA := Aside0.mk (blk_alloc (blk_new w (.cells #[.int .i64 ka, .int .i64 x.f2, .int .i64 x.f3, .slice A x.f0.length c, .slice B x.f1.length d] 87 (0, 0))) (.cells #[.int .i64 kb, .int .i64 y.f2, .int .i64 y.f3, .slice A2 y.f0.length c2, .slice B2 y.f1.length d2] 87 (0, 0)))
 have HBB := Aside0.mk (blk_new2 w (.cells #[.int .i64 ka, .int .i64 x.f2, .int .i64 x.f3, .slice A x.f0.length c, .slice B x.f1.length d] 87 (0, 0)) (.cells #[.int .i64 kb, .int .i64 y.f2, .int .i64 y.f3, .slice A2 y.f0.length c2, .slice B2 y.f1.length d2] 87 (0, 0)))
 have g1 : decide ((20 : Int) < (ws.length : Int)) = false := decide_eq_false (by omega)
 have HLT := Aside0.mk (fun (w1 : World) (g : Nat) (hg : w1.heap[g]? = some (.cells #[.int .i64 ka, .int .i64 x.f2, .int .i64 x.f3, .slice A x.f0.length c, .slice B x.f1.length d, .int .i64 kb, .int .i64 y.f2, .int .i64 y.f3, .slice A2 y.f0.length c2, .slice B2 y.f1.length d2] 87 (0, 0))) (hb : Below w.heap.size w w1) => (show Calls Try.prog 50 #[.slice (some ⟨g, 0, none⟩) 2 2] w1 (fun e_ w' => e_ = .returned (.bool false) ∧ Below w1.heap.size w1 w') from by have := light_calls [⟨ka, x.f2, x.f3, x.f0, x.f1⟩, ⟨kb, y.f2, y.f3, y.f0, y.f1⟩] (some ⟨g, 0, none⟩) 2 w1 (C_two87 ⟨ka, x.f2, x.f3, x.f0, x.f1⟩ ⟨kb, y.f2, y.f3, y.f0, y.f1⟩ A c B d A2 c2 B2 d2 hg hc (Kd.C_below hA hb) hd (Kd.C_below hB hb) hc2 (Kd.C_below hA2 hb) hd2 (Kd.C_below hB2 hb)) (Nat.le_refl 2); rw [hL] at this; exact this))
 clear h hL hE he hA hc hB hd hA2 hc2 hB2 hd2
 go_enter Try.func12, Try.ntmps12
 go_upto_region 1 with (first | (go_at_call 67; skip))
 generalize ((w.alloc (.cells #[.int .i64 ka, .int .i64 x.f2, .int .i64 x.f3, .slice A x.f0.length c, .slice B x.f1.length d] 87 (0, 0))).alloc (.cells #[.int .i64 kb, .int .i64 y.f2, .int .i64 y.f3, .slice A2 y.f0.length c2, .slice B2 y.f1.length d2] 87 (0, 0))) = wq at HB0 HBA HBB ⊢
 have a0 := blk_cell HBA.out 0
 have a1 := blk_cell HBA.out 1
 have a2 := blk_cell HBA.out 2
 have a3 := blk_cell HBA.out 3
 have a4 := blk_cell HBA.out 4
 have b0 := blk_cell HBB.out 0
 have b1 := blk_cell HBB.out 1
 have b2 := blk_cell HBB.out 2
 have b3 := blk_cell HBB.out 3
 have b4 := blk_cell HBB.out 4
 simp only [List.getElem?_toArray, List.getElem?_cons_succ, List.getElem?_cons_zero] at a0 a1 a2 a3 a4 b0 b1 b2 b3 b4
 go_wp2_with (first | (go_at_call 50; with_reducible refine (HLT.out _ _ (blk_new wq (.cells #[.int .i64 ka, .int .i64 x.f2, .int .i64 x.f3, .slice A x.f0.length c, .slice B x.f1.length d, .int .i64 kb, .int .i64 y.f2, .int .i64 y.f3, .slice A2 y.f0.length c2, .slice B2 y.f1.length d2] 87 (0, 0))) (below_alloc HB0.out (.cells #[.int .i64 ka, .int .i64 x.f2, .int .i64 x.f3, .slice A x.f0.length c, .slice B x.f1.length d, .int .i64 kb, .int .i64 y.f2, .int .i64 y.f3, .slice A2 y.f0.length c2, .slice B2 y.f1.length d2] 87 (0, 0)))).mono ?_; rintro e_ wl ⟨rfl, hb⟩; have HBL := Aside0.mk (below_step (below_alloc HB0.out (.cells #[.int .i64 ka, .int .i64 x.f2, .int .i64 x.f3, .slice A x.f0.length c, .slice B x.f1.length d, .int .i64 kb, .int .i64 y.f2, .int .i64 y.f3, .slice A2 y.f0.length c2, .slice B2 y.f1.length d2] 87 (0, 0))) hb); have HQL := Aside0.mk (below_step (below_alloc (Below.refl wq.heap.size wq) (.cells #[.int .i64 ka, .int .i64 x.f2, .int .i64 x.f3, .slice A x.f0.length c, .slice B x.f1.length d, .int .i64 kb, .int .i64 y.f2, .int .i64 y.f3, .slice A2 y.f0.length c2, .slice B2 y.f1.length d2] 87 (0, 0))) hb); clear hb a0 a1 a2 a3 a4 b0 b1 b2 b3 b4) | (go_at_call 51; with_reducible refine (lives_calls _).mono ?_; rintro e_ wz ⟨rfl, hb⟩; have HZ := Aside0.mk (below_step HBL.out hb); clear hb))
 go_ret
 exact ⟨rfl, HZ.out⟩
set_option maxHeartbeats 1000000 in
set_option maxRecDepth 100000 in
theorem SpanWider_none (E : Option Addr) (e : Nat) (ws : List Int) (ka : Int) (x : S94) (A : Option Addr) (c : Nat) (B : Option Addr) (d : Nat) (kb : Int) (y : S94) (A2 : Option Addr) (c2 : Nat) (B2 : Option Addr) (d2 : Nat) (w : World) (hE : Kd.C (Kd.int .i64) w E ws.length ws) (he : ws.length ≤ e) (hA : Kd.C k32 w A x.f0.length x.f0) (hc : x.f0.length ≤ c) (hB : Kd.C k32 w B x.f1.length x.f1) (hd : x.f1.length ≤ d) (hA2 : Kd.C k32 w A2 y.f0.length y.f0) (hc2 : y.f0.length ≤ c2) (hB2 : Kd.C k32 w B2 y.f1.length y.f1) (hd2 : y.f1.length ≤ d2) (h : ¬ 20 < ws.length) (hL : lightB [⟨ka, x.f2, x.f3, x.f0, x.f1⟩, ⟨kb, y.f2, y.f3, y.f0, y.f1⟩] = true) (hW : widB ws 9 = false) :
 Calls Try.prog 12 #[.slice E ws.length e, .agg #[.int .i64 ka, .int .i64 x.f2, .int .i64 x.f3, .slice A x.f0.length c, .slice B x.f1.length d], .agg #[.int .i64 kb, .int .i64 y.f2, .int .i64 y.f3, .slice A2 y.f0.length c2, .slice B2 y.f1.length d2]] w fun e_ w' => e_ = .returned (.bool true) ∧ Below w.heap.size w w' := by
 have HB0 := Aside0.mk (below_alloc (below_alloc (Below.refl w.heap.size w) (.cells #[.int .i64 ka, .int .i64 x.f2, .int .i64 x.f3, .slice A x.f0.length c, .slice B x.f1.length d] 87 (0, 0))) (.cells #[.int .i64 kb, .int .i64 y.f2, .int .i64 y.f3, .slice A2 y.f0.length c2, .slice B2 y.f1.length d2] 87 (0, 0)))
 have HBA := Aside0.mk (blk_alloc (blk_new w (.cells #[.int .i64 ka, .int .i64 x.f2, .int .i64 x.f3, .slice A x.f0.length c, .slice B x.f1.length d] 87 (0, 0))) (.cells #[.int .i64 kb, .int .i64 y.f2, .int .i64 y.f3, .slice A2 y.f0.length c2, .slice B2 y.f1.length d2] 87 (0, 0)))
 have HBB := Aside0.mk (blk_new2 w (.cells #[.int .i64 ka, .int .i64 x.f2, .int .i64 x.f3, .slice A x.f0.length c, .slice B x.f1.length d] 87 (0, 0)) (.cells #[.int .i64 kb, .int .i64 y.f2, .int .i64 y.f3, .slice A2 y.f0.length c2, .slice B2 y.f1.length d2] 87 (0, 0)))
 have g1 : decide ((20 : Int) < (ws.length : Int)) = false := decide_eq_false (by omega)
 have HLT := Aside0.mk (fun (w1 : World) (g : Nat) (hg : w1.heap[g]? = some (.cells #[.int .i64 ka, .int .i64 x.f2, .int .i64 x.f3, .slice A x.f0.length c, .slice B x.f1.length d, .int .i64 kb, .int .i64 y.f2, .int .i64 y.f3, .slice A2 y.f0.length c2, .slice B2 y.f1.length d2] 87 (0, 0))) (hb : Below w.heap.size w w1) => (show Calls Try.prog 50 #[.slice (some ⟨g, 0, none⟩) 2 2] w1 (fun e_ w' => e_ = .returned (.bool true) ∧ Below w1.heap.size w1 w') from by have := light_calls [⟨ka, x.f2, x.f3, x.f0, x.f1⟩, ⟨kb, y.f2, y.f3, y.f0, y.f1⟩] (some ⟨g, 0, none⟩) 2 w1 (C_two87 ⟨ka, x.f2, x.f3, x.f0, x.f1⟩ ⟨kb, y.f2, y.f3, y.f0, y.f1⟩ A c B d A2 c2 B2 d2 hg hc (Kd.C_below hA hb) hd (Kd.C_below hB hb) hc2 (Kd.C_below hA2 hb) hd2 (Kd.C_below hB2 hb)) (Nat.le_refl 2); rw [hL] at this; exact this))
 have HWD := Aside0.mk (fun w1 (hb : Below w.heap.size w w1) => (show Calls Try.prog 53 #[.slice E ws.length e, .int .i64 9] w1 (fun e_ w' => e_ = .returned (.bool false) ∧ Below w1.heap.size w1 w') from by have := Widths_calls ws 9 E e w1 (Kd.C_below hE hb) he (by omega); rw [hW] at this; exact this))
 have HNW := Aside0.mk (fun w1 (hb : Below w.heap.size w w1) => New_no E e ws 9 w1 (Kd.C_below hE hb) (by omega) (widB_false hW))
 clear h hL hW hE he hA hc hB hd hA2 hc2 hB2 hd2
 go_enter Try.func12, Try.ntmps12
 go_upto_region 1 with (first | (go_at_call 67; skip))
 generalize ((w.alloc (.cells #[.int .i64 ka, .int .i64 x.f2, .int .i64 x.f3, .slice A x.f0.length c, .slice B x.f1.length d] 87 (0, 0))).alloc (.cells #[.int .i64 kb, .int .i64 y.f2, .int .i64 y.f3, .slice A2 y.f0.length c2, .slice B2 y.f1.length d2] 87 (0, 0))) = wq at HB0 HBA HBB ⊢
 have a0 := blk_cell HBA.out 0
 have a1 := blk_cell HBA.out 1
 have a2 := blk_cell HBA.out 2
 have a3 := blk_cell HBA.out 3
 have a4 := blk_cell HBA.out 4
 have b0 := blk_cell HBB.out 0
 have b1 := blk_cell HBB.out 1
 have b2 := blk_cell HBB.out 2
 have b3 := blk_cell HBB.out 3
 have b4 := blk_cell HBB.out 4
 simp only [List.getElem?_toArray, List.getElem?_cons_succ, List.getElem?_cons_zero] at a0 a1 a2 a3 a4 b0 b1 b2 b3 b4
 go_wp2_with (first | (go_at_call 50; with_reducible refine (HLT.out _ _ (blk_new wq (.cells #[.int .i64 ka, .int .i64 x.f2, .int .i64 x.f3, .slice A x.f0.length c, .slice B x.f1.length d, .int .i64 kb, .int .i64 y.f2, .int .i64 y.f3, .slice A2 y.f0.length c2, .slice B2 y.f1.length d2] 87 (0, 0))) (below_alloc HB0.out (.cells #[.int .i64 ka, .int .i64 x.f2, .int .i64 x.f3, .slice A x.f0.length c, .slice B x.f1.length d, .int .i64 kb, .int .i64 y.f2, .int .i64 y.f3, .slice A2 y.f0.length c2, .slice B2 y.f1.length d2] 87 (0, 0)))).mono ?_; rintro e_ wl ⟨rfl, hb⟩; have HBL := Aside0.mk (below_step (below_alloc HB0.out (.cells #[.int .i64 ka, .int .i64 x.f2, .int .i64 x.f3, .slice A x.f0.length c, .slice B x.f1.length d, .int .i64 kb, .int .i64 y.f2, .int .i64 y.f3, .slice A2 y.f0.length c2, .slice B2 y.f1.length d2] 87 (0, 0))) hb); have HQL := Aside0.mk (below_step (below_alloc (Below.refl wq.heap.size wq) (.cells #[.int .i64 ka, .int .i64 x.f2, .int .i64 x.f3, .slice A x.f0.length c, .slice B x.f1.length d, .int .i64 kb, .int .i64 y.f2, .int .i64 y.f3, .slice A2 y.f0.length c2, .slice B2 y.f1.length d2] 87 (0, 0))) hb); clear hb a0 a1 a2 a3 a4 b0 b1 b2 b3 b4) | (go_at_call 52; with_reducible refine (HNW.out _ HBL.out).mono ?_; rintro e_ wn ⟨rfl, hb⟩; have HBN := Aside0.mk (below_step HBL.out hb); clear hb) | (go_at_call 53; with_reducible refine (HWD.out _ HBN.out).mono ?_; rintro e_ wr ⟨rfl, hb⟩; have HBQ := Aside0.mk (below_step HBN.out hb); clear hb) | (go_at_call 51; with_reducible refine (lives_calls _).mono ?_; rintro e_ wz ⟨rfl, hb⟩; have HZ := Aside0.mk (below_step HBQ.out hb); clear hb))
 go_ret
 exact ⟨rfl, HZ.out⟩
theorem own_not {w : World} {v1 : Value} {g8 g9 : Nat} (hat : v1.ownBlock = (Value.slice none 0 0).ownBlock ∨ ∃ b, v1.ownBlock = some b ∧ w.heap.size ≤ b) (h8 : g8 < w.heap.size) (h9 : g9 < w.heap.size) : some g8 ≠ v1.ownBlock ∧ some g9 ≠ v1.ownBlock := by
 rcases hat with q | ⟨b, q, hb⟩
 ·rw [q]; simp [Value.ownBlock]
 ·rw [q]; exact ⟨fun e => by injection e with e; omega, fun e => by injection e with e; omega⟩
set_option maxHeartbeats 1000000 in
set_option maxRecDepth 100000 in
theorem SpanWider_try (E : Option Addr) (e : Nat) (ws : List Int) (ka : Int) (x : S94) (A : Option Addr) (c : Nat) (B : Option Addr) (d : Nat) (kb : Int) (y : S94) (A2 : Option Addr) (c2 : Nat) (B2 : Option Addr) (d2 : Nat) (w : World) (hE : Kd.C (Kd.int .i64) w E ws.length ws) (he : ws.length ≤ e) (hA : Kd.C k32 w A x.f0.length x.f0) (hc : x.f0.length ≤ c) (hB : Kd.C k32 w B x.f1.length x.f1) (hd : x.f1.length ≤ d) (hA2 : Kd.C k32 w A2 y.f0.length y.f0) (hc2 : y.f0.length ≤ c2) (hB2 : Kd.C k32 w B2 y.f1.length y.f1) (hd2 : y.f1.length ≤ d2) (h : ¬ 20 < ws.length) (hL : lightB [⟨ka, x.f2, x.f3, x.f0, x.f1⟩, ⟨kb, y.f2, y.f3, y.f0, y.f1⟩] = true) (hW : widB ws 9 = true) (hx0 : ∀ z ∈ x.f0, okV z) (hx1 : ∀ z ∈ x.f1, okV z) (hy0 : ∀ z ∈ y.f0, okV z) (hy1 : ∀ z ∈ y.f1, okV z) :
 Calls Try.prog 12 #[.slice E ws.length e, .agg #[.int .i64 ka, .int .i64 x.f2, .int .i64 x.f3, .slice A x.f0.length c, .slice B x.f1.length d], .agg #[.int .i64 kb, .int .i64 y.f2, .int .i64 y.f3, .slice A2 y.f0.length c2, .slice B2 y.f1.length d2]] w fun e_ w' => e_ = .returned (.bool true) ∧ Below w.heap.size w w' := by
 have HB0 := Aside0.mk (below_alloc (below_alloc (Below.refl w.heap.size w) (.cells #[.int .i64 ka, .int .i64 x.f2, .int .i64 x.f3, .slice A x.f0.length c, .slice B x.f1.length d] 87 (0, 0))) (.cells #[.int .i64 kb, .int .i64 y.f2, .int .i64 y.f3, .slice A2 y.f0.length c2, .slice B2 y.f1.length d2] 87 (0, 0)))
 have HBA := Aside0.mk (blk_alloc (blk_new w (.cells #[.int .i64 ka, .int .i64 x.f2, .int .i64 x.f3, .slice A x.f0.length c, .slice B x.f1.length d] 87 (0, 0))) (.cells #[.int .i64 kb, .int .i64 y.f2, .int .i64 y.f3, .slice A2 y.f0.length c2, .slice B2 y.f1.length d2] 87 (0, 0)))
 have HBB := Aside0.mk (blk_new2 w (.cells #[.int .i64 ka, .int .i64 x.f2, .int .i64 x.f3, .slice A x.f0.length c, .slice B x.f1.length d] 87 (0, 0)) (.cells #[.int .i64 kb, .int .i64 y.f2, .int .i64 y.f3, .slice A2 y.f0.length c2, .slice B2 y.f1.length d2] 87 (0, 0)))
 have g1 : decide ((20 : Int) < (ws.length : Int)) = false := decide_eq_false (by omega)
 have HLT := Aside0.mk (fun (w1 : World) (g : Nat) (hg : w1.heap[g]? = some (.cells #[.int .i64 ka, .int .i64 x.f2, .int .i64 x.f3, .slice A x.f0.length c, .slice B x.f1.length d, .int .i64 kb, .int .i64 y.f2, .int .i64 y.f3, .slice A2 y.f0.length c2, .slice B2 y.f1.length d2] 87 (0, 0))) (hb : Below w.heap.size w w1) => (show Calls Try.prog 50 #[.slice (some ⟨g, 0, none⟩) 2 2] w1 (fun e_ w' => e_ = .returned (.bool true) ∧ Below w1.heap.size w1 w') from by have := light_calls [⟨ka, x.f2, x.f3, x.f0, x.f1⟩, ⟨kb, y.f2, y.f3, y.f0, y.f1⟩] (some ⟨g, 0, none⟩) 2 w1 (C_two87 ⟨ka, x.f2, x.f3, x.f0, x.f1⟩ ⟨kb, y.f2, y.f3, y.f0, y.f1⟩ A c B d A2 c2 B2 d2 hg hc (Kd.C_below hA hb) hd (Kd.C_below hB hb) hc2 (Kd.C_below hA2 hb) hd2 (Kd.C_below hB2 hb)) (Nat.le_refl 2); rw [hL] at this; exact this))
 have HNW := Aside0.mk (fun w1 (hb : Below w.heap.size w w1) => New_ok E e ws 9 w1 (Kd.C_below hE hb) he (widB_true hW).1 (widB_true hW).2.1 (widB_true hW).2.2.1 (widB_true hW).2.2.2.1 (widB_true hW).2.2.2.2)
 have HCA := Aside0.mk (fun w1 (hb : Below w.heap.size w w1) => Kd.C_below hA hb)
 have HCB := Aside0.mk (fun w1 (hb : Below w.heap.size w w1) => Kd.C_below hB hb)
 have HCA2 := Aside0.mk (fun w1 (hb : Below w.heap.size w w1) => Kd.C_below hA2 hb)
 have HCB2 := Aside0.mk (fun w1 (hb : Below w.heap.size w w1) => Kd.C_below hB2 hb)
 have HLC := Aside0.mk (show x.f0.length ≤ c ∧ x.f1.length ≤ d ∧ y.f0.length ≤ c2 ∧ y.f1.length ≤ d2 from ⟨hc, hd, hc2, hd2⟩)
 have HOX := Aside0.mk (show okI ⟨x.f0, x.f1, x.f2, 1⟩ from ⟨hx0, hx1, (show x.f0.length ≤ 1000 by have := ((light_len hL).2 _ List.mem_cons_self).1; have h' : x.f0.length ≤ 10 := this; omega), (show x.f1.length ≤ 1000 by have := ((light_len hL).2 _ List.mem_cons_self).2; have h' : x.f1.length ≤ 10 := this; omega)⟩)
 have HOY := Aside0.mk (show okI ⟨y.f0, y.f1, x.f2, 2⟩ from ⟨hy0, hy1, (show y.f0.length ≤ 1000 by have := ((light_len hL).2 _ (List.mem_cons_of_mem _ List.mem_cons_self)).1; have h' : y.f0.length ≤ 10 := this; omega), (show y.f1.length ≤ 1000 by have := ((light_len hL).2 _ (List.mem_cons_of_mem _ List.mem_cons_self)).2; have h' : y.f1.length ≤ 10 := this; omega)⟩)
 clear h hL hW hx0 hx1 hy0 hy1 hE he hA hc hB hd hA2 hc2 hB2 hd2
 go_enter Try.func12, Try.ntmps12
 go_upto_region 1 with (first | (go_at_call 67; skip))
 generalize ((w.alloc (.cells #[.int .i64 ka, .int .i64 x.f2, .int .i64 x.f3, .slice A x.f0.length c, .slice B x.f1.length d] 87 (0, 0))).alloc (.cells #[.int .i64 kb, .int .i64 y.f2, .int .i64 y.f3, .slice A2 y.f0.length c2, .slice B2 y.f1.length d2] 87 (0, 0))) = wq at HB0 HBA HBB ⊢
 have a0 := blk_cell HBA.out 0
 have a1 := blk_cell HBA.out 1
 have a2 := blk_cell HBA.out 2
 have a3 := blk_cell HBA.out 3
 have a4 := blk_cell HBA.out 4
 have b0 := blk_cell HBB.out 0
 have b1 := blk_cell HBB.out 1
 have b2 := blk_cell HBB.out 2
 have b3 := blk_cell HBB.out 3
 have b4 := blk_cell HBB.out 4
 simp only [List.getElem?_toArray, List.getElem?_cons_succ, List.getElem?_cons_zero] at a0 a1 a2 a3 a4 b0 b1 b2 b3 b4
 go_upto_region 6 with (first | (go_at_call 50; with_reducible refine (HLT.out _ _ (blk_new wq (.cells #[.int .i64 ka, .int .i64 x.f2, .int .i64 x.f3, .slice A x.f0.length c, .slice B x.f1.length d, .int .i64 kb, .int .i64 y.f2, .int .i64 y.f3, .slice A2 y.f0.length c2, .slice B2 y.f1.length d2] 87 (0, 0))) (below_alloc HB0.out (.cells #[.int .i64 ka, .int .i64 x.f2, .int .i64 x.f3, .slice A x.f0.length c, .slice B x.f1.length d, .int .i64 kb, .int .i64 y.f2, .int .i64 y.f3, .slice A2 y.f0.length c2, .slice B2 y.f1.length d2] 87 (0, 0)))).mono ?_; rintro e_ wl ⟨rfl, hb⟩; have HBL := Aside0.mk (below_step (below_alloc HB0.out (.cells #[.int .i64 ka, .int .i64 x.f2, .int .i64 x.f3, .slice A x.f0.length c, .slice B x.f1.length d, .int .i64 kb, .int .i64 y.f2, .int .i64 y.f3, .slice A2 y.f0.length c2, .slice B2 y.f1.length d2] 87 (0, 0))) hb); have HQL := Aside0.mk (below_step (below_alloc (Below.refl wq.heap.size wq) (.cells #[.int .i64 ka, .int .i64 x.f2, .int .i64 x.f3, .slice A x.f0.length c, .slice B x.f1.length d, .int .i64 kb, .int .i64 y.f2, .int .i64 y.f3, .slice A2 y.f0.length c2, .slice B2 y.f1.length d2] 87 (0, 0))) hb); clear hb a0 a1 a2 a3 a4 b0 b1 b2 b3 b4) | (go_at_call 52; with_reducible refine (HNW.out _ HBL.out).mono ?_; rintro e_ wn ⟨g, wv, rfl, hlk⟩; have HL := Aside0.mk hlk; have HQN := Aside0.mk (below_step HQL.out hlk.below); clear hlk))
 have HXA := Aside0.mk (blk_below HBA.out HQN.out)
 have HXB := Aside0.mk (blk_below HBB.out HQN.out)
 clear HQL HQN HBA HBB HLT HNW HB0
 have HBN := Aside0.mk (below_step HBL.out HL.out.below)
 obtain ⟨wq, hwq⟩ : ∃ wq, wq = wn := ⟨_, rfl⟩
 rw [← hwq] at HXA HXB HL HBN ⊢
 clear hwq
 go_wp2
 refine start_ (n := 8) (S := fun w' => Below wq.heap.size wq w') (ds := []) #[false, false, false, false, false, false, false, false] (by kernel_rfl) rfl rfl (below_drew1 (Below.refl _ _)) (fun hHeld => ?_)
 generalize World.drew _ = wd0 at hHeld ⊢
 refine take_ (i := 0) (N := some 41) (v := ?_) (a' := ?_) #[true, false, false, false, false, false, false, false] rfl rfl (by kernel_rfl) (fun _ _ _ h => h) (Or.inl ⟨by rfl, ?_⟩) hHeld ?_ ?_
 rotate_left
 ·intro w' hs
  have m0 := blk_cell (blk_below HXA.out hs) 0
  have m1 := blk_cell (blk_below HXA.out hs) 1
  have m2 := blk_cell (blk_below HXA.out hs) 2
  have m3 := blk_cell (blk_below HXA.out hs) 3
  have m4 := blk_cell (blk_below HXA.out hs) 4
  simp only [List.getElem?_toArray, List.getElem?_cons_succ, List.getElem?_cons_zero] at m0 m1 m2 m3 m4
  go_simp
  with_reducible rfl
 rotate_left
 ·simp only [Act.put, List.setIfInBounds_toArray, List.set_cons_zero, List.set_cons_succ, i64_w, i32_w]
  rfl
 refine take_ (i := 2) (N := some 43) (v := ?_) (a' := ?_) #[true, false, true, false, false, false, false, false] rfl rfl (by kernel_rfl) (fun _ _ _ h => h) (Or.inl ⟨by rfl, ?_⟩) hHeld ?_ ?_
 rotate_left
 ·intro w' hs
  have m0 := blk_cell (blk_below HXB.out hs) 0
  have m1 := blk_cell (blk_below HXB.out hs) 1
  have m2 := blk_cell (blk_below HXB.out hs) 2
  have m3 := blk_cell (blk_below HXB.out hs) 3
  have m4 := blk_cell (blk_below HXB.out hs) 4
  simp only [List.getElem?_toArray, List.getElem?_cons_succ, List.getElem?_cons_zero] at m0 m1 m2 m3 m4
  go_simp
  with_reducible rfl
 rotate_left
 ·simp only [Act.put, List.setIfInBounds_toArray, List.set_cons_zero, List.set_cons_succ, i64_w, i32_w]
  rfl
 have HQ0 := Aside0.mk hHeld
 clear hHeld
 apply cut3 (F := FD wq)
 ·intro HKK
  refine wpAnyLast_ready (rs := [1, 4, 5]) (by kernel_rfl) (by simp) (AllReadyL.cons rfl (by simp) (fun K hK => ?_) (AllReadyL.cons rfl (by simp) (fun K hK => ?_) (AllReadyL.cons rfl (by simp) (fun K hK => ?_) AllReadyL.nil)))
  ·refine goes_ Try.func54 (by kernel_rfl) rfl #[.agg #[.int .i64 ka, .int .i64 x.f2, .int .i64 x.f3, .slice A x.f0.length c, .slice B x.f1.length d]] (by rfl) rfl rfl (by simp only [List.map_toArray, List.map_cons, List.map_nil]; first | rfl | (go_simp; done)) ?_
   with_reducible refine (mine_calls ka x A c B d _).mono ?_
   rintro e_ wd1 ⟨rfl, hb⟩
   refine ⟨_, rfl, ?_⟩
   have HQ1 := Aside0.mk (below_step HQ0.out hb)
   clear hb
   refine hK.out _ _ HQ1.out (fun hHeld => ?_)
   clear hK K hHeld
   refine norm_ (a' := ?_) ?_ ?_
   rotate_left
   ·show Act.put _ (some 42) _ = _
    simp only [Act.put, List.setIfInBounds_toArray, List.set_cons_zero, List.set_cons_succ, i64_w, i32_w]
    rfl
   refine wpAnyLast_ready (rs := [3, 4, 5]) (by kernel_rfl) (by simp) (AllReadyL.cons rfl (by simp) (fun K hK => ?_) (AllReadyL.cons rfl (by simp) (fun K hK => ?_) (AllReadyL.cons rfl (by simp) (fun K hK => ?_) AllReadyL.nil)))
   ·refine goes_ Try.func54 (by kernel_rfl) rfl #[.agg #[.int .i64 kb, .int .i64 y.f2, .int .i64 y.f3, .slice A2 y.f0.length c2, .slice B2 y.f1.length d2]] (by rfl) rfl rfl (by simp only [List.map_toArray, List.map_cons, List.map_nil]; first | rfl | (go_simp; done)) ?_
    with_reducible refine (mine_calls kb y A2 c2 B2 d2 _).mono ?_
    rintro e_ wd2 ⟨rfl, hb⟩
    refine ⟨_, rfl, ?_⟩
    have HQ2 := Aside0.mk (below_step HQ1.out hb)
    clear hb
    refine hK.out _ _ HQ2.out (fun hHeld => ?_)
    clear hK K hHeld
    refine norm_ (a' := ?_) ?_ ?_
    rotate_left
    ·show Act.put _ (some 44) _ = _
     simp only [Act.put, List.setIfInBounds_toArray, List.set_cons_zero, List.set_cons_succ, i64_w, i32_w]
     rfl
    refine wpAnyLast_ready (rs := [4, 5]) (by kernel_rfl) (by simp) (AllReadyL.cons rfl (by simp) (fun K hK => ?_) (AllReadyL.cons rfl (by simp) (fun K hK => ?_) AllReadyL.nil))
    ·refine value_ (w1 := ?_) (v := ?_) (by rfl) rfl ?_ ?_
     rotate_left 2
     ·go_simp
      constructor
      ·rfl
      ·rfl
     have HQ3 := Aside0.mk (below_alloc HQ2.out (.cells #[.slice none 0 0, .slice none 0 0, .int .i64 0, .int .i64 0] 94 (0, 0)))
     have Z8 := Aside0.mk (blk_new wd2 (.cells #[.slice none 0 0, .slice none 0 0, .int .i64 0, .int .i64 0] 94 (0, 0)))
     have G8 := Aside0.mk (show wq.heap.size ≤ wd2.heap.size from below_size HQ2.out)
     refine hK.out _ _ HQ3.out (fun hHeld => ?_)
     clear hK K hHeld
     refine norm_ (a' := ?_) ?_ ?_
     rotate_left
     ·show Act.put _ (some 8) _ = _
      simp only [Act.put, List.setIfInBounds_toArray, List.set_cons_zero, List.set_cons_succ, i64_w, i32_w]
      rfl
     generalize wd2.heap.size = g8 at Z8 G8 ⊢
     generalize wd2.alloc (.cells #[.slice none 0 0, .slice none 0 0, .int .i64 0, .int .i64 0] 94 (0, 0)) = wd3 at Z8 HQ3 ⊢
     refine one_ (i := 5) (N := some 9) #[true, true, true, true, true, true, false, false] rfl rfl (by kernel_rfl) (by decide) (fun K hK => ?_)
     refine value_ (w1 := ?_) (v := ?_) (by rfl) rfl ?_ ?_
     rotate_left 2
     ·go_simp
      constructor
      ·rfl
      ·rfl
     have HQ4 := Aside0.mk (below_alloc HQ3.out (.cells #[.slice none 0 0, .slice none 0 0, .int .i64 0, .int .i64 0] 94 (0, 0)))
     have Z9 := Aside0.mk (blk_new wd3 (.cells #[.slice none 0 0, .slice none 0 0, .int .i64 0, .int .i64 0] 94 (0, 0)))
     have G9 := Aside0.mk (show wq.heap.size ≤ wd3.heap.size from below_size HQ3.out)
     have NE := Aside0.mk (show g8 < wd3.heap.size from blk_lt Z8.out)
     replace Z8 := Aside0.mk (blk_alloc Z8.out (.cells #[.slice none 0 0, .slice none 0 0, .int .i64 0, .int .i64 0] 94 (0, 0)))
     refine hK.out _ _ HQ4.out (fun hHeld => ?_)
     clear hK K hHeld
     refine norm_ (a' := ?_) ?_ ?_
     rotate_left
     ·show Act.put _ (some 9) _ = _
      simp only [Act.put, List.setIfInBounds_toArray, List.set_cons_zero, List.set_cons_succ, i64_w, i32_w]
      rfl
     generalize wd3.heap.size = g9 at Z9 G9 NE ⊢
     generalize wd3.alloc (.cells #[.slice none 0 0, .slice none 0 0, .int .i64 0, .int .i64 0] 94 (0, 0)) = wd4 at Z9 HQ4 Z8 ⊢
     exact HKK _ _ _ ⟨Z8.out, Z9.out, fun e => by have := NE.out; omega, G8.out, G9.out, HQ4.out⟩
    ·refine value_ (w1 := ?_) (v := ?_) (by rfl) rfl ?_ ?_
     rotate_left 2
     ·go_simp
      constructor
      ·rfl
      ·rfl
     have HQ3 := Aside0.mk (below_alloc HQ2.out (.cells #[.slice none 0 0, .slice none 0 0, .int .i64 0, .int .i64 0] 94 (0, 0)))
     have Z9 := Aside0.mk (blk_new wd2 (.cells #[.slice none 0 0, .slice none 0 0, .int .i64 0, .int .i64 0] 94 (0, 0)))
     have G9 := Aside0.mk (show wq.heap.size ≤ wd2.heap.size from below_size HQ2.out)
     refine hK.out _ _ HQ3.out (fun hHeld => ?_)
     clear hK K hHeld
     refine norm_ (a' := ?_) ?_ ?_
     rotate_left
     ·show Act.put _ (some 9) _ = _
      simp only [Act.put, List.setIfInBounds_toArray, List.set_cons_zero, List.set_cons_succ, i64_w, i32_w]
      rfl
     generalize wd2.heap.size = g9 at Z9 G9 ⊢
     generalize wd2.alloc (.cells #[.slice none 0 0, .slice none 0 0, .int .i64 0, .int .i64 0] 94 (0, 0)) = wd3 at Z9 HQ3 ⊢
     refine one_ (i := 4) (N := some 8) #[true, true, true, true, true, true, false, false] rfl rfl (by kernel_rfl) (by decide) (fun K hK => ?_)
     refine value_ (w1 := ?_) (v := ?_) (by rfl) rfl ?_ ?_
     rotate_left 2
     ·go_simp
      constructor
      ·rfl
      ·rfl
     have HQ4 := Aside0.mk (below_alloc HQ3.out (.cells #[.slice none 0 0, .slice none 0 0, .int .i64 0, .int .i64 0] 94 (0, 0)))
     have Z8 := Aside0.mk (blk_new wd3 (.cells #[.slice none 0 0, .slice none 0 0, .int .i64 0, .int .i64 0] 94 (0, 0)))
     have G8 := Aside0.mk (show wq.heap.size ≤ wd3.heap.size from below_size HQ3.out)
     have NE := Aside0.mk (show g9 < wd3.heap.size from blk_lt Z9.out)
     replace Z9 := Aside0.mk (blk_alloc Z9.out (.cells #[.slice none 0 0, .slice none 0 0, .int .i64 0, .int .i64 0] 94 (0, 0)))
     refine hK.out _ _ HQ4.out (fun hHeld => ?_)
     clear hK K hHeld
     refine norm_ (a' := ?_) ?_ ?_
     rotate_left
     ·show Act.put _ (some 8) _ = _
      simp only [Act.put, List.setIfInBounds_toArray, List.set_cons_zero, List.set_cons_succ, i64_w, i32_w]
      rfl
     generalize wd3.heap.size = g8 at Z8 G8 NE ⊢
     generalize wd3.alloc (.cells #[.slice none 0 0, .slice none 0 0, .int .i64 0, .int .i64 0] 94 (0, 0)) = wd4 at Z8 HQ4 Z9 ⊢
     exact HKK _ _ _ ⟨Z8.out, Z9.out, fun e => by have := NE.out; omega, G8.out, G9.out, HQ4.out⟩
   ·refine value_ (w1 := ?_) (v := ?_) (by rfl) rfl ?_ ?_
    rotate_left 2
    ·go_simp
     constructor
     ·rfl
     ·rfl
    have HQ2 := Aside0.mk (below_alloc HQ1.out (.cells #[.slice none 0 0, .slice none 0 0, .int .i64 0, .int .i64 0] 94 (0, 0)))
    have Z8 := Aside0.mk (blk_new wd1 (.cells #[.slice none 0 0, .slice none 0 0, .int .i64 0, .int .i64 0] 94 (0, 0)))
    have G8 := Aside0.mk (show wq.heap.size ≤ wd1.heap.size from below_size HQ1.out)
    refine hK.out _ _ HQ2.out (fun hHeld => ?_)
    clear hK K hHeld
    refine norm_ (a' := ?_) ?_ ?_
    rotate_left
    ·show Act.put _ (some 8) _ = _
     simp only [Act.put, List.setIfInBounds_toArray, List.set_cons_zero, List.set_cons_succ, i64_w, i32_w]
     rfl
    generalize wd1.heap.size = g8 at Z8 G8 ⊢
    generalize wd1.alloc (.cells #[.slice none 0 0, .slice none 0 0, .int .i64 0, .int .i64 0] 94 (0, 0)) = wd2 at Z8 HQ2 ⊢
    refine wpAnyLast_ready (rs := [3, 5]) (by kernel_rfl) (by simp) (AllReadyL.cons rfl (by simp) (fun K hK => ?_) (AllReadyL.cons rfl (by simp) (fun K hK => ?_) AllReadyL.nil))
    ·refine goes_ Try.func54 (by kernel_rfl) rfl #[.agg #[.int .i64 kb, .int .i64 y.f2, .int .i64 y.f3, .slice A2 y.f0.length c2, .slice B2 y.f1.length d2]] (by rfl) rfl rfl (by simp only [List.map_toArray, List.map_cons, List.map_nil]; first | rfl | (go_simp; done)) ?_
     with_reducible refine (mine_calls kb y A2 c2 B2 d2 _).mono ?_
     rintro e_ wd3 ⟨rfl, hb⟩
     refine ⟨_, rfl, ?_⟩
     have HQ3 := Aside0.mk (below_step HQ2.out hb)
     replace Z8 := Aside0.mk (blk_below Z8.out hb)
     clear hb
     refine hK.out _ _ HQ3.out (fun hHeld => ?_)
     clear hK K hHeld
     refine norm_ (a' := ?_) ?_ ?_
     rotate_left
     ·show Act.put _ (some 44) _ = _
      simp only [Act.put, List.setIfInBounds_toArray, List.set_cons_zero, List.set_cons_succ, i64_w, i32_w]
      rfl
     refine one_ (i := 5) (N := some 9) #[true, true, true, true, true, true, false, false] rfl rfl (by kernel_rfl) (by decide) (fun K hK => ?_)
     refine value_ (w1 := ?_) (v := ?_) (by rfl) rfl ?_ ?_
     rotate_left 2
     ·go_simp
      constructor
      ·rfl
      ·rfl
     have HQ4 := Aside0.mk (below_alloc HQ3.out (.cells #[.slice none 0 0, .slice none 0 0, .int .i64 0, .int .i64 0] 94 (0, 0)))
     have Z9 := Aside0.mk (blk_new wd3 (.cells #[.slice none 0 0, .slice none 0 0, .int .i64 0, .int .i64 0] 94 (0, 0)))
     have G9 := Aside0.mk (show wq.heap.size ≤ wd3.heap.size from below_size HQ3.out)
     have NE := Aside0.mk (show g8 < wd3.heap.size from blk_lt Z8.out)
     replace Z8 := Aside0.mk (blk_alloc Z8.out (.cells #[.slice none 0 0, .slice none 0 0, .int .i64 0, .int .i64 0] 94 (0, 0)))
     refine hK.out _ _ HQ4.out (fun hHeld => ?_)
     clear hK K hHeld
     refine norm_ (a' := ?_) ?_ ?_
     rotate_left
     ·show Act.put _ (some 9) _ = _
      simp only [Act.put, List.setIfInBounds_toArray, List.set_cons_zero, List.set_cons_succ, i64_w, i32_w]
      rfl
     generalize wd3.heap.size = g9 at Z9 G9 NE ⊢
     generalize wd3.alloc (.cells #[.slice none 0 0, .slice none 0 0, .int .i64 0, .int .i64 0] 94 (0, 0)) = wd4 at Z9 HQ4 Z8 ⊢
     exact HKK _ _ _ ⟨Z8.out, Z9.out, fun e => by have := NE.out; omega, G8.out, G9.out, HQ4.out⟩
    ·refine value_ (w1 := ?_) (v := ?_) (by rfl) rfl ?_ ?_
     rotate_left 2
     ·go_simp
      constructor
      ·rfl
      ·rfl
     have HQ3 := Aside0.mk (below_alloc HQ2.out (.cells #[.slice none 0 0, .slice none 0 0, .int .i64 0, .int .i64 0] 94 (0, 0)))
     have Z9 := Aside0.mk (blk_new wd2 (.cells #[.slice none 0 0, .slice none 0 0, .int .i64 0, .int .i64 0] 94 (0, 0)))
     have G9 := Aside0.mk (show wq.heap.size ≤ wd2.heap.size from below_size HQ2.out)
     have NE := Aside0.mk (show g8 < wd2.heap.size from blk_lt Z8.out)
     replace Z8 := Aside0.mk (blk_alloc Z8.out (.cells #[.slice none 0 0, .slice none 0 0, .int .i64 0, .int .i64 0] 94 (0, 0)))
     refine hK.out _ _ HQ3.out (fun hHeld => ?_)
     clear hK K hHeld
     refine norm_ (a' := ?_) ?_ ?_
     rotate_left
     ·show Act.put _ (some 9) _ = _
      simp only [Act.put, List.setIfInBounds_toArray, List.set_cons_zero, List.set_cons_succ, i64_w, i32_w]
      rfl
     generalize wd2.heap.size = g9 at Z9 G9 NE ⊢
     generalize wd2.alloc (.cells #[.slice none 0 0, .slice none 0 0, .int .i64 0, .int .i64 0] 94 (0, 0)) = wd3 at Z9 HQ3 Z8 ⊢
     refine one_ (i := 3) (N := some 44) #[true, true, true, true, true, true, false, false] rfl rfl (by kernel_rfl) (by decide) (fun K hK => ?_)
     refine goes_ Try.func54 (by kernel_rfl) rfl #[.agg #[.int .i64 kb, .int .i64 y.f2, .int .i64 y.f3, .slice A2 y.f0.length c2, .slice B2 y.f1.length d2]] (by rfl) rfl rfl (by simp only [List.map_toArray, List.map_cons, List.map_nil]; first | rfl | (go_simp; done)) ?_
     with_reducible refine (mine_calls kb y A2 c2 B2 d2 _).mono ?_
     rintro e_ wd4 ⟨rfl, hb⟩
     refine ⟨_, rfl, ?_⟩
     have HQ4 := Aside0.mk (below_step HQ3.out hb)
     replace Z8 := Aside0.mk (blk_below Z8.out hb)
     replace Z9 := Aside0.mk (blk_below Z9.out hb)
     clear hb
     refine hK.out _ _ HQ4.out (fun hHeld => ?_)
     clear hK K hHeld
     refine norm_ (a' := ?_) ?_ ?_
     rotate_left
     ·show Act.put _ (some 44) _ = _
      simp only [Act.put, List.setIfInBounds_toArray, List.set_cons_zero, List.set_cons_succ, i64_w, i32_w]
      rfl
     exact HKK _ _ _ ⟨Z8.out, Z9.out, fun e => by have := NE.out; omega, G8.out, G9.out, HQ4.out⟩
   ·refine value_ (w1 := ?_) (v := ?_) (by rfl) rfl ?_ ?_
    rotate_left 2
    ·go_simp
     constructor
     ·rfl
     ·rfl
    have HQ2 := Aside0.mk (below_alloc HQ1.out (.cells #[.slice none 0 0, .slice none 0 0, .int .i64 0, .int .i64 0] 94 (0, 0)))
    have Z9 := Aside0.mk (blk_new wd1 (.cells #[.slice none 0 0, .slice none 0 0, .int .i64 0, .int .i64 0] 94 (0, 0)))
    have G9 := Aside0.mk (show wq.heap.size ≤ wd1.heap.size from below_size HQ1.out)
    refine hK.out _ _ HQ2.out (fun hHeld => ?_)
    clear hK K hHeld
    refine norm_ (a' := ?_) ?_ ?_
    rotate_left
    ·show Act.put _ (some 9) _ = _
     simp only [Act.put, List.setIfInBounds_toArray, List.set_cons_zero, List.set_cons_succ, i64_w, i32_w]
     rfl
    generalize wd1.heap.size = g9 at Z9 G9 ⊢
    generalize wd1.alloc (.cells #[.slice none 0 0, .slice none 0 0, .int .i64 0, .int .i64 0] 94 (0, 0)) = wd2 at Z9 HQ2 ⊢
    refine wpAnyLast_ready (rs := [3, 4]) (by kernel_rfl) (by simp) (AllReadyL.cons rfl (by simp) (fun K hK => ?_) (AllReadyL.cons rfl (by simp) (fun K hK => ?_) AllReadyL.nil))
    ·refine goes_ Try.func54 (by kernel_rfl) rfl #[.agg #[.int .i64 kb, .int .i64 y.f2, .int .i64 y.f3, .slice A2 y.f0.length c2, .slice B2 y.f1.length d2]] (by rfl) rfl rfl (by simp only [List.map_toArray, List.map_cons, List.map_nil]; first | rfl | (go_simp; done)) ?_
     with_reducible refine (mine_calls kb y A2 c2 B2 d2 _).mono ?_
     rintro e_ wd3 ⟨rfl, hb⟩
     refine ⟨_, rfl, ?_⟩
     have HQ3 := Aside0.mk (below_step HQ2.out hb)
     replace Z9 := Aside0.mk (blk_below Z9.out hb)
     clear hb
     refine hK.out _ _ HQ3.out (fun hHeld => ?_)
     clear hK K hHeld
     refine norm_ (a' := ?_) ?_ ?_
     rotate_left
     ·show Act.put _ (some 44) _ = _
      simp only [Act.put, List.setIfInBounds_toArray, List.set_cons_zero, List.set_cons_succ, i64_w, i32_w]
      rfl
     refine one_ (i := 4) (N := some 8) #[true, true, true, true, true, true, false, false] rfl rfl (by kernel_rfl) (by decide) (fun K hK => ?_)
     refine value_ (w1 := ?_) (v := ?_) (by rfl) rfl ?_ ?_
     rotate_left 2
     ·go_simp
      constructor
      ·rfl
      ·rfl
     have HQ4 := Aside0.mk (below_alloc HQ3.out (.cells #[.slice none 0 0, .slice none 0 0, .int .i64 0, .int .i64 0] 94 (0, 0)))
     have Z8 := Aside0.mk (blk_new wd3 (.cells #[.slice none 0 0, .slice none 0 0, .int .i64 0, .int .i64 0] 94 (0, 0)))
     have G8 := Aside0.mk (show wq.heap.size ≤ wd3.heap.size from below_size HQ3.out)
     have NE := Aside0.mk (show g9 < wd3.heap.size from blk_lt Z9.out)
     replace Z9 := Aside0.mk (blk_alloc Z9.out (.cells #[.slice none 0 0, .slice none 0 0, .int .i64 0, .int .i64 0] 94 (0, 0)))
     refine hK.out _ _ HQ4.out (fun hHeld => ?_)
     clear hK K hHeld
     refine norm_ (a' := ?_) ?_ ?_
     rotate_left
     ·show Act.put _ (some 8) _ = _
      simp only [Act.put, List.setIfInBounds_toArray, List.set_cons_zero, List.set_cons_succ, i64_w, i32_w]
      rfl
     generalize wd3.heap.size = g8 at Z8 G8 NE ⊢
     generalize wd3.alloc (.cells #[.slice none 0 0, .slice none 0 0, .int .i64 0, .int .i64 0] 94 (0, 0)) = wd4 at Z8 HQ4 Z9 ⊢
     exact HKK _ _ _ ⟨Z8.out, Z9.out, fun e => by have := NE.out; omega, G8.out, G9.out, HQ4.out⟩
    ·refine value_ (w1 := ?_) (v := ?_) (by rfl) rfl ?_ ?_
     rotate_left 2
     ·go_simp
      constructor
      ·rfl
      ·rfl
     have HQ3 := Aside0.mk (below_alloc HQ2.out (.cells #[.slice none 0 0, .slice none 0 0, .int .i64 0, .int .i64 0] 94 (0, 0)))
     have Z8 := Aside0.mk (blk_new wd2 (.cells #[.slice none 0 0, .slice none 0 0, .int .i64 0, .int .i64 0] 94 (0, 0)))
     have G8 := Aside0.mk (show wq.heap.size ≤ wd2.heap.size from below_size HQ2.out)
     have NE := Aside0.mk (show g9 < wd2.heap.size from blk_lt Z9.out)
     replace Z9 := Aside0.mk (blk_alloc Z9.out (.cells #[.slice none 0 0, .slice none 0 0, .int .i64 0, .int .i64 0] 94 (0, 0)))
     refine hK.out _ _ HQ3.out (fun hHeld => ?_)
     clear hK K hHeld
     refine norm_ (a' := ?_) ?_ ?_
     rotate_left
     ·show Act.put _ (some 8) _ = _
      simp only [Act.put, List.setIfInBounds_toArray, List.set_cons_zero, List.set_cons_succ, i64_w, i32_w]
      rfl
     generalize wd2.heap.size = g8 at Z8 G8 NE ⊢
     generalize wd2.alloc (.cells #[.slice none 0 0, .slice none 0 0, .int .i64 0, .int .i64 0] 94 (0, 0)) = wd3 at Z8 HQ3 Z9 ⊢
     refine one_ (i := 3) (N := some 44) #[true, true, true, true, true, true, false, false] rfl rfl (by kernel_rfl) (by decide) (fun K hK => ?_)
     refine goes_ Try.func54 (by kernel_rfl) rfl #[.agg #[.int .i64 kb, .int .i64 y.f2, .int .i64 y.f3, .slice A2 y.f0.length c2, .slice B2 y.f1.length d2]] (by rfl) rfl rfl (by simp only [List.map_toArray, List.map_cons, List.map_nil]; first | rfl | (go_simp; done)) ?_
     with_reducible refine (mine_calls kb y A2 c2 B2 d2 _).mono ?_
     rintro e_ wd4 ⟨rfl, hb⟩
     refine ⟨_, rfl, ?_⟩
     have HQ4 := Aside0.mk (below_step HQ3.out hb)
     replace Z9 := Aside0.mk (blk_below Z9.out hb)
     replace Z8 := Aside0.mk (blk_below Z8.out hb)
     clear hb
     refine hK.out _ _ HQ4.out (fun hHeld => ?_)
     clear hK K hHeld
     refine norm_ (a' := ?_) ?_ ?_
     rotate_left
     ·show Act.put _ (some 44) _ = _
      simp only [Act.put, List.setIfInBounds_toArray, List.set_cons_zero, List.set_cons_succ, i64_w, i32_w]
      rfl
     exact HKK _ _ _ ⟨Z8.out, Z9.out, fun e => by have := NE.out; omega, G8.out, G9.out, HQ4.out⟩
  ·refine value_ (w1 := ?_) (v := ?_) (by rfl) rfl ?_ ?_
   rotate_left 2
   ·go_simp
    constructor
    ·rfl
    ·rfl
   have HQ1 := Aside0.mk (below_alloc HQ0.out (.cells #[.slice none 0 0, .slice none 0 0, .int .i64 0, .int .i64 0] 94 (0, 0)))
   have Z8 := Aside0.mk (blk_new wd0 (.cells #[.slice none 0 0, .slice none 0 0, .int .i64 0, .int .i64 0] 94 (0, 0)))
   have G8 := Aside0.mk (show wq.heap.size ≤ wd0.heap.size from below_size HQ0.out)
   refine hK.out _ _ HQ1.out (fun hHeld => ?_)
   clear hK K hHeld
   refine norm_ (a' := ?_) ?_ ?_
   rotate_left
   ·show Act.put _ (some 8) _ = _
    simp only [Act.put, List.setIfInBounds_toArray, List.set_cons_zero, List.set_cons_succ, i64_w, i32_w]
    rfl
   generalize wd0.heap.size = g8 at Z8 G8 ⊢
   generalize wd0.alloc (.cells #[.slice none 0 0, .slice none 0 0, .int .i64 0, .int .i64 0] 94 (0, 0)) = wd1 at Z8 HQ1 ⊢
   refine wpAnyLast_ready (rs := [1, 5]) (by kernel_rfl) (by simp) (AllReadyL.cons rfl (by simp) (fun K hK => ?_) (AllReadyL.cons rfl (by simp) (fun K hK => ?_) AllReadyL.nil))
   ·refine goes_ Try.func54 (by kernel_rfl) rfl #[.agg #[.int .i64 ka, .int .i64 x.f2, .int .i64 x.f3, .slice A x.f0.length c, .slice B x.f1.length d]] (by rfl) rfl rfl (by simp only [List.map_toArray, List.map_cons, List.map_nil]; first | rfl | (go_simp; done)) ?_
    with_reducible refine (mine_calls ka x A c B d _).mono ?_
    rintro e_ wd2 ⟨rfl, hb⟩
    refine ⟨_, rfl, ?_⟩
    have HQ2 := Aside0.mk (below_step HQ1.out hb)
    replace Z8 := Aside0.mk (blk_below Z8.out hb)
    clear hb
    refine hK.out _ _ HQ2.out (fun hHeld => ?_)
    clear hK K hHeld
    refine norm_ (a' := ?_) ?_ ?_
    rotate_left
    ·show Act.put _ (some 42) _ = _
     simp only [Act.put, List.setIfInBounds_toArray, List.set_cons_zero, List.set_cons_succ, i64_w, i32_w]
     rfl
    refine wpAnyLast_ready (rs := [3, 5]) (by kernel_rfl) (by simp) (AllReadyL.cons rfl (by simp) (fun K hK => ?_) (AllReadyL.cons rfl (by simp) (fun K hK => ?_) AllReadyL.nil))
    ·refine goes_ Try.func54 (by kernel_rfl) rfl #[.agg #[.int .i64 kb, .int .i64 y.f2, .int .i64 y.f3, .slice A2 y.f0.length c2, .slice B2 y.f1.length d2]] (by rfl) rfl rfl (by simp only [List.map_toArray, List.map_cons, List.map_nil]; first | rfl | (go_simp; done)) ?_
     with_reducible refine (mine_calls kb y A2 c2 B2 d2 _).mono ?_
     rintro e_ wd3 ⟨rfl, hb⟩
     refine ⟨_, rfl, ?_⟩
     have HQ3 := Aside0.mk (below_step HQ2.out hb)
     replace Z8 := Aside0.mk (blk_below Z8.out hb)
     clear hb
     refine hK.out _ _ HQ3.out (fun hHeld => ?_)
     clear hK K hHeld
     refine norm_ (a' := ?_) ?_ ?_
     rotate_left
     ·show Act.put _ (some 44) _ = _
      simp only [Act.put, List.setIfInBounds_toArray, List.set_cons_zero, List.set_cons_succ, i64_w, i32_w]
      rfl
     refine one_ (i := 5) (N := some 9) #[true, true, true, true, true, true, false, false] rfl rfl (by kernel_rfl) (by decide) (fun K hK => ?_)
     refine value_ (w1 := ?_) (v := ?_) (by rfl) rfl ?_ ?_
     rotate_left 2
     ·go_simp
      constructor
      ·rfl
      ·rfl
     have HQ4 := Aside0.mk (below_alloc HQ3.out (.cells #[.slice none 0 0, .slice none 0 0, .int .i64 0, .int .i64 0] 94 (0, 0)))
     have Z9 := Aside0.mk (blk_new wd3 (.cells #[.slice none 0 0, .slice none 0 0, .int .i64 0, .int .i64 0] 94 (0, 0)))
     have G9 := Aside0.mk (show wq.heap.size ≤ wd3.heap.size from below_size HQ3.out)
     have NE := Aside0.mk (show g8 < wd3.heap.size from blk_lt Z8.out)
     replace Z8 := Aside0.mk (blk_alloc Z8.out (.cells #[.slice none 0 0, .slice none 0 0, .int .i64 0, .int .i64 0] 94 (0, 0)))
     refine hK.out _ _ HQ4.out (fun hHeld => ?_)
     clear hK K hHeld
     refine norm_ (a' := ?_) ?_ ?_
     rotate_left
     ·show Act.put _ (some 9) _ = _
      simp only [Act.put, List.setIfInBounds_toArray, List.set_cons_zero, List.set_cons_succ, i64_w, i32_w]
      rfl
     generalize wd3.heap.size = g9 at Z9 G9 NE ⊢
     generalize wd3.alloc (.cells #[.slice none 0 0, .slice none 0 0, .int .i64 0, .int .i64 0] 94 (0, 0)) = wd4 at Z9 HQ4 Z8 ⊢
     exact HKK _ _ _ ⟨Z8.out, Z9.out, fun e => by have := NE.out; omega, G8.out, G9.out, HQ4.out⟩
    ·refine value_ (w1 := ?_) (v := ?_) (by rfl) rfl ?_ ?_
     rotate_left 2
     ·go_simp
      constructor
      ·rfl
      ·rfl
     have HQ3 := Aside0.mk (below_alloc HQ2.out (.cells #[.slice none 0 0, .slice none 0 0, .int .i64 0, .int .i64 0] 94 (0, 0)))
     have Z9 := Aside0.mk (blk_new wd2 (.cells #[.slice none 0 0, .slice none 0 0, .int .i64 0, .int .i64 0] 94 (0, 0)))
     have G9 := Aside0.mk (show wq.heap.size ≤ wd2.heap.size from below_size HQ2.out)
     have NE := Aside0.mk (show g8 < wd2.heap.size from blk_lt Z8.out)
     replace Z8 := Aside0.mk (blk_alloc Z8.out (.cells #[.slice none 0 0, .slice none 0 0, .int .i64 0, .int .i64 0] 94 (0, 0)))
     refine hK.out _ _ HQ3.out (fun hHeld => ?_)
     clear hK K hHeld
     refine norm_ (a' := ?_) ?_ ?_
     rotate_left
     ·show Act.put _ (some 9) _ = _
      simp only [Act.put, List.setIfInBounds_toArray, List.set_cons_zero, List.set_cons_succ, i64_w, i32_w]
      rfl
     generalize wd2.heap.size = g9 at Z9 G9 NE ⊢
     generalize wd2.alloc (.cells #[.slice none 0 0, .slice none 0 0, .int .i64 0, .int .i64 0] 94 (0, 0)) = wd3 at Z9 HQ3 Z8 ⊢
     refine one_ (i := 3) (N := some 44) #[true, true, true, true, true, true, false, false] rfl rfl (by kernel_rfl) (by decide) (fun K hK => ?_)
     refine goes_ Try.func54 (by kernel_rfl) rfl #[.agg #[.int .i64 kb, .int .i64 y.f2, .int .i64 y.f3, .slice A2 y.f0.length c2, .slice B2 y.f1.length d2]] (by rfl) rfl rfl (by simp only [List.map_toArray, List.map_cons, List.map_nil]; first | rfl | (go_simp; done)) ?_
     with_reducible refine (mine_calls kb y A2 c2 B2 d2 _).mono ?_
     rintro e_ wd4 ⟨rfl, hb⟩
     refine ⟨_, rfl, ?_⟩
     have HQ4 := Aside0.mk (below_step HQ3.out hb)
     replace Z8 := Aside0.mk (blk_below Z8.out hb)
     replace Z9 := Aside0.mk (blk_below Z9.out hb)
     clear hb
     refine hK.out _ _ HQ4.out (fun hHeld => ?_)
     clear hK K hHeld
     refine norm_ (a' := ?_) ?_ ?_
     rotate_left
     ·show Act.put _ (some 44) _ = _
      simp only [Act.put, List.setIfInBounds_toArray, List.set_cons_zero, List.set_cons_succ, i64_w, i32_w]
      rfl
     exact HKK _ _ _ ⟨Z8.out, Z9.out, fun e => by have := NE.out; omega, G8.out, G9.out, HQ4.out⟩
   ·refine value_ (w1 := ?_) (v := ?_) (by rfl) rfl ?_ ?_
    rotate_left 2
    ·go_simp
     constructor
     ·rfl
     ·rfl
    have HQ2 := Aside0.mk (below_alloc HQ1.out (.cells #[.slice none 0 0, .slice none 0 0, .int .i64 0, .int .i64 0] 94 (0, 0)))
    have Z9 := Aside0.mk (blk_new wd1 (.cells #[.slice none 0 0, .slice none 0 0, .int .i64 0, .int .i64 0] 94 (0, 0)))
    have G9 := Aside0.mk (show wq.heap.size ≤ wd1.heap.size from below_size HQ1.out)
    have NE := Aside0.mk (show g8 < wd1.heap.size from blk_lt Z8.out)
    replace Z8 := Aside0.mk (blk_alloc Z8.out (.cells #[.slice none 0 0, .slice none 0 0, .int .i64 0, .int .i64 0] 94 (0, 0)))
    refine hK.out _ _ HQ2.out (fun hHeld => ?_)
    clear hK K hHeld
    refine norm_ (a' := ?_) ?_ ?_
    rotate_left
    ·show Act.put _ (some 9) _ = _
     simp only [Act.put, List.setIfInBounds_toArray, List.set_cons_zero, List.set_cons_succ, i64_w, i32_w]
     rfl
    generalize wd1.heap.size = g9 at Z9 G9 NE ⊢
    generalize wd1.alloc (.cells #[.slice none 0 0, .slice none 0 0, .int .i64 0, .int .i64 0] 94 (0, 0)) = wd2 at Z9 HQ2 Z8 ⊢
    refine one_ (i := 1) (N := some 42) #[true, true, true, false, true, true, false, false] rfl rfl (by kernel_rfl) (by decide) (fun K hK => ?_)
    refine goes_ Try.func54 (by kernel_rfl) rfl #[.agg #[.int .i64 ka, .int .i64 x.f2, .int .i64 x.f3, .slice A x.f0.length c, .slice B x.f1.length d]] (by rfl) rfl rfl (by simp only [List.map_toArray, List.map_cons, List.map_nil]; first | rfl | (go_simp; done)) ?_
    with_reducible refine (mine_calls ka x A c B d _).mono ?_
    rintro e_ wd3 ⟨rfl, hb⟩
    refine ⟨_, rfl, ?_⟩
    have HQ3 := Aside0.mk (below_step HQ2.out hb)
    replace Z8 := Aside0.mk (blk_below Z8.out hb)
    replace Z9 := Aside0.mk (blk_below Z9.out hb)
    clear hb
    refine hK.out _ _ HQ3.out (fun hHeld => ?_)
    clear hK K hHeld
    refine norm_ (a' := ?_) ?_ ?_
    rotate_left
    ·show Act.put _ (some 42) _ = _
     simp only [Act.put, List.setIfInBounds_toArray, List.set_cons_zero, List.set_cons_succ, i64_w, i32_w]
     rfl
    refine one_ (i := 3) (N := some 44) #[true, true, true, true, true, true, false, false] rfl rfl (by kernel_rfl) (by decide) (fun K hK => ?_)
    refine goes_ Try.func54 (by kernel_rfl) rfl #[.agg #[.int .i64 kb, .int .i64 y.f2, .int .i64 y.f3, .slice A2 y.f0.length c2, .slice B2 y.f1.length d2]] (by rfl) rfl rfl (by simp only [List.map_toArray, List.map_cons, List.map_nil]; first | rfl | (go_simp; done)) ?_
    with_reducible refine (mine_calls kb y A2 c2 B2 d2 _).mono ?_
    rintro e_ wd4 ⟨rfl, hb⟩
    refine ⟨_, rfl, ?_⟩
    have HQ4 := Aside0.mk (below_step HQ3.out hb)
    replace Z8 := Aside0.mk (blk_below Z8.out hb)
    replace Z9 := Aside0.mk (blk_below Z9.out hb)
    clear hb
    refine hK.out _ _ HQ4.out (fun hHeld => ?_)
    clear hK K hHeld
    refine norm_ (a' := ?_) ?_ ?_
    rotate_left
    ·show Act.put _ (some 44) _ = _
     simp only [Act.put, List.setIfInBounds_toArray, List.set_cons_zero, List.set_cons_succ, i64_w, i32_w]
     rfl
    exact HKK _ _ _ ⟨Z8.out, Z9.out, fun e => by have := NE.out; omega, G8.out, G9.out, HQ4.out⟩
  ·refine value_ (w1 := ?_) (v := ?_) (by rfl) rfl ?_ ?_
   rotate_left 2
   ·go_simp
    constructor
    ·rfl
    ·rfl
   have HQ1 := Aside0.mk (below_alloc HQ0.out (.cells #[.slice none 0 0, .slice none 0 0, .int .i64 0, .int .i64 0] 94 (0, 0)))
   have Z9 := Aside0.mk (blk_new wd0 (.cells #[.slice none 0 0, .slice none 0 0, .int .i64 0, .int .i64 0] 94 (0, 0)))
   have G9 := Aside0.mk (show wq.heap.size ≤ wd0.heap.size from below_size HQ0.out)
   refine hK.out _ _ HQ1.out (fun hHeld => ?_)
   clear hK K hHeld
   refine norm_ (a' := ?_) ?_ ?_
   rotate_left
   ·show Act.put _ (some 9) _ = _
    simp only [Act.put, List.setIfInBounds_toArray, List.set_cons_zero, List.set_cons_succ, i64_w, i32_w]
    rfl
   generalize wd0.heap.size = g9 at Z9 G9 ⊢
   generalize wd0.alloc (.cells #[.slice none 0 0, .slice none 0 0, .int .i64 0, .int .i64 0] 94 (0, 0)) = wd1 at Z9 HQ1 ⊢
   refine wpAnyLast_ready (rs := [1, 4]) (by kernel_rfl) (by simp) (AllReadyL.cons rfl (by simp) (fun K hK => ?_) (AllReadyL.cons rfl (by simp) (fun K hK => ?_) AllReadyL.nil))
   ·refine goes_ Try.func54 (by kernel_rfl) rfl #[.agg #[.int .i64 ka, .int .i64 x.f2, .int .i64 x.f3, .slice A x.f0.length c, .slice B x.f1.length d]] (by rfl) rfl rfl (by simp only [List.map_toArray, List.map_cons, List.map_nil]; first | rfl | (go_simp; done)) ?_
    with_reducible refine (mine_calls ka x A c B d _).mono ?_
    rintro e_ wd2 ⟨rfl, hb⟩
    refine ⟨_, rfl, ?_⟩
    have HQ2 := Aside0.mk (below_step HQ1.out hb)
    replace Z9 := Aside0.mk (blk_below Z9.out hb)
    clear hb
    refine hK.out _ _ HQ2.out (fun hHeld => ?_)
    clear hK K hHeld
    refine norm_ (a' := ?_) ?_ ?_
    rotate_left
    ·show Act.put _ (some 42) _ = _
     simp only [Act.put, List.setIfInBounds_toArray, List.set_cons_zero, List.set_cons_succ, i64_w, i32_w]
     rfl
    refine wpAnyLast_ready (rs := [3, 4]) (by kernel_rfl) (by simp) (AllReadyL.cons rfl (by simp) (fun K hK => ?_) (AllReadyL.cons rfl (by simp) (fun K hK => ?_) AllReadyL.nil))
    ·refine goes_ Try.func54 (by kernel_rfl) rfl #[.agg #[.int .i64 kb, .int .i64 y.f2, .int .i64 y.f3, .slice A2 y.f0.length c2, .slice B2 y.f1.length d2]] (by rfl) rfl rfl (by simp only [List.map_toArray, List.map_cons, List.map_nil]; first | rfl | (go_simp; done)) ?_
     with_reducible refine (mine_calls kb y A2 c2 B2 d2 _).mono ?_
     rintro e_ wd3 ⟨rfl, hb⟩
     refine ⟨_, rfl, ?_⟩
     have HQ3 := Aside0.mk (below_step HQ2.out hb)
     replace Z9 := Aside0.mk (blk_below Z9.out hb)
     clear hb
     refine hK.out _ _ HQ3.out (fun hHeld => ?_)
     clear hK K hHeld
     refine norm_ (a' := ?_) ?_ ?_
     rotate_left
     ·show Act.put _ (some 44) _ = _
      simp only [Act.put, List.setIfInBounds_toArray, List.set_cons_zero, List.set_cons_succ, i64_w, i32_w]
      rfl
     refine one_ (i := 4) (N := some 8) #[true, true, true, true, true, true, false, false] rfl rfl (by kernel_rfl) (by decide) (fun K hK => ?_)
     refine value_ (w1 := ?_) (v := ?_) (by rfl) rfl ?_ ?_
     rotate_left 2
     ·go_simp
      constructor
      ·rfl
      ·rfl
     have HQ4 := Aside0.mk (below_alloc HQ3.out (.cells #[.slice none 0 0, .slice none 0 0, .int .i64 0, .int .i64 0] 94 (0, 0)))
     have Z8 := Aside0.mk (blk_new wd3 (.cells #[.slice none 0 0, .slice none 0 0, .int .i64 0, .int .i64 0] 94 (0, 0)))
     have G8 := Aside0.mk (show wq.heap.size ≤ wd3.heap.size from below_size HQ3.out)
     have NE := Aside0.mk (show g9 < wd3.heap.size from blk_lt Z9.out)
     replace Z9 := Aside0.mk (blk_alloc Z9.out (.cells #[.slice none 0 0, .slice none 0 0, .int .i64 0, .int .i64 0] 94 (0, 0)))
     refine hK.out _ _ HQ4.out (fun hHeld => ?_)
     clear hK K hHeld
     refine norm_ (a' := ?_) ?_ ?_
     rotate_left
     ·show Act.put _ (some 8) _ = _
      simp only [Act.put, List.setIfInBounds_toArray, List.set_cons_zero, List.set_cons_succ, i64_w, i32_w]
      rfl
     generalize wd3.heap.size = g8 at Z8 G8 NE ⊢
     generalize wd3.alloc (.cells #[.slice none 0 0, .slice none 0 0, .int .i64 0, .int .i64 0] 94 (0, 0)) = wd4 at Z8 HQ4 Z9 ⊢
     exact HKK _ _ _ ⟨Z8.out, Z9.out, fun e => by have := NE.out; omega, G8.out, G9.out, HQ4.out⟩
    ·refine value_ (w1 := ?_) (v := ?_) (by rfl) rfl ?_ ?_
     rotate_left 2
     ·go_simp
      constructor
      ·rfl
      ·rfl
     have HQ3 := Aside0.mk (below_alloc HQ2.out (.cells #[.slice none 0 0, .slice none 0 0, .int .i64 0, .int .i64 0] 94 (0, 0)))
     have Z8 := Aside0.mk (blk_new wd2 (.cells #[.slice none 0 0, .slice none 0 0, .int .i64 0, .int .i64 0] 94 (0, 0)))
     have G8 := Aside0.mk (show wq.heap.size ≤ wd2.heap.size from below_size HQ2.out)
     have NE := Aside0.mk (show g9 < wd2.heap.size from blk_lt Z9.out)
     replace Z9 := Aside0.mk (blk_alloc Z9.out (.cells #[.slice none 0 0, .slice none 0 0, .int .i64 0, .int .i64 0] 94 (0, 0)))
     refine hK.out _ _ HQ3.out (fun hHeld => ?_)
     clear hK K hHeld
     refine norm_ (a' := ?_) ?_ ?_
     rotate_left
     ·show Act.put _ (some 8) _ = _
      simp only [Act.put, List.setIfInBounds_toArray, List.set_cons_zero, List.set_cons_succ, i64_w, i32_w]
      rfl
     generalize wd2.heap.size = g8 at Z8 G8 NE ⊢
     generalize wd2.alloc (.cells #[.slice none 0 0, .slice none 0 0, .int .i64 0, .int .i64 0] 94 (0, 0)) = wd3 at Z8 HQ3 Z9 ⊢
     refine one_ (i := 3) (N := some 44) #[true, true, true, true, true, true, false, false] rfl rfl (by kernel_rfl) (by decide) (fun K hK => ?_)
     refine goes_ Try.func54 (by kernel_rfl) rfl #[.agg #[.int .i64 kb, .int .i64 y.f2, .int .i64 y.f3, .slice A2 y.f0.length c2, .slice B2 y.f1.length d2]] (by rfl) rfl rfl (by simp only [List.map_toArray, List.map_cons, List.map_nil]; first | rfl | (go_simp; done)) ?_
     with_reducible refine (mine_calls kb y A2 c2 B2 d2 _).mono ?_
     rintro e_ wd4 ⟨rfl, hb⟩
     refine ⟨_, rfl, ?_⟩
     have HQ4 := Aside0.mk (below_step HQ3.out hb)
     replace Z9 := Aside0.mk (blk_below Z9.out hb)
     replace Z8 := Aside0.mk (blk_below Z8.out hb)
     clear hb
     refine hK.out _ _ HQ4.out (fun hHeld => ?_)
     clear hK K hHeld
     refine norm_ (a' := ?_) ?_ ?_
     rotate_left
     ·show Act.put _ (some 44) _ = _
      simp only [Act.put, List.setIfInBounds_toArray, List.set_cons_zero, List.set_cons_succ, i64_w, i32_w]
      rfl
     exact HKK _ _ _ ⟨Z8.out, Z9.out, fun e => by have := NE.out; omega, G8.out, G9.out, HQ4.out⟩
   ·refine value_ (w1 := ?_) (v := ?_) (by rfl) rfl ?_ ?_
    rotate_left 2
    ·go_simp
     constructor
     ·rfl
     ·rfl
    have HQ2 := Aside0.mk (below_alloc HQ1.out (.cells #[.slice none 0 0, .slice none 0 0, .int .i64 0, .int .i64 0] 94 (0, 0)))
    have Z8 := Aside0.mk (blk_new wd1 (.cells #[.slice none 0 0, .slice none 0 0, .int .i64 0, .int .i64 0] 94 (0, 0)))
    have G8 := Aside0.mk (show wq.heap.size ≤ wd1.heap.size from below_size HQ1.out)
    have NE := Aside0.mk (show g9 < wd1.heap.size from blk_lt Z9.out)
    replace Z9 := Aside0.mk (blk_alloc Z9.out (.cells #[.slice none 0 0, .slice none 0 0, .int .i64 0, .int .i64 0] 94 (0, 0)))
    refine hK.out _ _ HQ2.out (fun hHeld => ?_)
    clear hK K hHeld
    refine norm_ (a' := ?_) ?_ ?_
    rotate_left
    ·show Act.put _ (some 8) _ = _
     simp only [Act.put, List.setIfInBounds_toArray, List.set_cons_zero, List.set_cons_succ, i64_w, i32_w]
     rfl
    generalize wd1.heap.size = g8 at Z8 G8 NE ⊢
    generalize wd1.alloc (.cells #[.slice none 0 0, .slice none 0 0, .int .i64 0, .int .i64 0] 94 (0, 0)) = wd2 at Z8 HQ2 Z9 ⊢
    refine one_ (i := 1) (N := some 42) #[true, true, true, false, true, true, false, false] rfl rfl (by kernel_rfl) (by decide) (fun K hK => ?_)
    refine goes_ Try.func54 (by kernel_rfl) rfl #[.agg #[.int .i64 ka, .int .i64 x.f2, .int .i64 x.f3, .slice A x.f0.length c, .slice B x.f1.length d]] (by rfl) rfl rfl (by simp only [List.map_toArray, List.map_cons, List.map_nil]; first | rfl | (go_simp; done)) ?_
    with_reducible refine (mine_calls ka x A c B d _).mono ?_
    rintro e_ wd3 ⟨rfl, hb⟩
    refine ⟨_, rfl, ?_⟩
    have HQ3 := Aside0.mk (below_step HQ2.out hb)
    replace Z9 := Aside0.mk (blk_below Z9.out hb)
    replace Z8 := Aside0.mk (blk_below Z8.out hb)
    clear hb
    refine hK.out _ _ HQ3.out (fun hHeld => ?_)
    clear hK K hHeld
    refine norm_ (a' := ?_) ?_ ?_
    rotate_left
    ·show Act.put _ (some 42) _ = _
     simp only [Act.put, List.setIfInBounds_toArray, List.set_cons_zero, List.set_cons_succ, i64_w, i32_w]
     rfl
    refine one_ (i := 3) (N := some 44) #[true, true, true, true, true, true, false, false] rfl rfl (by kernel_rfl) (by decide) (fun K hK => ?_)
    refine goes_ Try.func54 (by kernel_rfl) rfl #[.agg #[.int .i64 kb, .int .i64 y.f2, .int .i64 y.f3, .slice A2 y.f0.length c2, .slice B2 y.f1.length d2]] (by rfl) rfl rfl (by simp only [List.map_toArray, List.map_cons, List.map_nil]; first | rfl | (go_simp; done)) ?_
    with_reducible refine (mine_calls kb y A2 c2 B2 d2 _).mono ?_
    rintro e_ wd4 ⟨rfl, hb⟩
    refine ⟨_, rfl, ?_⟩
    have HQ4 := Aside0.mk (below_step HQ3.out hb)
    replace Z9 := Aside0.mk (blk_below Z9.out hb)
    replace Z8 := Aside0.mk (blk_below Z8.out hb)
    clear hb
    refine hK.out _ _ HQ4.out (fun hHeld => ?_)
    clear hK K hHeld
    refine norm_ (a' := ?_) ?_ ?_
    rotate_left
    ·show Act.put _ (some 44) _ = _
     simp only [Act.put, List.setIfInBounds_toArray, List.set_cons_zero, List.set_cons_succ, i64_w, i32_w]
     rfl
    exact HKK _ _ _ ⟨Z8.out, Z9.out, fun e => by have := NE.out; omega, G8.out, G9.out, HQ4.out⟩
 ·intro g8 g9 wk hF
  have HF := Aside0.mk hF
  clear hF
  have HNE := Aside0.mk HF.out.ne
  have z0 := blk_cell HF.out.z8 0
  have z1 := blk_cell HF.out.z8 1
  have z2 := blk_cell HF.out.z8 2
  have z3 := blk_cell HF.out.z8 3
  simp only [List.getElem?_toArray, List.getElem?_cons_succ, List.getElem?_cons_zero] at z0 z1 z2 z3
  have zf0 := blk_frozen HF.out.z8 0
  have zf1 := blk_frozen HF.out.z8 1
  have zf2 := blk_frozen HF.out.z8 2
  have zf3 := blk_frozen HF.out.z8 3
  refine one_ (i := 6) (N := none) #[true, true, true, true, true, true, true, false] rfl rfl (by kernel_rfl) (by decide) (fun K hK => ?_)
  refine skip_ (w1 := ?_) (by rfl) rfl ?_ ?_
  rotate_left
  ·go_simp
   rfl
  have HB1 := Aside0.mk (show Below wq.heap.size wq ((((wk.setCell ⟨g8, 0, none⟩ (.slice A x.f0.length c)).setCell ⟨g8, 1, none⟩ (.slice B x.f1.length d)).setCell ⟨g8, 2, none⟩ (.int .i64 x.f2)).setCell ⟨g8, 3, none⟩ (.int .i64 x.f3)) from (below_set (below_set (below_set (below_set HF.out.below HF.out.ge8 (j := 0) (v := .slice A x.f0.length c)) HF.out.ge8 (j := 1) (v := .slice B x.f1.length d)) HF.out.ge8 (j := 2) (v := .int .i64 x.f2)) HF.out.ge8 (j := 3) (v := .int .i64 x.f3)))
  have HZ1 := Aside0.mk (show (((((wk.setCell ⟨g8, 0, none⟩ (.slice A x.f0.length c)).setCell ⟨g8, 1, none⟩ (.slice B x.f1.length d)).setCell ⟨g8, 2, none⟩ (.int .i64 x.f2)).setCell ⟨g8, 3, none⟩ (.int .i64 x.f3))).heap[g8]? = some (.cells #[.slice A x.f0.length c, .slice B x.f1.length d, .int .i64 x.f2, .int .i64 x.f3] 94 (0, 0)) from by have := (blk_set (blk_set (blk_set (blk_set HF.out.z8 0 (.slice A x.f0.length c)) 1 (.slice B x.f1.length d)) 2 (.int .i64 x.f2)) 3 (.int .i64 x.f3)); simpa using this)
  have HO1 := Aside0.mk (show (((((wk.setCell ⟨g8, 0, none⟩ (.slice A x.f0.length c)).setCell ⟨g8, 1, none⟩ (.slice B x.f1.length d)).setCell ⟨g8, 2, none⟩ (.int .i64 x.f2)).setCell ⟨g8, 3, none⟩ (.int .i64 x.f3))).heap[g9]? = _ from (Below.heap_setCell _ ⟨g8, 3, none⟩ _ g9 (by first | exact HNE.out | exact HNE.out.symm)).trans ((Below.heap_setCell _ ⟨g8, 2, none⟩ _ g9 (by first | exact HNE.out | exact HNE.out.symm)).trans ((Below.heap_setCell _ ⟨g8, 1, none⟩ _ g9 (by first | exact HNE.out | exact HNE.out.symm)).trans ((Below.heap_setCell _ ⟨g8, 0, none⟩ _ g9 (by first | exact HNE.out | exact HNE.out.symm)).trans HF.out.z9))))
  refine hK.out _ _ HB1.out (fun hHeld => ?_)
  clear hK K hHeld z0 z1 z2 z3 zf0 zf1 zf2 zf3
  generalize ((((wk.setCell ⟨g8, 0, none⟩ (.slice A x.f0.length c)).setCell ⟨g8, 1, none⟩ (.slice B x.f1.length d)).setCell ⟨g8, 2, none⟩ (.int .i64 x.f2)).setCell ⟨g8, 3, none⟩ (.int .i64 x.f3)) = wk1 at HB1 HZ1 HO1 ⊢
  have z0 := blk_cell HO1.out 0
  have z1 := blk_cell HO1.out 1
  have z2 := blk_cell HO1.out 2
  have z3 := blk_cell HO1.out 3
  simp only [List.getElem?_toArray, List.getElem?_cons_succ, List.getElem?_cons_zero] at z0 z1 z2 z3
  have zf0 := blk_frozen HO1.out 0
  have zf1 := blk_frozen HO1.out 1
  have zf2 := blk_frozen HO1.out 2
  have zf3 := blk_frozen HO1.out 3
  refine one_ (i := 7) (N := none) #[true, true, true, true, true, true, true, true] rfl rfl (by kernel_rfl) (by decide) (fun K hK => ?_)
  refine skip_ (w1 := ?_) (by rfl) rfl ?_ ?_
  rotate_left
  ·go_simp
   rfl
  have HB2 := Aside0.mk (show Below wq.heap.size wq ((((wk1.setCell ⟨g9, 0, none⟩ (.slice A2 y.f0.length c2)).setCell ⟨g9, 1, none⟩ (.slice B2 y.f1.length d2)).setCell ⟨g9, 2, none⟩ (.int .i64 y.f2)).setCell ⟨g9, 3, none⟩ (.int .i64 y.f3)) from (below_set (below_set (below_set (below_set HB1.out HF.out.ge9 (j := 0) (v := .slice A2 y.f0.length c2)) HF.out.ge9 (j := 1) (v := .slice B2 y.f1.length d2)) HF.out.ge9 (j := 2) (v := .int .i64 y.f2)) HF.out.ge9 (j := 3) (v := .int .i64 y.f3)))
  have HZ2 := Aside0.mk (show (((((wk1.setCell ⟨g9, 0, none⟩ (.slice A2 y.f0.length c2)).setCell ⟨g9, 1, none⟩ (.slice B2 y.f1.length d2)).setCell ⟨g9, 2, none⟩ (.int .i64 y.f2)).setCell ⟨g9, 3, none⟩ (.int .i64 y.f3))).heap[g9]? = some (.cells #[.slice A2 y.f0.length c2, .slice B2 y.f1.length d2, .int .i64 y.f2, .int .i64 y.f3] 94 (0, 0)) from by have := (blk_set (blk_set (blk_set (blk_set HO1.out 0 (.slice A2 y.f0.length c2)) 1 (.slice B2 y.f1.length d2)) 2 (.int .i64 y.f2)) 3 (.int .i64 y.f3)); simpa using this)
  have HO2 := Aside0.mk (show (((((wk1.setCell ⟨g9, 0, none⟩ (.slice A2 y.f0.length c2)).setCell ⟨g9, 1, none⟩ (.slice B2 y.f1.length d2)).setCell ⟨g9, 2, none⟩ (.int .i64 y.f2)).setCell ⟨g9, 3, none⟩ (.int .i64 y.f3))).heap[g8]? = _ from (Below.heap_setCell _ ⟨g9, 3, none⟩ _ g8 (by first | exact HNE.out | exact HNE.out.symm)).trans ((Below.heap_setCell _ ⟨g9, 2, none⟩ _ g8 (by first | exact HNE.out | exact HNE.out.symm)).trans ((Below.heap_setCell _ ⟨g9, 1, none⟩ _ g8 (by first | exact HNE.out | exact HNE.out.symm)).trans ((Below.heap_setCell _ ⟨g9, 0, none⟩ _ g8 (by first | exact HNE.out | exact HNE.out.symm)).trans HZ1.out))))
  refine hK.out _ _ HB2.out (fun hHeld => ?_)
  clear hK K hHeld z0 z1 z2 z3 zf0 zf1 zf2 zf3
  generalize ((((wk1.setCell ⟨g9, 0, none⟩ (.slice A2 y.f0.length c2)).setCell ⟨g9, 1, none⟩ (.slice B2 y.f1.length d2)).setCell ⟨g9, 2, none⟩ (.int .i64 y.f2)).setCell ⟨g9, 3, none⟩ (.int .i64 y.f3)) = wk2 at HB2 HZ2 HO2 ⊢
  refine done_ (by kernel_rfl) ?_
  have HS := Aside0.mk (show XY x y A c B d A2 c2 B2 d2 g8 g9 x.f2 x.f3 y.f2 y.f3 wk2 from ⟨HO2.out, HZ2.out⟩)
  have HGE8 := Aside0.mk HF.out.ge8
  have HGE9 := Aside0.mk HF.out.ge9
  have HQ := Aside0.mk HB2.out
  clear HF HB1 HZ1 HO1 HZ2 HO2 HB2
  go_upto_region 7 with (first | (go_at_call 67; skip))
  obtain ⟨⟨x0, x1, x2, x3⟩, y0, y1, y2, y3⟩ := HS.out.cells
  have zf := blk_frozen HS.out.x 3
  have hn1 := HNE.out
  have hn2 := HNE.out.symm
  go_upto_region 8 with (first | (go_at_call 67; skip))
  have HS2 := Aside0.mk (HS.out.n1 HNE.out 1)
  have HQ2 := Aside0.mk (below_set HQ.out HGE8.out (j := 3) (v := .int .i64 1))
  clear HS HQ x0 x1 x2 x3 y0 y1 y2 y3 zf hn1 hn2
  generalize wk2.setCell ⟨g8, 3, none⟩ (.int .i64 1) = wk3 at HS2 HQ2 ⊢
  have HS := Aside0.mk HS2.out
  have HQ := Aside0.mk HQ2.out
  clear HS2 HQ2
  obtain ⟨⟨x0, x1, x2, x3⟩, y0, y1, y2, y3⟩ := HS.out.cells
  have zf := blk_frozen HS.out.y 3
  have hn1 := HNE.out
  have hn2 := HNE.out.symm
  go_upto_region 9 with (first | (go_at_call 67; skip))
  have HS2 := Aside0.mk (HS.out.n2 HNE.out 2)
  have HQ2 := Aside0.mk (below_set HQ.out HGE9.out (j := 3) (v := .int .i64 2))
  clear HS HQ x0 x1 x2 x3 y0 y1 y2 y3 zf hn1 hn2
  generalize wk3.setCell ⟨g9, 3, none⟩ (.int .i64 2) = wk4 at HS2 HQ2 ⊢
  have HS := Aside0.mk HS2.out
  have HQ := Aside0.mk HQ2.out
  clear HS2 HQ2
  obtain ⟨⟨x0, x1, x2, x3⟩, y0, y1, y2, y3⟩ := HS.out.cells
  have zf := blk_frozen HS.out.y 2
  have hn1 := HNE.out
  have hn2 := HNE.out.symm
  go_upto_region 10 with (first | (go_at_call 67; skip))
  have HS2 := Aside0.mk (HS.out.p2 HNE.out x.f2)
  have HQ2 := Aside0.mk (below_set HQ.out HGE9.out (j := 2) (v := .int .i64 x.f2))
  clear HS HQ x0 x1 x2 x3 y0 y1 y2 y3 zf hn1 hn2
  generalize wk4.setCell ⟨g9, 2, none⟩ (.int .i64 x.f2) = wk5 at HS2 HQ2 ⊢
  have HS := Aside0.mk HS2.out
  have HQ := Aside0.mk HQ2.out
  clear HS2 HQ2
  have HL5 := Aside0.mk (HL.out.step HQ.out)
  have HG8 := Aside0.mk (show g8 ≠ g ∧ g9 ≠ g from ⟨fun e => by have := HL.out.lt; have := HGE8.out; omega, fun e => by have := HL.out.lt; have := HGE9.out; omega⟩)
  clear HL HXA HXB HBN HQ HGE8 HGE9
  have HL := Aside0.mk HL5.out
  clear HL5
  obtain ⟨⟨x0, x1, x2, x3⟩, y0, y1, y2, y3⟩ := HS.out.cells
  have HLX := Aside0.mk (show x.f0.length ≤ c ∧ x.f1.length ≤ d ∧ x.f0.length ≤ 1000 ∧ x.f1.length ≤ 1000 from ⟨HLC.out.1, HLC.out.2.1, HOX.out.la, HOX.out.lb⟩)
  have HLY := Aside0.mk (show y.f0.length ≤ c2 ∧ y.f1.length ≤ d2 ∧ y.f0.length ≤ 1000 ∧ y.f1.length ≤ 1000 from ⟨HLC.out.2.2.1, HLC.out.2.2.2, HOY.out.la, HOY.out.lb⟩)
  have HN1 := Aside0.mk (show ([⟨x.f0, x.f1, x.f2, 1⟩] : List S94).length ≤ 1000 from by simp)
  have HN2 := Aside0.mk (show ([⟨x.f0, x.f1, x.f2, 1⟩, ⟨y.f0, y.f1, x.f2, 2⟩] : List S94).length ≤ 1000 from by simp)
  by_cases h1 : putE (mayL ws ⟨x.f0, x.f1, x.f2, 1⟩) 9 [] ⟨x.f0, x.f1, x.f2, 1⟩ = 0
  ·have HPE := Aside0.mk h1
   have HM1 := Aside0.mk (putE_zero h1).1
   have HPL := Aside0.mk (show putL (mayL ws ⟨x.f0, x.f1, x.f2, 1⟩) 9 [] ⟨x.f0, x.f1, x.f2, 1⟩ = [⟨x.f0, x.f1, x.f2, 1⟩] from by unfold putL; rw [if_pos h1]; rfl)
   clear h1
   by_cases h2 : putE (mayL ws ⟨y.f0, y.f1, x.f2, 2⟩) 9 [⟨x.f0, x.f1, x.f2, 1⟩] ⟨y.f0, y.f1, x.f2, 2⟩ = 0
   ·have HPE2 := Aside0.mk h2
    have HM2 := Aside0.mk (putE_zero h2).1
    have HPL2 := Aside0.mk (show putL (mayL ws ⟨y.f0, y.f1, x.f2, 2⟩) 9 [⟨x.f0, x.f1, x.f2, 1⟩] ⟨y.f0, y.f1, x.f2, 2⟩ = [⟨x.f0, x.f1, x.f2, 1⟩, ⟨y.f0, y.f1, x.f2, 2⟩] from by unfold putL; rw [if_pos h2]; simp [ins])
    clear h2
    have HRR := Aside0.mk (show ∀ z ∈ [⟨x.f0, x.f1, x.f2, 1⟩, ⟨y.f0, y.f1, x.f2, 2⟩], okR ws.length z from fun z hz => by
     rcases List.mem_cons.1 hz with rfl | hz
     ·exact ⟨HOX.out, (mayL_wi HM1.out).1, (mayL_wi HM1.out).2.1⟩
     ·obtain rfl := List.mem_singleton.1 hz
      exact ⟨HOY.out, (mayL_wi HM2.out).1, (mayL_wi HM2.out).2.1⟩)
    have HG1 := Aside0.mk (show getA (qK x.f0) [⟨x.f0, x.f1, x.f2, 1⟩, ⟨y.f0, y.f1, x.f2, 2⟩] = (1, x.f2, true) from get_first (X := ⟨x.f0, x.f1, x.f2, 1⟩) (qK_lo HM1.out))
    have HG2 := Aside0.mk (show getA (qK x.f1) [⟨x.f0, x.f1, x.f2, 1⟩, ⟨y.f0, y.f1, x.f2, 2⟩] = (1, x.f2, true) from get_first (X := ⟨x.f0, x.f1, x.f2, 1⟩) (qK_hi HM1.out))
    obtain ⟨qv, hqv⟩ : ∃ qv, qv = qK y.f0 ⟨x.f0, x.f1, x.f2, 1⟩ := ⟨_, rfl⟩
    have HMT := Aside0.mk (show shunterref22_Meets.f 2000 y.f0 x.f0 x.f1 x.f2 1 = some qv from by rw [hqv]; exact ref22_Meets_eq 2000 y.f0 ⟨x.f0, x.f1, x.f2, 1⟩ HOY.out.a HOX.out ((mayL_wi HM1.out).2.1.trans (mayL_wi HM1.out).1.symm) HOY.out.la (by have := HOY.out.la; have h' : y.f0.length ≤ 1000 := this; omega))
    cases qv with
    | false =>
     have HG3 := Aside0.mk (show getA (qK y.f0) [⟨x.f0, x.f1, x.f2, 1⟩, ⟨y.f0, y.f1, x.f2, 2⟩] = (2, x.f2, true) from get_second (X := ⟨x.f0, x.f1, x.f2, 1⟩) (Y := ⟨y.f0, y.f1, x.f2, 2⟩) hqv.symm (qK_lo (x := ⟨y.f0, y.f1, x.f2, 2⟩) HM2.out))
     clear hqv
     go_upto_region 16 with (first | (go_at_call 55; with_reducible refine (Put_calls wl _ g (.slice none 0 0) wv [] ws 9 ⟨x.f0, x.f1, x.f2, 1⟩ A c B d HL.out (HCA.out _ (below_step HBL.out HL.out.below)) (HCB.out _ (below_step HBL.out HL.out.below)) HOX.out.a HOX.out.b HLX.out (Nat.zero_le _)).mono ?_; rintro e_ w2 ⟨rfl, v1, hlp⟩; rw [HPE.out]; rw [HPL.out] at hlp; have HV1 := Aside0.mk (own_not hlp.at_ (blk_lt HS.out.x) (blk_lt HS.out.y)); have HS2 := Aside0.mk (HS.out.keep2 hlp.kept HG8.out (nil_not _ _)); have HL2 := Aside0.mk hlp.lk; clear hlp HS HL x0 x1 x2 x3 y0 y1 y2 y3; have HS := Aside0.mk HS2.out; have HL := Aside0.mk HL2.out; clear HS2 HL2; obtain ⟨⟨x0, x1, x2, x3⟩, y0, y1, y2, y3⟩ := HS.out.cells) | (go_at_call 55; with_reducible refine (Put_calls wl _ g v1 wv [⟨x.f0, x.f1, x.f2, 1⟩] ws 9 ⟨y.f0, y.f1, x.f2, 2⟩ A2 c2 B2 d2 HL.out (HCA2.out _ (below_step HBL.out HL.out.below)) (HCB2.out _ (below_step HBL.out HL.out.below)) HOY.out.a HOY.out.b HLY.out HN1.out).mono ?_; rintro e_ w3 ⟨rfl, v2, hlp⟩; rw [HPE2.out]; rw [HPL2.out] at hlp; have HS2 := Aside0.mk (HS.out.keep2 hlp.kept HG8.out HV1.out); have HL2 := Aside0.mk hlp.lk; clear hlp HS HL HV1 x0 x1 x2 x3 y0 y1 y2 y3; have HS := Aside0.mk HS2.out; have HL := Aside0.mk HL2.out; clear HS2 HL2; obtain ⟨⟨x0, x1, x2, x3⟩, y0, y1, y2, y3⟩ := HS.out.cells) | (go_at_call 56; with_reducible refine (Get_calls wl _ g v2 wv [⟨x.f0, x.f1, x.f2, 1⟩, ⟨y.f0, y.f1, x.f2, 2⟩] ws 9 A c x.f0 HL.out (HCA.out _ (below_step HBL.out HL.out.below)) HLC.out.1 HOX.out.a HRR.out HN2.out HOX.out.la).mono ?_; rintro e_ w4 ⟨rfl, hb⟩; rw [HG1.out]; have HS2 := Aside0.mk (HS.out.step hb); have HL2 := Aside0.mk (HL.out.step hb); clear hb HS HL x0 x1 x2 x3 y0 y1 y2 y3; have HS := Aside0.mk HS2.out; have HL := Aside0.mk HL2.out; clear HS2 HL2; obtain ⟨⟨x0, x1, x2, x3⟩, y0, y1, y2, y3⟩ := HS.out.cells) | (go_at_call 56; with_reducible refine (Get_calls wl _ g v2 wv [⟨x.f0, x.f1, x.f2, 1⟩, ⟨y.f0, y.f1, x.f2, 2⟩] ws 9 B d x.f1 HL.out (HCB.out _ (below_step HBL.out HL.out.below)) HLC.out.2.1 HOX.out.b HRR.out HN2.out HOX.out.lb).mono ?_; rintro e_ w4 ⟨rfl, hb⟩; rw [HG2.out]; have HS2 := Aside0.mk (HS.out.step hb); have HL2 := Aside0.mk (HL.out.step hb); clear hb HS HL x0 x1 x2 x3 y0 y1 y2 y3; have HS := Aside0.mk HS2.out; have HL := Aside0.mk HL2.out; clear HS2 HL2; obtain ⟨⟨x0, x1, x2, x3⟩, y0, y1, y2, y3⟩ := HS.out.cells) | (go_at_call 56; with_reducible refine (Get_calls wl _ g v2 wv [⟨x.f0, x.f1, x.f2, 1⟩, ⟨y.f0, y.f1, x.f2, 2⟩] ws 9 A2 c2 y.f0 HL.out (HCA2.out _ (below_step HBL.out HL.out.below)) HLC.out.2.2.1 HOY.out.a HRR.out HN2.out HOY.out.la).mono ?_; rintro e_ w4 ⟨rfl, hb⟩; rw [HG3.out]; have HS2 := Aside0.mk (HS.out.step hb); have HL2 := Aside0.mk (HL.out.step hb); clear hb HS HL x0 x1 x2 x3 y0 y1 y2 y3; have HS := Aside0.mk HS2.out; have HL := Aside0.mk HL2.out; clear HS2 HL2; obtain ⟨⟨x0, x1, x2, x3⟩, y0, y1, y2, y3⟩ := HS.out.cells))
     skip
     go_wp2
     refine start_ (n := 5) (S := fun w' => Below w4.heap.size w4 w') (ds := []) #[false, false, false, false, false] (by kernel_rfl) rfl rfl (below_drew1 (Below.refl _ _)) (fun hHeld => ?_)
     clear x0 x1 x2 x3 y0 y1 y2 y3
     generalize World.drew _ = w7 at hHeld ⊢
     refine pl_ [0] ?_
     refine qP rfl rfl ?_
     refine pl0 ?_
     refine take_ (i := 1) (N := some 86) (v := ?_) (a' := ?_) #[true, true, false, false, false] rfl rfl (by kernel_rfl) (fun _ _ _ h => h) (Or.inl ⟨by rfl, ?_⟩) hHeld ?_ ?_
     rotate_left
     ·intro w' hs
      obtain ⟨⟨x0, x1, x2, x3⟩, y0, y1, y2, y3⟩ := (HS.out.step hs).cells
      go_simp
      with_reducible rfl
     rotate_left
     ·simp only [Act.put, List.setIfInBounds_toArray, List.set_cons_zero, List.set_cons_succ, i64_w, i32_w]
      rfl
     refine take_ (i := 2) (N := some 87) (v := ?_) (a' := ?_) #[true, true, true, false, false] rfl rfl (by kernel_rfl) (fun _ _ _ h => h) (Or.inl ⟨by rfl, ?_⟩) hHeld ?_ ?_
     rotate_left
     ·intro w' hs
      obtain ⟨⟨x0, x1, x2, x3⟩, y0, y1, y2, y3⟩ := (HS.out.step hs).cells
      go_simp
      with_reducible rfl
     rotate_left
     ·simp only [Act.put, List.setIfInBounds_toArray, List.set_cons_zero, List.set_cons_succ, i64_w, i32_w]
      rfl
     have HH := Aside0.mk hHeld
     clear hHeld
     refine one_ (i := 3) (N := some 88) #[true, true, true, true, false] rfl rfl (by kernel_rfl) (by decide) (fun K hK => ?_)
     refine goes_ Try.func58 (by kernel_rfl) rfl #[.agg #[.slice A x.f0.length c, .slice B x.f1.length d, .int .i64 x.f2, .int .i64 1]] (by rfl) rfl rfl (by simp only [List.map_toArray, List.map_cons, List.map_nil]; first | rfl | (go_simp; done)) ?_
     with_reducible refine (theirs_calls ⟨x.f0, x.f1, x.f2, 1⟩ A c B d _).mono ?_
     rintro e_ w1 ⟨rfl, hb⟩
     refine ⟨_, rfl, ?_⟩
     have HB8 := Aside0.mk (below_step HH.out hb)
     clear hb HH
     refine hK.out _ _ HB8.out (fun hHeld => ?_)
     clear hK K
     refine norm_ (a' := ?_) ?_ ?_
     rotate_left
     ·show Act.put _ (some 88) _ = _
      simp only [Act.put, List.setIfInBounds_toArray, List.set_cons_zero, List.set_cons_succ, i64_w, i32_w]
      rfl
     have HH := Aside0.mk hHeld
     clear hHeld HB8
     refine one_ (i := 4) (N := some 89) #[true, true, true, true, true] rfl rfl (by kernel_rfl) (by decide) (fun K hK => ?_)
     refine goes_ Try.func57 (by kernel_rfl) rfl #[.slice A2 y.f0.length c2, .agg #[.slice A x.f0.length c, .slice B x.f1.length d, .int .i64 x.f2, .int .i64 1]] (by rfl) rfl rfl (by simp only [List.map_toArray, List.map_cons, List.map_nil]; first | rfl | (go_simp; done)) ?_
     with_reducible refine (shunterref22_Meets.calls 2000 A2 c2 y.f0 A c x.f0 B d x.f1 x.f2 1 false _ (HCA2.out _ (below_step HBL.out (below_step HL.out.below HH.out))) HLC.out.2.2.1 (HCA.out _ (below_step HBL.out (below_step HL.out.below HH.out))) HLC.out.1 (HCB.out _ (below_step HBL.out (below_step HL.out.below HH.out))) HLC.out.2.1 HMT.out).mono ?_
     rintro e_ w1 ⟨rfl, hb⟩
     refine ⟨_, rfl, ?_⟩
     have HB9 := Aside0.mk (below_step HH.out hb)
     clear hb HH
     refine hK.out _ _ HB9.out (fun hHeld => ?_)
     clear hK K
     refine norm_ (a' := ?_) ?_ ?_
     rotate_left
     ·show Act.put _ (some 89) _ = _
      simp only [Act.put, List.setIfInBounds_toArray, List.set_cons_zero, List.set_cons_succ, i64_w, i32_w]
      rfl
     refine done_ (by kernel_rfl) ?_
     have HL9 := Aside0.mk (HL.out.step HB9.out)
     have HLEN := Aside0.mk (fun w1 (h1 : LK wl w1 g v2 wv [⟨x.f0, x.f1, x.f2, 1⟩, ⟨y.f0, y.f1, x.f2, 2⟩] ws 9) => (show Calls Try.prog 59 #[.pointer (some ⟨g, 0, none⟩)] w1 (fun e_ w' => e_ = .returned (.int .i64 2) ∧ w' = w1) from Len_calls wl w1 g v2 wv _ ws 9 h1))
     have HBE := Aside0.mk (below_step HBL.out HL9.out.below)
     clear HG3 HMT
     go_wp2_with (first | (go_at_call 59; with_reducible refine (HLEN.out _ HL9.out).mono ?_; rintro e_ w10 ⟨rfl, h_⟩; rw [h_]; clear h_ w10) | (go_at_call 51; with_reducible refine (lives_calls _).mono ?_; rintro e_ wz ⟨rfl, hb⟩; have HZ := Aside0.mk (below_step HBE.out hb); clear hb))
     go_ret
     exact ⟨rfl, HZ.out⟩
    | true =>
     have HG3 := Aside0.mk (show getA (qK y.f0) [⟨x.f0, x.f1, x.f2, 1⟩, ⟨y.f0, y.f1, x.f2, 2⟩] = (1, x.f2, true) from get_first (X := ⟨x.f0, x.f1, x.f2, 1⟩) hqv.symm)
     clear hqv
     go_upto_region 16 with (first | (go_at_call 55; with_reducible refine (Put_calls wl _ g (.slice none 0 0) wv [] ws 9 ⟨x.f0, x.f1, x.f2, 1⟩ A c B d HL.out (HCA.out _ (below_step HBL.out HL.out.below)) (HCB.out _ (below_step HBL.out HL.out.below)) HOX.out.a HOX.out.b HLX.out (Nat.zero_le _)).mono ?_; rintro e_ w2 ⟨rfl, v1, hlp⟩; rw [HPE.out]; rw [HPL.out] at hlp; have HV1 := Aside0.mk (own_not hlp.at_ (blk_lt HS.out.x) (blk_lt HS.out.y)); have HS2 := Aside0.mk (HS.out.keep2 hlp.kept HG8.out (nil_not _ _)); have HL2 := Aside0.mk hlp.lk; clear hlp HS HL x0 x1 x2 x3 y0 y1 y2 y3; have HS := Aside0.mk HS2.out; have HL := Aside0.mk HL2.out; clear HS2 HL2; obtain ⟨⟨x0, x1, x2, x3⟩, y0, y1, y2, y3⟩ := HS.out.cells) | (go_at_call 55; with_reducible refine (Put_calls wl _ g v1 wv [⟨x.f0, x.f1, x.f2, 1⟩] ws 9 ⟨y.f0, y.f1, x.f2, 2⟩ A2 c2 B2 d2 HL.out (HCA2.out _ (below_step HBL.out HL.out.below)) (HCB2.out _ (below_step HBL.out HL.out.below)) HOY.out.a HOY.out.b HLY.out HN1.out).mono ?_; rintro e_ w3 ⟨rfl, v2, hlp⟩; rw [HPE2.out]; rw [HPL2.out] at hlp; have HS2 := Aside0.mk (HS.out.keep2 hlp.kept HG8.out HV1.out); have HL2 := Aside0.mk hlp.lk; clear hlp HS HL HV1 x0 x1 x2 x3 y0 y1 y2 y3; have HS := Aside0.mk HS2.out; have HL := Aside0.mk HL2.out; clear HS2 HL2; obtain ⟨⟨x0, x1, x2, x3⟩, y0, y1, y2, y3⟩ := HS.out.cells) | (go_at_call 56; with_reducible refine (Get_calls wl _ g v2 wv [⟨x.f0, x.f1, x.f2, 1⟩, ⟨y.f0, y.f1, x.f2, 2⟩] ws 9 A c x.f0 HL.out (HCA.out _ (below_step HBL.out HL.out.below)) HLC.out.1 HOX.out.a HRR.out HN2.out HOX.out.la).mono ?_; rintro e_ w4 ⟨rfl, hb⟩; rw [HG1.out]; have HS2 := Aside0.mk (HS.out.step hb); have HL2 := Aside0.mk (HL.out.step hb); clear hb HS HL x0 x1 x2 x3 y0 y1 y2 y3; have HS := Aside0.mk HS2.out; have HL := Aside0.mk HL2.out; clear HS2 HL2; obtain ⟨⟨x0, x1, x2, x3⟩, y0, y1, y2, y3⟩ := HS.out.cells) | (go_at_call 56; with_reducible refine (Get_calls wl _ g v2 wv [⟨x.f0, x.f1, x.f2, 1⟩, ⟨y.f0, y.f1, x.f2, 2⟩] ws 9 B d x.f1 HL.out (HCB.out _ (below_step HBL.out HL.out.below)) HLC.out.2.1 HOX.out.b HRR.out HN2.out HOX.out.lb).mono ?_; rintro e_ w4 ⟨rfl, hb⟩; rw [HG2.out]; have HS2 := Aside0.mk (HS.out.step hb); have HL2 := Aside0.mk (HL.out.step hb); clear hb HS HL x0 x1 x2 x3 y0 y1 y2 y3; have HS := Aside0.mk HS2.out; have HL := Aside0.mk HL2.out; clear HS2 HL2; obtain ⟨⟨x0, x1, x2, x3⟩, y0, y1, y2, y3⟩ := HS.out.cells) | (go_at_call 56; with_reducible refine (Get_calls wl _ g v2 wv [⟨x.f0, x.f1, x.f2, 1⟩, ⟨y.f0, y.f1, x.f2, 2⟩] ws 9 A2 c2 y.f0 HL.out (HCA2.out _ (below_step HBL.out HL.out.below)) HLC.out.2.2.1 HOY.out.a HRR.out HN2.out HOY.out.la).mono ?_; rintro e_ w4 ⟨rfl, hb⟩; rw [HG3.out]; have HS2 := Aside0.mk (HS.out.step hb); have HL2 := Aside0.mk (HL.out.step hb); clear hb HS HL x0 x1 x2 x3 y0 y1 y2 y3; have HS := Aside0.mk HS2.out; have HL := Aside0.mk HL2.out; clear HS2 HL2; obtain ⟨⟨x0, x1, x2, x3⟩, y0, y1, y2, y3⟩ := HS.out.cells))
     skip
     go_wp2
     refine start_ (n := 5) (S := fun w' => Below w4.heap.size w4 w') (ds := []) #[false, false, false, false, false] (by kernel_rfl) rfl rfl (below_drew1 (Below.refl _ _)) (fun hHeld => ?_)
     clear x0 x1 x2 x3 y0 y1 y2 y3
     generalize World.drew _ = w7 at hHeld ⊢
     refine pl_ [0] ?_
     refine qP rfl rfl ?_
     refine pl0 ?_
     refine take_ (i := 1) (N := some 86) (v := ?_) (a' := ?_) #[true, true, false, false, false] rfl rfl (by kernel_rfl) (fun _ _ _ h => h) (Or.inl ⟨by rfl, ?_⟩) hHeld ?_ ?_
     rotate_left
     ·intro w' hs
      obtain ⟨⟨x0, x1, x2, x3⟩, y0, y1, y2, y3⟩ := (HS.out.step hs).cells
      go_simp
      with_reducible rfl
     rotate_left
     ·simp only [Act.put, List.setIfInBounds_toArray, List.set_cons_zero, List.set_cons_succ, i64_w, i32_w]
      rfl
     refine take_ (i := 2) (N := some 87) (v := ?_) (a' := ?_) #[true, true, true, false, false] rfl rfl (by kernel_rfl) (fun _ _ _ h => h) (Or.inl ⟨by rfl, ?_⟩) hHeld ?_ ?_
     rotate_left
     ·intro w' hs
      obtain ⟨⟨x0, x1, x2, x3⟩, y0, y1, y2, y3⟩ := (HS.out.step hs).cells
      go_simp
      with_reducible rfl
     rotate_left
     ·simp only [Act.put, List.setIfInBounds_toArray, List.set_cons_zero, List.set_cons_succ, i64_w, i32_w]
      rfl
     have HH := Aside0.mk hHeld
     clear hHeld
     refine one_ (i := 3) (N := some 88) #[true, true, true, true, false] rfl rfl (by kernel_rfl) (by decide) (fun K hK => ?_)
     refine goes_ Try.func58 (by kernel_rfl) rfl #[.agg #[.slice A x.f0.length c, .slice B x.f1.length d, .int .i64 x.f2, .int .i64 1]] (by rfl) rfl rfl (by simp only [List.map_toArray, List.map_cons, List.map_nil]; first | rfl | (go_simp; done)) ?_
     with_reducible refine (theirs_calls ⟨x.f0, x.f1, x.f2, 1⟩ A c B d _).mono ?_
     rintro e_ w1 ⟨rfl, hb⟩
     refine ⟨_, rfl, ?_⟩
     have HB8 := Aside0.mk (below_step HH.out hb)
     clear hb HH
     refine hK.out _ _ HB8.out (fun hHeld => ?_)
     clear hK K
     refine norm_ (a' := ?_) ?_ ?_
     rotate_left
     ·show Act.put _ (some 88) _ = _
      simp only [Act.put, List.setIfInBounds_toArray, List.set_cons_zero, List.set_cons_succ, i64_w, i32_w]
      rfl
     have HH := Aside0.mk hHeld
     clear hHeld HB8
     refine one_ (i := 4) (N := some 89) #[true, true, true, true, true] rfl rfl (by kernel_rfl) (by decide) (fun K hK => ?_)
     refine goes_ Try.func57 (by kernel_rfl) rfl #[.slice A2 y.f0.length c2, .agg #[.slice A x.f0.length c, .slice B x.f1.length d, .int .i64 x.f2, .int .i64 1]] (by rfl) rfl rfl (by simp only [List.map_toArray, List.map_cons, List.map_nil]; first | rfl | (go_simp; done)) ?_
     with_reducible refine (shunterref22_Meets.calls 2000 A2 c2 y.f0 A c x.f0 B d x.f1 x.f2 1 true _ (HCA2.out _ (below_step HBL.out (below_step HL.out.below HH.out))) HLC.out.2.2.1 (HCA.out _ (below_step HBL.out (below_step HL.out.below HH.out))) HLC.out.1 (HCB.out _ (below_step HBL.out (below_step HL.out.below HH.out))) HLC.out.2.1 HMT.out).mono ?_
     rintro e_ w1 ⟨rfl, hb⟩
     refine ⟨_, rfl, ?_⟩
     have HB9 := Aside0.mk (below_step HH.out hb)
     clear hb HH
     refine hK.out _ _ HB9.out (fun hHeld => ?_)
     clear hK K
     refine norm_ (a' := ?_) ?_ ?_
     rotate_left
     ·show Act.put _ (some 89) _ = _
      simp only [Act.put, List.setIfInBounds_toArray, List.set_cons_zero, List.set_cons_succ, i64_w, i32_w]
      rfl
     refine done_ (by kernel_rfl) ?_
     have HL9 := Aside0.mk (HL.out.step HB9.out)
     have HLEN := Aside0.mk (fun w1 (h1 : LK wl w1 g v2 wv [⟨x.f0, x.f1, x.f2, 1⟩, ⟨y.f0, y.f1, x.f2, 2⟩] ws 9) => (show Calls Try.prog 59 #[.pointer (some ⟨g, 0, none⟩)] w1 (fun e_ w' => e_ = .returned (.int .i64 2) ∧ w' = w1) from Len_calls wl w1 g v2 wv _ ws 9 h1))
     have HBE := Aside0.mk (below_step HBL.out HL9.out.below)
     clear HG3 HMT
     go_wp2_with (first | (go_at_call 59; with_reducible refine (HLEN.out _ HL9.out).mono ?_; rintro e_ w10 ⟨rfl, h_⟩; rw [h_]; clear h_ w10) | (go_at_call 51; with_reducible refine (lives_calls _).mono ?_; rintro e_ wz ⟨rfl, hb⟩; have HZ := Aside0.mk (below_step HBE.out hb); clear hb))
     go_ret
     exact ⟨rfl, HZ.out⟩
   ·obtain ⟨pe, hpe⟩ : ∃ pe, pe = putE (mayL ws ⟨y.f0, y.f1, x.f2, 2⟩) 9 [⟨x.f0, x.f1, x.f2, 1⟩] ⟨y.f0, y.f1, x.f2, 2⟩ := ⟨_, rfl⟩
    rw [← hpe] at h2
    have HPE2 := Aside0.mk hpe.symm
    have hq : (pe != 0) = true := bne_iff_ne.mpr h2
    clear hpe h2
    go_wp2_with (first | (go_at_call 55; with_reducible refine (Put_calls wl _ g (.slice none 0 0) wv [] ws 9 ⟨x.f0, x.f1, x.f2, 1⟩ A c B d HL.out (HCA.out _ (below_step HBL.out HL.out.below)) (HCB.out _ (below_step HBL.out HL.out.below)) HOX.out.a HOX.out.b HLX.out (Nat.zero_le _)).mono ?_; rintro e_ w2 ⟨rfl, v1, hlp⟩; rw [HPE.out]; rw [HPL.out] at hlp; have HV1 := Aside0.mk (own_not hlp.at_ (blk_lt HS.out.x) (blk_lt HS.out.y)); have HS2 := Aside0.mk (HS.out.keep2 hlp.kept HG8.out (nil_not _ _)); have HL2 := Aside0.mk hlp.lk; clear hlp HS HL x0 x1 x2 x3 y0 y1 y2 y3; have HS := Aside0.mk HS2.out; have HL := Aside0.mk HL2.out; clear HS2 HL2; obtain ⟨⟨x0, x1, x2, x3⟩, y0, y1, y2, y3⟩ := HS.out.cells) | (go_at_call 55; with_reducible refine (Put_calls wl _ g v1 wv [⟨x.f0, x.f1, x.f2, 1⟩] ws 9 ⟨y.f0, y.f1, x.f2, 2⟩ A2 c2 B2 d2 HL.out (HCA2.out _ (below_step HBL.out HL.out.below)) (HCB2.out _ (below_step HBL.out HL.out.below)) HOY.out.a HOY.out.b HLY.out HN1.out).mono ?_; rintro e_ w3 ⟨rfl, v2, hlp⟩; rw [HPE2.out]; have HB2 := Aside0.mk (below_step HBL.out hlp.lk.below); clear hlp) | (go_at_call 51; with_reducible refine (lives_calls _).mono ?_; rintro e_ wz ⟨rfl, hb⟩; have HZ := Aside0.mk (below_step HB2.out hb); clear hb))
    go_ret
    exact ⟨rfl, HZ.out⟩
  ·obtain ⟨pe, hpe⟩ : ∃ pe, pe = putE (mayL ws ⟨x.f0, x.f1, x.f2, 1⟩) 9 [] ⟨x.f0, x.f1, x.f2, 1⟩ := ⟨_, rfl⟩
   rw [← hpe] at h1
   have HPE := Aside0.mk hpe.symm
   have hq : (pe != 0) = true := bne_iff_ne.mpr h1
   clear hpe h1
   go_wp2_with (first | (go_at_call 55; with_reducible refine (Put_calls wl _ g (.slice none 0 0) wv [] ws 9 ⟨x.f0, x.f1, x.f2, 1⟩ A c B d HL.out (HCA.out _ (below_step HBL.out HL.out.below)) (HCB.out _ (below_step HBL.out HL.out.below)) HOX.out.a HOX.out.b HLX.out (Nat.zero_le _)).mono ?_; rintro e_ w2 ⟨rfl, v1, hlp⟩; rw [HPE.out]; have HB2 := Aside0.mk (below_step HBL.out hlp.lk.below); clear hlp) | (go_at_call 51; with_reducible refine (lives_calls _).mono ?_; rintro e_ wz ⟨rfl, hb⟩; have HZ := Aside0.mk (below_step HB2.out hb); clear hb))
   go_ret
   exact ⟨rfl, HZ.out⟩
theorem SpanWider_true (E : Option Addr) (e : Nat) (ws : List Int) (ka : Int) (x : S94) (A : Option Addr) (c : Nat) (B : Option Addr) (d : Nat) (kb : Int) (y : S94) (A2 : Option Addr) (c2 : Nat) (B2 : Option Addr) (d2 : Nat) (w : World) (hE : Kd.C (Kd.int .i64) w E ws.length ws) (he : ws.length ≤ e) (hA : Kd.C k32 w A x.f0.length x.f0) (hc : x.f0.length ≤ c) (hB : Kd.C k32 w B x.f1.length x.f1) (hd : x.f1.length ≤ d) (hA2 : Kd.C k32 w A2 y.f0.length y.f0) (hc2 : y.f0.length ≤ c2) (hB2 : Kd.C k32 w B2 y.f1.length y.f1) (hd2 : y.f1.length ≤ d2) (hx0 : ∀ z ∈ x.f0, okV z) (hx1 : ∀ z ∈ x.f1, okV z) (hy0 : ∀ z ∈ y.f0, okV z) (hy1 : ∀ z ∈ y.f1, okV z) :
 Calls Try.prog 12 #[.slice E ws.length e, .agg #[.int .i64 ka, .int .i64 x.f2, .int .i64 x.f3, .slice A x.f0.length c, .slice B x.f1.length d], .agg #[.int .i64 kb, .int .i64 y.f2, .int .i64 y.f3, .slice A2 y.f0.length c2, .slice B2 y.f1.length d2]] w fun e_ w' => e_ = .returned (.bool true) ∧ Below w.heap.size w w' := by
 by_cases h : 20 < ws.length
 ·exact SpanWider_wide E e ws ka x A c B d kb y A2 c2 B2 d2 w hE he hA hc hB hd hA2 hc2 hB2 hd2 h
 ·cases hL : lightB [⟨ka, x.f2, x.f3, x.f0, x.f1⟩, ⟨kb, y.f2, y.f3, y.f0, y.f1⟩] with
  | false => exact SpanWider_heavy E e ws ka x A c B d kb y A2 c2 B2 d2 w hE he hA hc hB hd hA2 hc2 hB2 hd2 h hL
  | true =>
   cases hW : widB ws 9 with
   | false => exact SpanWider_none E e ws ka x A c B d kb y A2 c2 B2 d2 w hE he hA hc hB hd hA2 hc2 hB2 hd2 h hL hW
   | true => exact SpanWider_try E e ws ka x A c B d kb y A2 c2 B2 d2 w hE he hA hc hB hd hA2 hc2 hB2 hd2 h hL hW hx0 hx1 hy0 hy1
end Go.Proofs.Ytfdbcnbakchcgaa.XQ
