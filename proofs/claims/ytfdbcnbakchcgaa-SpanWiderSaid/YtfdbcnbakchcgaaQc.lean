import Derived.Test.YtfdbcnbakchcgaaSv
import Derived.Test.YtfdbcnbakchcgaaQa
namespace Go.Proofs.Ytfdbcnbakchcgaa.XQ
open Go.RowKit Go.Proofs.YtfdbcnbakchcgaaW.PrintWords Go.Proofs.YtfdbcnbakchcgaaW.PrintLast Go.Proofs.YtfdbcnbakchcgaaW.PrintMore
attribute [local go_sem] max2_int min2_int max_two min_two max_three min_three max_four min_four
set_option linter.unusedVariables false
set_option linter.unusedSimpArgs false
structure LK (w0 w : World) (g : Nat) (v wv : Value) (xs : List S94) (ws : List Int) (m : Int) : Prop where
 blk : w.heap[g]? = some (.cells #[v, wv, .int .i64 m] 163 (0, 0))
 row : Kd.R k94 94 w w0.heap.size (fun k => k ≠ g) v xs
 wid : Kd.V (Kd.int .i64) 3 w 0 (fun k => k ≠ g ∧ some k ≠ v.ownBlock) wv ws
 ge : w0.heap.size ≤ g
 below : Below w0.heap.size w0 w
theorem LK.lt {w0 w : World} {g : Nat} {v wv : Value} {xs : List S94} {ws : List Int} {m : Int} (h : LK w0 w g v wv xs ws m) : g < w.heap.size := blk_lt h.blk
theorem LK.step {w0 w w1 : World} {g : Nat} {v wv : Value} {xs : List S94} {ws : List Int} {m : Int} (h : LK w0 w g v wv xs ws m) (hb : Below w.heap.size w w1) : LK w0 w1 g v wv xs ws m :=
 ⟨blk_below h.blk hb, Kd.R_below h.row hb, Kd.V_below h.wid hb, h.ge, below_step h.below hb⟩
structure BG (w W : World) (o : Obj) (g : Nat) (og : Obj) : Prop where
 bx : W.heap[w.heap.size]? = some o
 bg : W.heap[g]? = some og
 below : Below w.heap.size w W
theorem BG.start {w : World} (o : Obj) {g : Nat} {og : Obj} (h : w.heap[g]? = some og) : BG w (w.alloc o) o g og := ⟨blk_new w o, blk_alloc h o, below_alloc (Below.refl _ _) _⟩
theorem BG.step {w W W1 : World} {o : Obj} {g : Nat} {og : Obj} (h : BG w W o g og) (hb : Below W.heap.size W W1) : BG w W1 o g og := ⟨blk_below h.bx hb, blk_below h.bg hb, below_step h.below hb⟩
def sameI (y x : S94) : Bool := decide (x.f2 = y.f2) && (decide (x.f0 = y.f0) && decide (x.f1 = y.f1))
def idxT (p : S94 → Bool) : List S94 → Nat → Int
 | [], _ => -1
 | y :: t, i => if p y = true then (i : Int) else idxT p t (i + 1)
theorem idxT_drop (p : S94 → Bool) (l : List S94) (i : Nat) (hi : i < l.length) : idxT p (l.drop i) i = if p (rd_T94 l (i : Int)) = true then (i : Int) else idxT p (l.drop (i + 1)) (i + 1) := by
 rw [List.drop_eq_getElem_cons hi, idxT]
 have e : rd_T94 l (i : Int) = l[i] := by simp [rd_T94, List.getD_eq_getElem?_getD, hi]
 rw [e]
structure CB (kb : Nat) (A : Option Addr) (c : Nat) (B : Option Addr) (d : Nat) (x : S94) (W : World) : Prop where
 blk : W.heap[kb]? = some (.cells #[.slice A x.f0.length c, .slice B x.f1.length d, .int .i64 x.f2, .int .i64 x.f3] 94 (0, 0))
 lo : Kd.C k32 W A x.f0.length x.f0
 hi : Kd.C k32 W B x.f1.length x.f1
theorem CB.step {kb : Nat} {A : Option Addr} {c : Nat} {B : Option Addr} {d : Nat} {x : S94} {W W1 : World} (h : CB kb A c B d x W) (hb : Below W.heap.size W W1) : CB kb A c B d x W1 := ⟨blk_below h.blk hb, Kd.C_below h.lo hb, Kd.C_below h.hi hb⟩
def Tells (f : FuncId) (kb : Nat) (G : World → Prop) (p : S94 → Bool) : Prop := ∀ (y : S94) (A : Option Addr) (c : Nat) (B : Option Addr) (d : Nat) (W : World), G W → Kd.C k32 W A y.f0.length y.f0 → Kd.C k32 W B y.f1.length y.f1 → Calls Try.prog f #[.agg #[.slice A y.f0.length c, .slice B y.f1.length d, .int .i64 y.f2, .int .i64 y.f3], .pointer (some ⟨kb, 0, none⟩)] W fun e w' => e = .returned (.bool (p y)) ∧ Below W.heap.size W w'
set_option maxHeartbeats 1000000 in
set_option maxRecDepth 100000 in
theorem find_closure (x : S94) (kb : Nat) (A : Option Addr) (c : Nat) (B : Option Addr) (d : Nat) : Tells 139 kb (CB kb A c B d x) (fun y => sameI y x) := by
 intro y A1 c1 B1 d1 W hG hL hM
 have HK1 := Aside0.mk (hG.step (below_alloc (Below.refl _ _) (.cells #[.slice A1 y.f0.length c1, .slice B1 y.f1.length d1, .int .i64 y.f2, .int .i64 y.f3] 94 (0, 0))))
 have HX1 := Aside0.mk (blk_new W (.cells #[.slice A1 y.f0.length c1, .slice B1 y.f1.length d1, .int .i64 y.f2, .int .i64 y.f3] 94 (0, 0)))
 have HL1 := Aside0.mk (Kd.C_alloc hL (.cells #[.slice A1 y.f0.length c1, .slice B1 y.f1.length d1, .int .i64 y.f2, .int .i64 y.f3] 94 (0, 0)))
 have HM1 := Aside0.mk (Kd.C_alloc hM (.cells #[.slice A1 y.f0.length c1, .slice B1 y.f1.length d1, .int .i64 y.f2, .int .i64 y.f3] 94 (0, 0)))
 have HB1 := Aside0.mk (below_alloc (Below.refl W.heap.size W) (.cells #[.slice A1 y.f0.length c1, .slice B1 y.f1.length d1, .int .i64 y.f2, .int .i64 y.f3] 94 (0, 0)))
 clear hG hL hM
 have q0 := blk_cell HK1.out.blk 0
 have q1 := blk_cell HK1.out.blk 1
 have q2 := blk_cell HK1.out.blk 2
 have q3 := blk_cell HK1.out.blk 3
 have b0 := blk_cell HX1.out 0
 have b1 := blk_cell HX1.out 1
 have b2 := blk_cell HX1.out 2
 have b3 := blk_cell HX1.out 3
 simp only [List.getElem?_toArray, List.getElem?_cons_succ, List.getElem?_cons_zero] at q0 q1 q2 q3 b0 b1 b2 b3
 cases e1 : decide (x.f2 = y.f2) with
 | false =>
  have g1 : (x.f2 == y.f2) = false := by simpa using e1
  have HR := Aside0.mk (show sameI y x = false from by unfold sameI; rw [e1]; rfl)
  clear e1
  go_enter Try.func139, Try.ntmps139
  go_wp2
  go_ret
  exact ⟨by rw [HR.out]; rfl, HB1.out⟩
 | true =>
  cases e2 : decide (x.f0 = y.f0) with
  | false =>
   have HE2 := Aside0.mk e2
   have HR := Aside0.mk (show sameI y x = false from by unfold sameI; rw [e1, e2]; rfl)
   have g1 : (x.f2 == y.f2) = true := by simpa using e1
   clear e1 e2
   go_enter Try.func139, Try.ntmps139
   go_wp2_with (first | (go_at_call 140; with_reducible refine (equal_calls A c x.f0 A1 c1 y.f0 _ HK1.out.lo HL1.out false HE2.out).mono ?_; rintro e_ w2 ⟨rfl, hb⟩; clear q0 q1 q2 q3 b0 b1 b2 b3; have HK2 := Aside0.mk (HK1.out.step hb); have HX2 := Aside0.mk (blk_below HX1.out hb); have HL2 := Aside0.mk (Kd.C_below HL1.out hb); have HM2 := Aside0.mk (Kd.C_below HM1.out hb); have HB2 := Aside0.mk (below_step HB1.out hb); clear hb; have q0 := blk_cell HK2.out.blk 0; have q1 := blk_cell HK2.out.blk 1; have q2 := blk_cell HK2.out.blk 2; have q3 := blk_cell HK2.out.blk 3; have b0 := blk_cell HX2.out 0; have b1 := blk_cell HX2.out 1; have b2 := blk_cell HX2.out 2; have b3 := blk_cell HX2.out 3; simp only [List.getElem?_toArray, List.getElem?_cons_succ, List.getElem?_cons_zero] at q0 q1 q2 q3 b0 b1 b2 b3))
   go_ret
   exact ⟨by rw [HR.out]; rfl, HB2.out⟩
  | true =>
   obtain ⟨b3_, e3⟩ : ∃ b, decide (x.f1 = y.f1) = b := ⟨_, rfl⟩
   have HE2 := Aside0.mk e2
   have HE3 := Aside0.mk e3
   have HR := Aside0.mk (show sameI y x = b3_ from by unfold sameI; rw [e1, e2, e3]; rfl)
   have g1 : (x.f2 == y.f2) = true := by simpa using e1
   clear e1 e2 e3
   go_enter Try.func139, Try.ntmps139
   go_wp2_with (first | (go_at_call 140; with_reducible refine (equal_calls A c x.f0 A1 c1 y.f0 _ HK1.out.lo HL1.out true HE2.out).mono ?_; rintro e_ w2 ⟨rfl, hb⟩; clear q0 q1 q2 q3 b0 b1 b2 b3; have HK2 := Aside0.mk (HK1.out.step hb); have HX2 := Aside0.mk (blk_below HX1.out hb); have HL2 := Aside0.mk (Kd.C_below HL1.out hb); have HM2 := Aside0.mk (Kd.C_below HM1.out hb); have HB2 := Aside0.mk (below_step HB1.out hb); clear hb; have q0 := blk_cell HK2.out.blk 0; have q1 := blk_cell HK2.out.blk 1; have q2 := blk_cell HK2.out.blk 2; have q3 := blk_cell HK2.out.blk 3; have b0 := blk_cell HX2.out 0; have b1 := blk_cell HX2.out 1; have b2 := blk_cell HX2.out 2; have b3 := blk_cell HX2.out 3; simp only [List.getElem?_toArray, List.getElem?_cons_succ, List.getElem?_cons_zero] at q0 q1 q2 q3 b0 b1 b2 b3) | (go_at_call 140; with_reducible refine (equal_calls B d x.f1 B1 d1 y.f1 _ HK2.out.hi HM2.out b3_ HE3.out).mono ?_; rintro e_ w3 ⟨rfl, hb⟩; clear q0 q1 q2 q3 b0 b1 b2 b3; have HK3 := Aside0.mk (HK2.out.step hb); have HX3 := Aside0.mk (blk_below HX2.out hb); have HL3 := Aside0.mk (Kd.C_below HL2.out hb); have HM3 := Aside0.mk (Kd.C_below HM2.out hb); have HB3 := Aside0.mk (below_step HB2.out hb); clear hb; have q0 := blk_cell HK3.out.blk 0; have q1 := blk_cell HK3.out.blk 1; have q2 := blk_cell HK3.out.blk 2; have q3 := blk_cell HK3.out.blk 3; have b0 := blk_cell HX3.out 0; have b1 := blk_cell HX3.out 1; have b2 := blk_cell HX3.out 2; have b3 := blk_cell HX3.out 3; simp only [List.getElem?_toArray, List.getElem?_cons_succ, List.getElem?_cons_zero] at q0 q1 q2 q3 b0 b1 b2 b3))
   go_ret
   exact ⟨by rw [HR.out]; rfl, HB3.out⟩
set_option maxHeartbeats 1000000 in
set_option maxRecDepth 100000 in
theorem put_closure (x : S94) (kb : Nat) (A : Option Addr) (c : Nat) (B : Option Addr) (d : Nat) : Tells 109 kb (CB kb A c B d x) (fun y => decide (x.f2 < y.f2)) := by
 intro y A1 c1 B1 d1 W hG hL hM
 have q2 := blk_cell hG.blk 2
 simp only [List.getElem?_toArray, List.getElem?_cons_succ, List.getElem?_cons_zero] at q2
 have hkl := blk_lt hG.blk
 have hkn : kb ≠ W.heap.size := by omega
 clear hG hL hM
 go_enter Try.func109, Try.ntmps109
 go_wp2
 go_ret
 exact ⟨rfl, below_alloc (Below.refl _ _) _⟩
set_option maxHeartbeats 1000000 in
set_option maxRecDepth 100000 in
theorem idx_find (kb : Nat) (G : World → Prop) (hgs : ∀ W W1 : World, Below W.heap.size W W1 → G W → G W1) (p : S94 → Bool) (hT : Tells 139 kb G p) (A0 : Option Addr) (c0 : Nat) (l0 : List S94) (w : World) (hk : G w) (hr0 : Kd.C k94 w A0 l0.length l0) (hl : l0.length ≤ 1000) :
 Calls Try.prog 108 #[.slice A0 l0.length c0, .func (.func 139) #[] #[.pointer (some ⟨kb, 0, none⟩)]] w fun e w' => e = .returned (.int .i64 (idxT p l0 0)) ∧ Below w.heap.size w w' := by
 have HT := Aside0.mk (show ∀ (y : S94) (A : Option Addr) (c : Nat) (B : Option Addr) (d : Nat) (W : World), G W → Kd.C k32 W A y.f0.length y.f0 → Kd.C k32 W B y.f1.length y.f1 → Calls Try.prog 139 #[.agg #[.slice A y.f0.length c, .slice B y.f1.length d, .int .i64 y.f2, .int .i64 y.f3], .pointer (some ⟨kb, 0, none⟩)] W fun e w' => e = .returned (.bool (p y)) ∧ Below W.heap.size W w' from hT)
 clear hT
 have HK := Aside0.mk hk
 have HGS := Aside0.mk hgs
 have HR0 := Aside0.mk hr0
 clear hk hr0 hgs
 go_enter Try.func108, Try.ntmps108
 go_wp2
 go_loopw [8] (fun n w' => ∃ i : Nat, i ≤ l0.length ∧ n = .int .i64 i ∧ Aside0 (idxT p (l0.drop i) i = idxT p l0 0) ∧ Aside0 (Below w.heap.size w w')) (fun n _ => l0.length - (intOf n).toNat)
 case atStart => exact ⟨0, Nat.zero_le _, rfl, ⟨by rw [List.drop_zero]⟩, ⟨Below.refl _ _⟩⟩
 case round =>
  obtain ⟨i, hi, rfl, HG, HB⟩ := hrel
  by_cases hlt : i < l0.length
  ·have hg := HG.out
   rw [idxT_drop _ _ _ hlt] at hg
   obtain ⟨ad, A1, c1, B1, d1, hA, p0, p1, p2, p3, hx0, hL1, hx1, hM1⟩ := at_T94 (Kd.C_below HR0.out HB.out) (i : Int) (by omega) (by omega)
   subst hA
   rw [Int.toNat_natCast] at p0 p1 p2 p3
   have HGW := Aside0.mk (HGS.out _ _ HB.out HK.out)
   have HL1 := Aside0.mk hL1
   have HM1 := Aside0.mk hM1
   clear hL1 hM1 hx0 hx1
   generalize rd_T94 l0 (i : Int) = x at *
   by_cases hpx : p x = true
   ·rw [if_pos hpx] at hg
    have HG2 := Aside0.mk hg
    clear hg
    go_wp2_with (go_at_call 139; refine (HT.out x A1 c1 B1 d1 _ HGW.out HL1.out HM1.out).mono ?_; rintro e w1 ⟨rfl, hb⟩; have HB1 := Aside0.mk (below_step HB.out hb); clear hb; rw [hpx])
    go_ret
    exact ⟨by rw [← HG2.out]; rfl, HB1.out⟩
   ·replace hpx : p x = false := by simpa using hpx
    rw [if_neg (by rw [hpx]; simp)] at hg
    have HG2 := Aside0.mk hg
    clear hg
    go_wp2_with (go_at_call 139; refine (HT.out x A1 c1 B1 d1 _ HGW.out HL1.out HM1.out).mono ?_; rintro e w1 ⟨rfl, hb⟩; have HB1 := Aside0.mk (below_step HB.out hb); clear hb; rw [hpx])
    go_roundw
    case rel => exact ⟨i + 1, hlt, by go_num, HG2, HB1⟩
    case measure => simp [intOf]; omega
  ·obtain rfl : i = l0.length := by omega
   have hg := HG.out
   rw [List.drop_length, idxT] at hg
   have HG2 := Aside0.mk hg
   clear hg
   go_wp2
   go_ret
   exact ⟨by rw [← HG2.out]; rfl, HB.out⟩
set_option maxHeartbeats 1000000 in
set_option maxRecDepth 100000 in
theorem idx_put (kb : Nat) (G : World → Prop) (hgs : ∀ W W1 : World, Below W.heap.size W W1 → G W → G W1) (p : S94 → Bool) (hT : Tells 109 kb G p) (A0 : Option Addr) (c0 : Nat) (l0 : List S94) (w : World) (hk : G w) (hr0 : Kd.C k94 w A0 l0.length l0) (hl : l0.length ≤ 1000) :
 Calls Try.prog 108 #[.slice A0 l0.length c0, .func (.func 109) #[] #[.pointer (some ⟨kb, 0, none⟩)]] w fun e w' => e = .returned (.int .i64 (idxT p l0 0)) ∧ Below w.heap.size w w' := by
 have HT := Aside0.mk (show ∀ (y : S94) (A : Option Addr) (c : Nat) (B : Option Addr) (d : Nat) (W : World), G W → Kd.C k32 W A y.f0.length y.f0 → Kd.C k32 W B y.f1.length y.f1 → Calls Try.prog 109 #[.agg #[.slice A y.f0.length c, .slice B y.f1.length d, .int .i64 y.f2, .int .i64 y.f3], .pointer (some ⟨kb, 0, none⟩)] W fun e w' => e = .returned (.bool (p y)) ∧ Below W.heap.size W w' from hT)
 clear hT
 have HK := Aside0.mk hk
 have HGS := Aside0.mk hgs
 have HR0 := Aside0.mk hr0
 clear hk hr0 hgs
 go_enter Try.func108, Try.ntmps108
 go_wp2
 go_loopw [8] (fun n w' => ∃ i : Nat, i ≤ l0.length ∧ n = .int .i64 i ∧ Aside0 (idxT p (l0.drop i) i = idxT p l0 0) ∧ Aside0 (Below w.heap.size w w')) (fun n _ => l0.length - (intOf n).toNat)
 case atStart => exact ⟨0, Nat.zero_le _, rfl, ⟨by rw [List.drop_zero]⟩, ⟨Below.refl _ _⟩⟩
 case round =>
  obtain ⟨i, hi, rfl, HG, HB⟩ := hrel
  by_cases hlt : i < l0.length
  ·have hg := HG.out
   rw [idxT_drop _ _ _ hlt] at hg
   obtain ⟨ad, A1, c1, B1, d1, hA, p0, p1, p2, p3, hx0, hL1, hx1, hM1⟩ := at_T94 (Kd.C_below HR0.out HB.out) (i : Int) (by omega) (by omega)
   subst hA
   rw [Int.toNat_natCast] at p0 p1 p2 p3
   have HGW := Aside0.mk (HGS.out _ _ HB.out HK.out)
   have HL1 := Aside0.mk hL1
   have HM1 := Aside0.mk hM1
   clear hL1 hM1 hx0 hx1
   generalize rd_T94 l0 (i : Int) = x at *
   by_cases hpx : p x = true
   ·rw [if_pos hpx] at hg
    have HG2 := Aside0.mk hg
    clear hg
    go_wp2_with (go_at_call 109; refine (HT.out x A1 c1 B1 d1 _ HGW.out HL1.out HM1.out).mono ?_; rintro e w1 ⟨rfl, hb⟩; have HB1 := Aside0.mk (below_step HB.out hb); clear hb; rw [hpx])
    go_ret
    exact ⟨by rw [← HG2.out]; rfl, HB1.out⟩
   ·replace hpx : p x = false := by simpa using hpx
    rw [if_neg (by rw [hpx]; simp)] at hg
    have HG2 := Aside0.mk hg
    clear hg
    go_wp2_with (go_at_call 109; refine (HT.out x A1 c1 B1 d1 _ HGW.out HL1.out HM1.out).mono ?_; rintro e w1 ⟨rfl, hb⟩; have HB1 := Aside0.mk (below_step HB.out hb); clear hb; rw [hpx])
    go_roundw
    case rel => exact ⟨i + 1, hlt, by go_num, HG2, HB1⟩
    case measure => simp [intOf]; omega
  ·obtain rfl : i = l0.length := by omega
   have hg := HG.out
   rw [List.drop_length, idxT] at hg
   have HG2 := Aside0.mk hg
   clear hg
   go_wp2
   go_ret
   exact ⟨by rw [← HG2.out]; rfl, HB.out⟩
set_option maxHeartbeats 1000000 in
set_option maxRecDepth 100000 in
theorem find_calls (w0 w : World) (g : Nat) (v wv : Value) (xs : List S94) (ws : List Int) (m : Int) (x : S94) (A : Option Addr) (c : Nat) (B : Option Addr) (d : Nat) (h : LK w0 w g v wv xs ws m) (hA : Kd.C k32 w A x.f0.length x.f0) (hB : Kd.C k32 w B x.f1.length x.f1) (hn : xs.length ≤ 1000) :
 Calls Try.prog 107 #[.pointer (some ⟨g, 0, none⟩), .agg #[.slice A x.f0.length c, .slice B x.f1.length d, .int .i64 x.f2, .int .i64 x.f3]] w fun e w' => e = .returned (.int .i64 (idxT (fun y => sameI y x) xs 0)) ∧ Below w.heap.size w w' := by
 obtain ⟨AX, cX, rfl, hc, hC⟩ := Kd.R_reads h.row
 have c0 : w.cell? ⟨g, 0, none⟩ = some (.slice AX xs.length cX) := blk_cell h.blk 0
 have hg := h.lt
 have c0' := (below_alloc (Below.refl w.heap.size w) (.cells #[.slice A x.f0.length c, .slice B x.f1.length d, .int .i64 x.f2, .int .i64 x.f3] 94 (0, 0))).cell (p := ⟨g, 0, none⟩) hg |>.trans c0
 have HCC := Aside0.mk (Kd.C_alloc hC (.cells #[.slice A x.f0.length c, .slice B x.f1.length d, .int .i64 x.f2, .int .i64 x.f3] 94 (0, 0)))
 have HCB := Aside0.mk (show CB w.heap.size A c B d x (w.alloc (.cells #[.slice A x.f0.length c, .slice B x.f1.length d, .int .i64 x.f2, .int .i64 x.f3] 94 (0, 0))) from ⟨blk_new w _, Kd.C_alloc hA _, Kd.C_alloc hB _⟩)
 have hmf : ∀ (fn : Fn) (first cap : Array Value) (w : World), (Instr.makeFunc fn first cap).run Try.prog w = .ok (.func fn first cap) w := fun _ _ _ _ => rfl
 clear h hC hA hB
 go_enter Try.func107, Try.ntmps107
 go_wp2_with (go_at_call 108; refine (idx_find w.heap.size _ (fun _ _ hb hg => CB.step hg hb) _ (find_closure x _ A c B d) AX cX xs _ HCB.out HCC.out hn).mono ?_; rintro e w1 ⟨rfl, hb⟩; have HB1 := Aside0.mk (below_step (below_alloc (Below.refl _ _) _) hb); clear hb)
 go_ret
 exact ⟨rfl, HB1.out⟩
def fitW (ws : List Int) (l : List S32) (i : Nat) : Bool := mayV (lx l i) && ((lx l i).f0 == rd ws (i : Int))
theorem lx_ok {l : List S32} (h : ∀ y ∈ l, okV y) {i : Nat} (hi : i < l.length) : okV (lx l i) := by
 have e : lx l i = l[i] := by simp [lx, rd_T32, List.getD_eq_getElem?_getD, hi]
 rw [e]
 exact h _ (List.getElem_mem hi)
set_option maxHeartbeats 1000000 in
set_option maxRecDepth 100000 in
theorem wide_calls (w : World) (g : Nat) (v : Value) (E : Option Addr) (e : Nat) (ws : List Int) (m : Int) (A : Option Addr) (c : Nat) (l : List S32) (hg : w.heap[g]? = some (.cells #[v, .slice E ws.length e, .int .i64 m] 163 (0, 0))) (hE : Kd.C (Kd.int .i64) w E ws.length ws) (hA : Kd.C k32 w A l.length l) (hl : l.length = ws.length) (hok : ∀ y ∈ l, okV y) :
 Calls Try.prog 137 #[.pointer (some ⟨g, 0, none⟩), .slice A l.length c] w fun e_ w' => e_ = .returned (.bool (allTo (fitW ws l) ws.length)) ∧ Below w.heap.size w w' := by
 have HLB := Aside0.mk hg
 have HWS := Aside0.mk hE
 have HLO := Aside0.mk hA
 have HE1 := Aside0.mk hl
 have HOK := Aside0.mk hok
 clear hg hE hA hl hok
 go_enter Try.func137, Try.ntmps137
 go_wp2
 go_loopw [9] (fun u9 w' => ∃ i : Nat, i ≤ l.length ∧ u9 = .int .i64 i ∧ Aside0 (allTo (fitW ws l) i = true) ∧ Aside0 (Below w.heap.size w w')) (fun u9 _ => l.length - (intOf u9).toNat)
 case atStart => exact ⟨0, Nat.zero_le _, rfl, ⟨allTo_zero _⟩, ⟨Below.refl _ _⟩⟩
 case round =>
  obtain ⟨i, hi_, rfl, HF, HB7⟩ := hrel
  by_cases hlt : i < l.length
  ·have hmax := HLO.out.2.1
   have hl1 := HE1.out
   have hi0 : 0 ≤ (i : Int) := by omega
   have hil : (i : Int) < (l.length : Int) := by omega
   have hiw : (i : Int) < (ws.length : Int) := by omega
   have hlw : i < ws.length := by omega
   clear hl1
   obtain ⟨da, hA, _⟩ := at_T32 HLO.out (i : Int) hi0 (by omega)
   subst hA
   obtain ⟨x, hx⟩ : ∃ x, x = rd_T32 l (i : Int) := ⟨_, rfl⟩
   obtain ⟨dw, hW, _⟩ := Kd.at_int HWS.out (i : Int) hi0 (by omega)
   subst hW
   obtain ⟨v_, hv⟩ : ∃ v, v = rd ws (i : Int) := ⟨_, rfl⟩
   have HWI := Aside0.mk (show ∀ w', Below w.heap.size w w' → w'.cell? (dw.add i) = some (.int .i64 v_) from fun w' hb => by
    obtain ⟨ad2, e2, h2⟩ := Kd.at_int (Kd.C_below HWS.out hb) (i : Int) hi0 (by omega)
    injection e2 with e2
    subst e2
    rw [Int.toNat_natCast, ← hv] at h2
    exact h2)
   have HCX := Aside0.mk (show ∀ w', Below w.heap.size w w' → w'.cell? (da.add (i * 3)) = some (.int .i64 x.f0) ∧ w'.cell? ⟨(da.add (i * 3)).block, (da.add (i * 3)).off + 1, none⟩ = some (.int .u64 x.f1) ∧ w'.cell? ⟨(da.add (i * 3)).block, (da.add (i * 3)).off + 2, none⟩ = some (.int .u64 x.f2) from fun w' hb => by
    obtain ⟨ad2, e2, h2⟩ := at_T32 (Kd.C_below HLO.out hb) (i : Int) hi0 (by omega)
    injection e2 with e2
    subst e2
    rw [Int.toNat_natCast, show rd_T32 l (i : Int) = x from hx.symm] at h2
    exact h2)
   have hox : okV x := by rw [hx]; exact lx_ok HOK.out hlt
   have hmx := vec_May_ok hox
   have hfit : fitW ws l i = (mayV x && (x.f0 == v_)) := by unfold fitW lx; rw [← hx, ← hv]
   have HFIT := Aside0.mk hfit
   clear hfit hox hx hv
   obtain ⟨s0, s1, s2⟩ := HCX.out wr HB7.out
   cases e1 : mayV x with
   | false =>
    have HMX := Aside0.mk (show vec_May.f x.f0 x.f1 x.f2 = some false from by rw [hmx, e1])
    have hfi : fitW ws l i = false := by rw [HFIT.out, e1]; simp
    have HR := Aside0.mk (allTo_no hlw hfi)
    clear hfi
    clear e1 hmx
    go_wp2
    have HYN := Aside0.mk (blk_new wr (.cells #[.int .i64 x.f0, .int .u64 x.f1, .int .u64 x.f2] 32 (0, 0)))
    have HBN := Aside0.mk (below_alloc HB7.out (.cells #[.int .i64 x.f0, .int .u64 x.f1, .int .u64 x.f2] 32 (0, 0)))
    generalize wr.alloc (.cells #[.int .i64 x.f0, .int .u64 x.f1, .int .u64 x.f2] 32 (0, 0)) = wq at HYN HBN ⊢
    generalize wr.heap.size = gy at HYN ⊢
    refine start_ (n := 15) (S := fun w' => Below wq.heap.size wq w') (ds := []) #[false, false, false, false, false, false, false, false, false, false, false, false, false, false, false] (by kernel_rfl) rfl rfl (below_drew1 (Below.refl _ _)) (fun hHeld => ?_)
    clear HB7
    generalize World.drew _ = w8 at hHeld ⊢
    refine take_ (i := 0) (N := some 14) (v := ?_) (a' := ?_) #[true, false, false, false, false, false, false, false, false, false, false, false, false, false, false] rfl rfl (by kernel_rfl) (fun _ _ _ h => h) (Or.inl ⟨by rfl, ?_⟩) hHeld ?_ ?_
    rotate_left
    ·intro w' hs
     have y0 := blk_cell (blk_below HYN.out hs) 0
     have y1 := blk_cell (blk_below HYN.out hs) 1
     have y2 := blk_cell (blk_below HYN.out hs) 2
     simp only [List.getElem?_toArray, List.getElem?_cons_succ, List.getElem?_cons_zero] at y0 y1 y2
     go_simp
     with_reducible rfl
    rotate_left
    ·simp only [Act.put, List.setIfInBounds_toArray, List.set_cons_zero, List.set_cons_succ, i64_w, i32_w]
     rfl
    have HH := Aside0.mk hHeld
    clear hHeld
    refine one_ (i := 1) (N := some 15) #[true, true, false, false, false, false, false, false, false, false, false, false, false, false, false] rfl rfl (by kernel_rfl) (by decide) (fun K hK => ?_)
    refine goes_ Try.func73 (by kernel_rfl) rfl #[.agg #[.int .i64 x.f0, .int .u64 x.f1, .int .u64 x.f2]] (by rfl) rfl rfl (by simp only [List.map_toArray, List.map_cons, List.map_nil]; first | rfl | (go_simp; done)) ?_
    with_reducible refine (vec_May.calls x.f0 x.f1 x.f2 false _ HMX.out).mono ?_
    rintro e_ w1 ⟨rfl, hb⟩
    refine ⟨_, rfl, ?_⟩
    have HB8 := Aside0.mk (below_step HH.out hb)
    clear hb HH
    refine hK.out _ _ HB8.out (fun hHeld => ?_)
    clear hK K
    refine norm_ (a' := ?_) ?_ ?_
    rotate_left
    ·show Act.put _ (some 15) _ = _
     simp only [Act.put, List.setIfInBounds_toArray, List.set_cons_zero, List.set_cons_succ, i64_w, i32_w]
     rfl
    refine pl_ [2, 3, 4, 5, 6, 7, 8, 9, 10, 11, 12, 13, 14] ?_
    iterate 2 refine qP rfl rfl ?_
    iterate 10 refine qU rfl rfl ?_
    refine qP rfl rfl ?_
    refine pl0 ?_
    refine done_ (by kernel_rfl) ?_
    have HBC := Aside0.mk (below_step HBN.out hHeld)
    clear hHeld
    go_wp2
    go_ret
    exact ⟨by rw [HR.out]; rfl, HBC.out⟩
   | true =>
    cases e3 : (x.f0 == v_) with
    | false =>
     have HMX := Aside0.mk (show vec_May.f x.f0 x.f1 x.f2 = some true from by rw [hmx, e1])
     have hfi : fitW ws l i = false := by rw [HFIT.out, e3]; simp
     have HR := Aside0.mk (allTo_no hlw hfi)
     clear hfi
     have e4 : (x.f0 != v_) = true := by simpa using e3
     clear e1 e3 hmx
     go_wp2
     have HYN := Aside0.mk (blk_new wr (.cells #[.int .i64 x.f0, .int .u64 x.f1, .int .u64 x.f2] 32 (0, 0)))
     have HBN := Aside0.mk (below_alloc HB7.out (.cells #[.int .i64 x.f0, .int .u64 x.f1, .int .u64 x.f2] 32 (0, 0)))
     generalize wr.alloc (.cells #[.int .i64 x.f0, .int .u64 x.f1, .int .u64 x.f2] 32 (0, 0)) = wq at HYN HBN ⊢
     generalize wr.heap.size = gy at HYN ⊢
     refine start_ (n := 15) (S := fun w' => Below wq.heap.size wq w') (ds := []) #[false, false, false, false, false, false, false, false, false, false, false, false, false, false, false] (by kernel_rfl) rfl rfl (below_drew1 (Below.refl _ _)) (fun hHeld => ?_)
     clear HB7
     generalize World.drew _ = w8 at hHeld ⊢
     refine take_ (i := 0) (N := some 14) (v := ?_) (a' := ?_) #[true, false, false, false, false, false, false, false, false, false, false, false, false, false, false] rfl rfl (by kernel_rfl) (fun _ _ _ h => h) (Or.inl ⟨by rfl, ?_⟩) hHeld ?_ ?_
     rotate_left
     ·intro w' hs
      have y0 := blk_cell (blk_below HYN.out hs) 0
      have y1 := blk_cell (blk_below HYN.out hs) 1
      have y2 := blk_cell (blk_below HYN.out hs) 2
      simp only [List.getElem?_toArray, List.getElem?_cons_succ, List.getElem?_cons_zero] at y0 y1 y2
      go_simp
      with_reducible rfl
     rotate_left
     ·simp only [Act.put, List.setIfInBounds_toArray, List.set_cons_zero, List.set_cons_succ, i64_w, i32_w]
      rfl
     have HH := Aside0.mk hHeld
     clear hHeld
     refine one_ (i := 1) (N := some 15) #[true, true, false, false, false, false, false, false, false, false, false, false, false, false, false] rfl rfl (by kernel_rfl) (by decide) (fun K hK => ?_)
     refine goes_ Try.func73 (by kernel_rfl) rfl #[.agg #[.int .i64 x.f0, .int .u64 x.f1, .int .u64 x.f2]] (by rfl) rfl rfl (by simp only [List.map_toArray, List.map_cons, List.map_nil]; first | rfl | (go_simp; done)) ?_
     with_reducible refine (vec_May.calls x.f0 x.f1 x.f2 true _ HMX.out).mono ?_
     rintro e_ w1 ⟨rfl, hb⟩
     refine ⟨_, rfl, ?_⟩
     have HB8 := Aside0.mk (below_step HH.out hb)
     clear hb HH
     refine hK.out _ _ HB8.out (fun hHeld => ?_)
     clear hK K
     refine norm_ (a' := ?_) ?_ ?_
     rotate_left
     ·show Act.put _ (some 15) _ = _
      simp only [Act.put, List.setIfInBounds_toArray, List.set_cons_zero, List.set_cons_succ, i64_w, i32_w]
      rfl
     refine pl_ [2, 3, 4, 6, 10] ?_
     iterate 5 refine qP rfl rfl ?_
     refine pl0 ?_
     refine take_ (i := 5) (N := some 19) (v := ?_) (a' := ?_) #[true, true, true, true, true, true, true, false, false, false, true, false, false, false, false] rfl rfl (by kernel_rfl) (fun _ _ _ h => h) (Or.inl ⟨by rfl, ?_⟩) hHeld ?_ ?_
     rotate_left
     ·intro w' hs
      have y0 := blk_cell (blk_below HYN.out hs) 0
      have y1 := blk_cell (blk_below HYN.out hs) 1
      have y2 := blk_cell (blk_below HYN.out hs) 2
      simp only [List.getElem?_toArray, List.getElem?_cons_succ, List.getElem?_cons_zero] at y0 y1 y2
      go_simp
      with_reducible rfl
     rotate_left
     ·simp only [Act.put, List.setIfInBounds_toArray, List.set_cons_zero, List.set_cons_succ, i64_w, i32_w]
      rfl
     refine pl_ [7, 8] ?_
     iterate 2 refine qP rfl rfl ?_
     refine pl0 ?_
     refine take_ (i := 9) (N := some 23) (v := ?_) (a' := ?_) #[true, true, true, true, true, true, true, true, true, true, true, false, false, false, false] rfl rfl (by kernel_rfl) (fun _ _ _ h => h) (Or.inl ⟨by rfl, ?_⟩) hHeld ?_ ?_
     rotate_left
     ·intro w' hs
      have l1 := blk_cell (blk_below HLB.out (below_step HBN.out hs)) 1
      simp only [List.getElem?_toArray, List.getElem?_cons_succ, List.getElem?_cons_zero] at l1
      go_simp
      with_reducible rfl
     rotate_left
     ·simp only [Act.put, List.setIfInBounds_toArray, List.set_cons_zero, List.set_cons_succ, i64_w, i32_w]
      rfl
     refine pl_ [11] ?_
     refine qP rfl rfl ?_
     refine pl0 ?_
     refine take_ (i := 12) (N := some 26) (v := ?_) (a' := ?_) #[true, true, true, true, true, true, true, true, true, true, true, true, true, false, false] rfl rfl (by kernel_rfl) (fun _ _ _ h => h) (Or.inl ⟨by rfl, ?_⟩) hHeld ?_ ?_
     rotate_left
     ·intro w' hs
      have s0 := HWI.out w' (below_step HBN.out hs)
      go_simp
      with_reducible rfl
     rotate_left
     ·simp only [Act.put, List.setIfInBounds_toArray, List.set_cons_zero, List.set_cons_succ, i64_w, i32_w]
      rfl
     refine pl_ [13, 14] ?_
     iterate 2 refine qP rfl rfl ?_
     refine pl0 ?_
     refine done_ (by kernel_rfl) ?_
     have HBC := Aside0.mk (below_step HBN.out hHeld)
     clear hHeld
     go_wp2
     go_ret
     exact ⟨by rw [HR.out]; rfl, HBC.out⟩
    | true =>
     have HMX := Aside0.mk (show vec_May.f x.f0 x.f1 x.f2 = some true from by rw [hmx, e1])
     have hfi : fitW ws l i = true := by rw [HFIT.out, e1, e3]; rfl
     have HF2 := Aside0.mk (allTo_succ HF.out hfi)
     have e4 : (x.f0 != v_) = false := by simpa using e3
     clear e1 e3 hmx hfi
     go_wp2
     have HYN := Aside0.mk (blk_new wr (.cells #[.int .i64 x.f0, .int .u64 x.f1, .int .u64 x.f2] 32 (0, 0)))
     have HBN := Aside0.mk (below_alloc HB7.out (.cells #[.int .i64 x.f0, .int .u64 x.f1, .int .u64 x.f2] 32 (0, 0)))
     generalize wr.alloc (.cells #[.int .i64 x.f0, .int .u64 x.f1, .int .u64 x.f2] 32 (0, 0)) = wq at HYN HBN ⊢
     generalize wr.heap.size = gy at HYN ⊢
     refine start_ (n := 15) (S := fun w' => Below wq.heap.size wq w') (ds := []) #[false, false, false, false, false, false, false, false, false, false, false, false, false, false, false] (by kernel_rfl) rfl rfl (below_drew1 (Below.refl _ _)) (fun hHeld => ?_)
     clear HB7
     generalize World.drew _ = w8 at hHeld ⊢
     refine take_ (i := 0) (N := some 14) (v := ?_) (a' := ?_) #[true, false, false, false, false, false, false, false, false, false, false, false, false, false, false] rfl rfl (by kernel_rfl) (fun _ _ _ h => h) (Or.inl ⟨by rfl, ?_⟩) hHeld ?_ ?_
     rotate_left
     ·intro w' hs
      have y0 := blk_cell (blk_below HYN.out hs) 0
      have y1 := blk_cell (blk_below HYN.out hs) 1
      have y2 := blk_cell (blk_below HYN.out hs) 2
      simp only [List.getElem?_toArray, List.getElem?_cons_succ, List.getElem?_cons_zero] at y0 y1 y2
      go_simp
      with_reducible rfl
     rotate_left
     ·simp only [Act.put, List.setIfInBounds_toArray, List.set_cons_zero, List.set_cons_succ, i64_w, i32_w]
      rfl
     have HH := Aside0.mk hHeld
     clear hHeld
     refine one_ (i := 1) (N := some 15) #[true, true, false, false, false, false, false, false, false, false, false, false, false, false, false] rfl rfl (by kernel_rfl) (by decide) (fun K hK => ?_)
     refine goes_ Try.func73 (by kernel_rfl) rfl #[.agg #[.int .i64 x.f0, .int .u64 x.f1, .int .u64 x.f2]] (by rfl) rfl rfl (by simp only [List.map_toArray, List.map_cons, List.map_nil]; first | rfl | (go_simp; done)) ?_
     with_reducible refine (vec_May.calls x.f0 x.f1 x.f2 true _ HMX.out).mono ?_
     rintro e_ w1 ⟨rfl, hb⟩
     refine ⟨_, rfl, ?_⟩
     have HB8 := Aside0.mk (below_step HH.out hb)
     clear hb HH
     refine hK.out _ _ HB8.out (fun hHeld => ?_)
     clear hK K
     refine norm_ (a' := ?_) ?_ ?_
     rotate_left
     ·show Act.put _ (some 15) _ = _
      simp only [Act.put, List.setIfInBounds_toArray, List.set_cons_zero, List.set_cons_succ, i64_w, i32_w]
      rfl
     refine pl_ [2, 3, 4, 6, 10] ?_
     iterate 5 refine qP rfl rfl ?_
     refine pl0 ?_
     refine take_ (i := 5) (N := some 19) (v := ?_) (a' := ?_) #[true, true, true, true, true, true, true, false, false, false, true, false, false, false, false] rfl rfl (by kernel_rfl) (fun _ _ _ h => h) (Or.inl ⟨by rfl, ?_⟩) hHeld ?_ ?_
     rotate_left
     ·intro w' hs
      have y0 := blk_cell (blk_below HYN.out hs) 0
      have y1 := blk_cell (blk_below HYN.out hs) 1
      have y2 := blk_cell (blk_below HYN.out hs) 2
      simp only [List.getElem?_toArray, List.getElem?_cons_succ, List.getElem?_cons_zero] at y0 y1 y2
      go_simp
      with_reducible rfl
     rotate_left
     ·simp only [Act.put, List.setIfInBounds_toArray, List.set_cons_zero, List.set_cons_succ, i64_w, i32_w]
      rfl
     refine pl_ [7, 8] ?_
     iterate 2 refine qP rfl rfl ?_
     refine pl0 ?_
     refine take_ (i := 9) (N := some 23) (v := ?_) (a' := ?_) #[true, true, true, true, true, true, true, true, true, true, true, false, false, false, false] rfl rfl (by kernel_rfl) (fun _ _ _ h => h) (Or.inl ⟨by rfl, ?_⟩) hHeld ?_ ?_
     rotate_left
     ·intro w' hs
      have l1 := blk_cell (blk_below HLB.out (below_step HBN.out hs)) 1
      simp only [List.getElem?_toArray, List.getElem?_cons_succ, List.getElem?_cons_zero] at l1
      go_simp
      with_reducible rfl
     rotate_left
     ·simp only [Act.put, List.setIfInBounds_toArray, List.set_cons_zero, List.set_cons_succ, i64_w, i32_w]
      rfl
     refine pl_ [11] ?_
     refine qP rfl rfl ?_
     refine pl0 ?_
     refine take_ (i := 12) (N := some 26) (v := ?_) (a' := ?_) #[true, true, true, true, true, true, true, true, true, true, true, true, true, false, false] rfl rfl (by kernel_rfl) (fun _ _ _ h => h) (Or.inl ⟨by rfl, ?_⟩) hHeld ?_ ?_
     rotate_left
     ·intro w' hs
      have s0 := HWI.out w' (below_step HBN.out hs)
      go_simp
      with_reducible rfl
     rotate_left
     ·simp only [Act.put, List.setIfInBounds_toArray, List.set_cons_zero, List.set_cons_succ, i64_w, i32_w]
      rfl
     refine pl_ [13, 14] ?_
     iterate 2 refine qP rfl rfl ?_
     refine pl0 ?_
     refine done_ (by kernel_rfl) ?_
     have HBC := Aside0.mk (below_step HBN.out hHeld)
     clear hHeld
     go_wp2
     go_roundw
     case measure => first | (simp [intOf]; done) | (simp [intOf]; omega)
     case rel => exact ⟨i + 1, hlt, by go_num, HF2, HBC⟩
  ·have HR := Aside0.mk (show allTo (fitW ws l) ws.length = true from by have h1 := HE1.out; rw [show ws.length = i from by omega]; exact HF.out)
   go_wp2
   go_ret
   exact ⟨by rw [HR.out]; rfl, HB7.out⟩
set_option maxHeartbeats 1000000 in
set_option maxRecDepth 100000 in
theorem New_no (A : Option Addr) (c : Nat) (ws : List Int) (m : Int) (w : World) (hA : Kd.C (Kd.int .i64) w A ws.length ws) (hl : ws.length ≤ 1000) (h : ws.length < 1 ∨ 4 < ws.length ∨ ws.any badW = true ∨ m < 1 ∨ 256 < m) :
 Calls Try.prog 52 #[.slice A ws.length c, .int .i64 m] w fun e w' => e = .returned (.pointer none) ∧ Below w.heap.size w w' := by
 have HA := Aside0.mk hA
 have HB0 := Aside0.mk (Below.refl w.heap.size w)
 have HCN := Aside0.mk (fun (b : Bool) (hb : ws.any badW = b) => contains_calls A c ws w hA hl b hb)
 clear hA
 by_cases h1 : (ws.length : Int) < 1
 ·have g1 : decide ((ws.length : Int) < 1) = true := decide_eq_true h1
  clear h h1
  go_enter Try.func52, Try.ntmps52
  go_wp2
  go_ret
  exact ⟨rfl, HB0.out⟩
 ·have g1 : decide ((ws.length : Int) < 1) = false := decide_eq_false h1
  by_cases h2 : (4 : Int) < (ws.length : Int)
  ·have g2 : decide ((4 : Int) < (ws.length : Int)) = true := decide_eq_true h2
   clear h h1 h2
   go_enter Try.func52, Try.ntmps52
   go_wp2
   go_ret
   exact ⟨rfl, HB0.out⟩
  ·have g2 : decide ((4 : Int) < (ws.length : Int)) = false := decide_eq_false h2
   cases h3 : ws.any badW with
   | true =>
    have HC3 := Aside0.mk h3
    clear h h1 h2 h3
    go_enter Try.func52, Try.ntmps52
    go_wp2_with (go_at_call 104; with_reducible refine (HCN.out true HC3.out).mono ?_; rintro e w1 ⟨rfl, hb⟩; have HB1 := Aside0.mk hb; clear hb)
    go_ret
    exact ⟨rfl, HB1.out⟩
   | false =>
    have HC3 := Aside0.mk h3
    by_cases h4 : m < 1
    ·have g4 : decide (m < 1) = true := decide_eq_true h4
     clear h h1 h2 h3 h4
     go_enter Try.func52, Try.ntmps52
     go_wp2_with (go_at_call 104; with_reducible refine (HCN.out false HC3.out).mono ?_; rintro e w1 ⟨rfl, hb⟩; have HB1 := Aside0.mk hb; clear hb)
     go_ret
     exact ⟨rfl, HB1.out⟩
    ·have g4 : decide (m < 1) = false := decide_eq_false h4
     have g5 : decide (256 < m) = true := decide_eq_true (by rcases h with h | h | h | h | h <;> first | omega | (rw [h3] at h; cases h))
     clear h h1 h2 h3 h4
     go_enter Try.func52, Try.ntmps52
     go_wp2_with (go_at_call 104; with_reducible refine (HCN.out false HC3.out).mono ?_; rintro e w1 ⟨rfl, hb⟩; have HB1 := Aside0.mk hb; clear hb)
     go_ret
     exact ⟨rfl, HB1.out⟩
set_option maxHeartbeats 1000000 in
set_option maxRecDepth 100000 in
theorem New_ok (A : Option Addr) (c : Nat) (ws : List Int) (m : Int) (w : World) (hA : Kd.C (Kd.int .i64) w A ws.length ws) (hc : ws.length ≤ c) (h1 : 1 ≤ ws.length) (h2 : ws.length ≤ 4) (h3 : ws.any badW = false) (h4 : 1 ≤ m) (h5 : m ≤ 256) :
 Calls Try.prog 52 #[.slice A ws.length c, .int .i64 m] w fun e w' => ∃ g wv, e = .returned (.pointer (some ⟨g, 0, none⟩)) ∧ LK w w' g (.slice none 0 0) wv [] ws m := by
 have HA := Aside0.mk hA
 have HCN := Aside0.mk (contains_calls A c ws w hA (by omega) false h3)
 have HCL := Aside0.mk (fun w1 (hb : Below w.heap.size w w1) => iclone_calls w1 A c ws (Kd.C_below hA hb) hc (by omega))
 have g1 : decide ((ws.length : Int) < 1) = false := decide_eq_false (by omega)
 have g2 : decide ((4 : Int) < (ws.length : Int)) = false := decide_eq_false (by omega)
 have g4 : decide (m < 1) = false := decide_eq_false (by omega)
 have g5 : decide (256 < m) = false := decide_eq_false (by omega)
 clear hA hc h1 h2 h3 h4 h5
 go_enter Try.func52, Try.ntmps52
 go_wp2_with (first
  | (go_at_call 104; with_reducible refine (HCN.out).mono ?_; rintro e w1 ⟨rfl, hb⟩; have HB1 := Aside0.mk hb; clear hb)
  | (go_at_call 105; with_reducible refine (HCL.out _ HB1.out).mono ?_; rintro e w2 ⟨v2, rfl, hr, hb⟩; obtain ⟨A2, c2, rfl⟩ := Kd.R_slice hr; have HR2 := Aside0.mk hr; have HB2 := Aside0.mk (below_step HB1.out hb); clear hr hb))
 go_ret
 have hr := HR2.out
 refine ⟨w2.heap.size, _, rfl, blk_new w2 _, Kd.R_nil _ _ _ _ _, ?_, HB2.out.size, below_alloc HB2.out _⟩
 refine ⟨A2, c2, rfl, (Kd.R_reads' hr).2.1, ?_⟩
 refine Kd.F_alloc (Kd.F_mono (Kd.F_bound (Kd.R_F hr)) (fun k hk => ⟨fun e => ?_, fun e => by simp [Value.ownBlock] at e⟩)) _
 have := hk.2
 omega
end Go.Proofs.Ytfdbcnbakchcgaa.XQ
