import Derived.Test.YtfdbcnbakchcgaaSv
import Derived.Test.YtfdbcnbakchcgaaQe
namespace Go.Proofs.Ytfdbcnbakchcgaa.XQ
open Go.RowKit Go.Proofs.YtfdbcnbakchcgaaW.PrintWords Go.Proofs.YtfdbcnbakchcgaaW.PrintLast Go.Proofs.YtfdbcnbakchcgaaW.PrintMore
attribute [local go_sem] max2_int min2_int max_two min_two max_three min_three max_four min_four
set_option linter.unusedVariables false
set_option linter.unusedSimpArgs false
set_option maxHeartbeats 1000000 in
set_option maxRecDepth 100000 in
theorem Len_calls (w0 w : World) (g : Nat) (v wv : Value) (xs : List S94) (ws : List Int) (m : Int) (h : LK w0 w g v wv xs ws m) :
 Calls Try.prog 59 #[.pointer (some ⟨g, 0, none⟩)] w fun e w' => e = .returned (.int .i64 xs.length) ∧ w' = w := by
 obtain ⟨A, c, rfl⟩ := Kd.R_slice h.row
 have c0 : w.cell? ⟨g, 0, none⟩ = some (.slice A xs.length c) := blk_cell h.blk 0
 clear h
 go_enter Try.func59, Try.ntmps59
 go_wp2
 go_ret
 exact ⟨rfl, rfl⟩
def getA (p : S94 → Bool) (xs : List S94) : Int × Int × Bool := match xs.find? p with | none => (0, 0, false) | some y => (y.f3, y.f2, true)
theorem rd94 (xs : List S94) (i : Nat) (hi : i < xs.length) : rd_T94 xs (i : Int) = xs[i] := by simp [rd_T94, List.getD_eq_getElem?_getD, hi]
theorem getA_hit (p : S94 → Bool) (xs : List S94) (i : Nat) (hi : i < xs.length) (h : ∀ j, j < i → p (rd_T94 xs (j : Int)) = false) (hp : p (rd_T94 xs (i : Int)) = true) : getA p xs = ((rd_T94 xs (i : Int)).f3, (rd_T94 xs (i : Int)).f2, true) := by
 unfold getA
 have hx : xs = xs.take i ++ xs[i] :: xs.drop (i + 1) := by rw [← List.drop_eq_getElem_cons hi, List.take_append_drop]
 have hr := rd94 xs i hi
 have hn : (xs.take i).find? p = none := List.find?_eq_none.2 (fun y hy => by
  obtain ⟨j, hj, rfl⟩ := List.mem_iff_getElem.1 hy
  have hj2 : j < i ∧ j < xs.length := by rw [List.length_take] at hj; omega
  have := h j hj2.1
  rw [rd94 xs j hj2.2] at this
  rw [List.getElem_take, this]; simp)
 have hf : xs.find? p = some xs[i] := by
  conv => lhs; rw [hx]
  rw [List.find?_append, hn, Option.none_or, List.find?_cons_of_pos (by rw [← hr]; exact hp)]
 rw [hf, hr]
theorem getA_miss (p : S94 → Bool) (xs : List S94) (h : ∀ j, j < xs.length → p (rd_T94 xs (j : Int)) = false) : getA p xs = (0, 0, false) := by
 unfold getA
 rw [List.find?_eq_none.2 (fun y hy => by
  obtain ⟨j, hj, rfl⟩ := List.mem_iff_getElem.1 hy
  have := h j hj
  rw [rd94 xs j hj] at this
  rw [this]; simp)]
def meetL (key : List S32) (y : S94) : Bool := allTo (fun i => wiV (lx key i) (lx y.f0 i) (lx y.f1 i)) key.length
def okL (n : Nat) (y : S94) : Prop := y.f0.length = n ∧ y.f1.length = n ∧ (∀ z ∈ y.f0, okV z) ∧ (∀ z ∈ y.f1, okV z)
theorem meets_eq (key : List S32) (y : S94) (hk : ∀ z ∈ key, okV z) (hy : okL key.length y) (hm : key.length ≤ 1000) : span_meets.f 2000 key y.f0 y.f1 y.f2 y.f3 = some (meetL key y) := by
 unfold span_meets.f
 have go : ∀ (d i k : Nat), i + d = key.length → d < k → allTo (fun i => wiV (lx key i) (lx y.f0 i) (lx y.f1 i)) i = true → span_meets.l0 k key (key.length : Int) (i : Int) y.f0 y.f1 y.f2 y.f3 = some (meetL key y) := by
  intro d
  induction d with
  | zero =>
   intro i k h1 h2 h3
   obtain ⟨k, rfl⟩ : ∃ q, k = q + 1 := ⟨k - 1, by omega⟩
   obtain rfl : i = key.length := by omega
   unfold span_meets.l0
   rw [if_neg (by omega)]
   unfold meetL
   rw [h3]
  | succ d ih =>
   intro i k h1 h2 h3
   obtain ⟨k, rfl⟩ : ∃ q, k = q + 1 := ⟨k - 1, by omega⟩
   have hi : i < key.length := by omega
   have e0 := hy.1
   have e1 := hy.2.1
   have hw := vec_Within_ok (lx_ok hk hi) (lx_ok hy.2.2.1 (show i < y.f0.length by omega)) (lx_ok hy.2.2.2 (show i < y.f1.length by omega))
   unfold lx at hw
   have hs : wrap64 ((i : Int) + 1) = ((i + 1 : Nat) : Int) := by unfold wrap64; omega
   unfold span_meets.l0
   rw [if_pos (by omega)]
   repeat (first | rw [if_pos (by omega)] | rw [hw] | rw [Option.bind_some])
   cases hb : wiV (rd_T32 key (i : Int)) (rd_T32 y.f0 (i : Int)) (rd_T32 y.f1 (i : Int)) with
   | true =>
    rw [if_pos rfl, hs]
    exact ih (i + 1) k (by omega) (by omega) (allTo_succ h3 hb)
   | false =>
    rw [if_neg (by simp)]
    unfold meetL
    rw [allTo_no hi (p := fun i => wiV (lx key i) (lx y.f0 i) (lx y.f1 i)) hb]
 exact go key.length 0 2000 (by omega) (by omega) (allTo_zero _)
set_option maxHeartbeats 1000000 in
set_option maxRecDepth 100000 in
theorem Get_len (w0 w : World) (g : Nat) (v wv : Value) (xs : List S94) (ws : List Int) (m : Int) (A : Option Addr) (c : Nat) (key : List S32) (h : LK w0 w g v wv xs ws m) (hl : ¬ key.length = ws.length) :
 Calls Try.prog 56 #[.pointer (some ⟨g, 0, none⟩), .slice A key.length c] w fun e_ w' => e_ = .returned (.tuple #[.int .i64 0, .int .i64 0, .bool false]) ∧ Below w.heap.size w w' := by
 obtain ⟨AX, cX, rfl⟩ := Kd.R_slice h.row
 obtain ⟨E, e, rfl⟩ := Kd.V_slice h.wid
 have HB := Aside0.mk (Below.refl w.heap.size w)
 have g1 : ((key.length : Int) != (ws.length : Int)) = true := by simpa using (fun hh => hl (by omega))
 have l0 := blk_cell h.blk 0
 have l1 := blk_cell h.blk 1
 simp only [List.getElem?_toArray, List.getElem?_cons_succ, List.getElem?_cons_zero] at l0 l1
 clear h hl
 go_enter Try.func56, Try.ntmps56
 go_wp2
 go_ret3
 exact ⟨rfl, HB.out⟩
set_option maxHeartbeats 1000000 in
set_option maxRecDepth 100000 in
theorem Get_go (w0 w : World) (g : Nat) (v wv : Value) (xs : List S94) (ws : List Int) (m : Int) (A : Option Addr) (c : Nat) (key : List S32) (h : LK w0 w g v wv xs ws m) (hA : Kd.C k32 w A key.length key) (hc : key.length ≤ c) (hok : ∀ z ∈ key, okV z) (hl : key.length = ws.length) (hx : ∀ y ∈ xs, okL ws.length y) (hn : xs.length ≤ 1000) (hkm : key.length ≤ 1000) :
 Calls Try.prog 56 #[.pointer (some ⟨g, 0, none⟩), .slice A key.length c] w fun e_ w' => e_ = .returned (.tuple #[.int .i64 (getA (meetL key) xs).1, .int .i64 (getA (meetL key) xs).2.1, .bool (getA (meetL key) xs).2.2]) ∧ Below w.heap.size w w' := by
 obtain ⟨AX, cX, rfl⟩ := Kd.R_slice h.row
 obtain ⟨E, e, rfl⟩ := Kd.V_slice h.wid
 have HT := Aside0.mk h
 have HK := Aside0.mk hA
 have HKO := Aside0.mk hok
 have HOK := Aside0.mk hx
 have HN := Aside0.mk hn
 have HCL := Aside0.mk hc
 have HLK := Aside0.mk hl
 have HMX := Aside0.mk (show key.length ≤ 1000 from hkm)
 have g1 : ((key.length : Int) != (ws.length : Int)) = false := by simp [hl]
 have l0 := blk_cell h.blk 0
 have l1 := blk_cell h.blk 1
 simp only [List.getElem?_toArray, List.getElem?_cons_succ, List.getElem?_cons_zero] at l0 l1
 clear h hA hok hx hl hc hn hkm
 go_enter Try.func56, Try.ntmps56
 go_wp2
 clear l0 l1 g1
 go_loopw [26] (fun u26 w' => ∃ i : Nat, i ≤ xs.length ∧ u26 = .int .i64 i ∧ Aside0 (∀ j, j < i → meetL key (rd_T94 xs (j : Int)) = false) ∧ Aside0 (Below w.heap.size w w')) (fun u26 _ => xs.length - (intOf u26).toNat)
 case atStart => exact ⟨0, Nat.zero_le _, rfl, ⟨fun j hj => by omega⟩, ⟨Below.refl _ _⟩⟩
 case round =>
  obtain ⟨i, hi, rfl, HNO, HB7⟩ := hrel
  by_cases hlt : i < xs.length
  ·have hn := HN.out
   have hi0 : 0 ≤ (i : Int) := by omega
   have hil : (i : Int) < (xs.length : Int) := by omega
   have HT1 := Aside0.mk (HT.out.step HB7.out)
   obtain ⟨ad, A1, c1, B1, d1, hA, p0, p1, p2, p3, hx0, hL1, hx1, hM1⟩ := at_T94 (Kd.R_reads' HT1.out.row).2.2 (i : Int) (by omega) (by omega)
   subst hA
   rw [Int.toNat_natCast] at p0 p1 p2 p3
   have hmem : rd_T94 xs (i : Int) ∈ xs := by rw [rd94 xs i hlt]; exact List.getElem_mem hlt
   have HME := Aside0.mk (meets_eq key (rd_T94 xs (i : Int)) HKO.out (by rw [HLK.out]; exact HOK.out _ hmem) HMX.out)
   have HHIT := Aside0.mk (getA_hit (meetL key) xs i hlt HNO.out)
   have HNX := Aside0.mk (fun (hq : meetL key (rd_T94 xs (i : Int)) = false) (j : Nat) (hj : j < i + 1) => (show meetL key (rd_T94 xs (j : Int)) = false from by
    rcases Nat.lt_or_ge j i with q | q
    ·exact HNO.out j q
    ·obtain rfl : j = i := by omega
     exact hq))
   clear hmem
   generalize rd_T94 xs (i : Int) = y at *
   have HY := Aside0.mk (blk_new wr (.cells #[.slice A1 y.f0.length c1, .slice B1 y.f1.length d1, .int .i64 y.f2, .int .i64 y.f3] 94 (0, 0)))
   have HB8 := Aside0.mk (below_alloc HB7.out (.cells #[.slice A1 y.f0.length c1, .slice B1 y.f1.length d1, .int .i64 y.f2, .int .i64 y.f3] 94 (0, 0)))
   have HL1 := Aside0.mk (Kd.C_alloc hL1 (.cells #[.slice A1 y.f0.length c1, .slice B1 y.f1.length d1, .int .i64 y.f2, .int .i64 y.f3] 94 (0, 0)))
   have HM1 := Aside0.mk (Kd.C_alloc hM1 (.cells #[.slice A1 y.f0.length c1, .slice B1 y.f1.length d1, .int .i64 y.f2, .int .i64 y.f3] 94 (0, 0)))
   have HX0 := Aside0.mk hx0
   have HX1 := Aside0.mk hx1
   have HKW := Aside0.mk (Kd.C_below HK.out HB8.out)
   clear hL1 hM1 hx0 hx1
   cases hpy : meetL key y with
   | false =>
    rw [hpy] at HME
    have HMV := Aside0.mk HME.out
    have HNO2 := Aside0.mk (HNX.out hpy)
    clear hpy HME
    go_wp2_with (first | (go_at_call 112; with_reducible refine (span_meets.calls 2000 A c key A1 c1 y.f0 B1 d1 y.f1 y.f2 y.f3 false _ HKW.out HCL.out HL1.out HX0.out HM1.out HX1.out HMV.out).mono ?_; rintro e_ w1 ⟨rfl, hb⟩; have HB9 := Aside0.mk (below_step HB8.out hb); have HY2 := Aside0.mk (blk_below HY.out hb); clear hb))
    go_roundw
    case measure => first | (simp [intOf]; done) | (simp [intOf]; omega)
    case rel => exact ⟨i + 1, hlt, by go_num, HNO2, HB9⟩
   | true =>
    rw [hpy] at HME
    have HMV := Aside0.mk HME.out
    have HA := Aside0.mk (HHIT.out hpy)
    clear hpy HME
    go_wp2_with (first | (go_at_call 112; with_reducible refine (span_meets.calls 2000 A c key A1 c1 y.f0 B1 d1 y.f1 y.f2 y.f3 true _ HKW.out HCL.out HL1.out HX0.out HM1.out HX1.out HMV.out).mono ?_; rintro e_ w1 ⟨rfl, hb⟩; have HB9 := Aside0.mk (below_step HB8.out hb); have HY2 := Aside0.mk (blk_below HY.out hb); clear hb))
    refine start_ (n := 7) (S := fun w' => Below w1.heap.size w1 w') (ds := []) #[false, false, false, false, false, false, false] (by kernel_rfl) rfl rfl (below_drew1 (Below.refl _ _)) (fun hHeld => ?_)
    generalize World.drew _ = w8 at hHeld ⊢
    refine pl_ [0, 2] ?_
    iterate 2 refine qP rfl rfl ?_
    refine pl0 ?_
    refine take_ (i := 1) (N := some 34) (v := ?_) (a' := ?_) #[true, true, true, false, false, false, false] rfl rfl (by kernel_rfl) (fun _ _ _ h => h) (Or.inl ⟨by rfl, ?_⟩) hHeld ?_ ?_
    rotate_left
    ·intro w' hs
     have y3 := blk_cell (blk_below HY2.out hs) 3
     simp only [List.getElem?_toArray, List.getElem?_cons_succ, List.getElem?_cons_zero] at y3
     go_simp
     with_reducible rfl
    rotate_left
    ·simp only [Act.put, List.setIfInBounds_toArray, List.set_cons_zero, List.set_cons_succ, i64_w, i32_w]
     rfl
    refine take_ (i := 3) (N := some 36) (v := ?_) (a' := ?_) #[true, true, true, true, false, false, false] rfl rfl (by kernel_rfl) (fun _ _ _ h => h) (Or.inl ⟨by rfl, ?_⟩) hHeld ?_ ?_
    rotate_left
    ·intro w' hs
     have y2 := blk_cell (blk_below HY2.out hs) 2
     simp only [List.getElem?_toArray, List.getElem?_cons_succ, List.getElem?_cons_zero] at y2
     go_simp
     with_reducible rfl
    rotate_left
    ·simp only [Act.put, List.setIfInBounds_toArray, List.set_cons_zero, List.set_cons_succ, i64_w, i32_w]
     rfl
    refine pl_ [4, 5, 6] ?_
    iterate 3 refine qP rfl rfl ?_
    refine pl0 ?_
    refine done_ (by kernel_rfl) ?_
    have HBC := Aside0.mk (below_step HB9.out hHeld)
    clear hHeld
    go_wp2
    go_ret3
    exact ⟨by rw [HA.out]; rfl, HBC.out⟩
  ·have hie : i = xs.length := by omega
   subst hie
   have HA := Aside0.mk (getA_miss (meetL key) xs HNO.out)
   go_wp2
   go_ret3
   exact ⟨by rw [HA.out]; rfl, HB7.out⟩
end Go.Proofs.Ytfdbcnbakchcgaa.XQ
