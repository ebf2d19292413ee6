import Derived.Test.YtfdbcnbakchcgaaSv
import Derived.Test.YtfdbcnbakchcgaaQs
import Derived.Test.YtfdbcnbakchcgaaQb
import Derived.Test.YtfdbcnbakchcgaaXQx1
import Derived.Test.YtfdbcnbakchcgaaXQx12
namespace Go.Proofs.Ytfdbcnbakchcgaa.XQ
open Go.RowKit Go.Proofs.YtfdbcnbakchcgaaW.PrintWords Go.Proofs.YtfdbcnbakchcgaaW.PrintLast Go.Proofs.YtfdbcnbakchcgaaW.PrintMore
attribute [local go_sem] max2_int min2_int max_two min_two max_three min_three max_four min_four
set_option linter.unusedVariables false
set_option linter.unusedSimpArgs false
theorem clone_cells {α : Type} {d : Kd α} {w : World} {A : Option Addr} {xs : List α} (h : Kd.C d w A xs.length xs) : ∃ inner, Reps (d.K w) d.sz xs inner ∧ (A = none → xs.length = 0) ∧ ∀ ad, A = some ad → ∀ j u, inner[j]? = some u → w.cell? (ad.add j) = some u := by
 cases A with
 | none =>
  have h0 : xs.length = 0 := by
   rcases Nat.eq_zero_or_pos xs.length with c | c
   ·exact c
   ·obtain ⟨ad, e, _⟩ := h.2.2 c
    cases e
  obtain rfl := List.eq_nil_of_length_eq_zero h0
  exact ⟨[], Reps.none _ _, fun _ => rfl, fun ad e => by cases e⟩
 | some ad =>
  obtain ⟨inner, hr, hc⟩ := ReadsRow.inner_ h
  exact ⟨inner, hr, fun e => by (cases e), fun ad' e j u hu => by injection e with e; subst e; exact hc j u hu⟩
theorem vclone_calls (w : World) (A : Option Addr) (c : Nat) (xs : List S32) (h : Kd.C k32 w A xs.length xs) (hc : xs.length ≤ c) (hn : xs.length ≤ 1000) :
 Calls Try.prog 143 #[.slice A xs.length c] w fun e w' => ∃ v', e = .returned v' ∧ Kd.R k32 32 w' w.heap.size (fun k => some k = v'.ownBlock) v' xs ∧ Below w.heap.size w w' := by
 obtain ⟨inner, hr, h0, hcell⟩ := clone_cells h
 refine (qvclone A xs.length c w inner hr.1 (Kd.reps_one (R := k32.K w) hr (by decide) (fun p c hp => k32.K_one hp)) h0 hcell hn hc).mono ?_
 rintro e w' ⟨v', rfl, ho, hb⟩
 exact ⟨v', rfl, ⟨fun k hk => hk.symm, inner, ho, hr.imp_ (fun p cs hM => by rw [k32_open hM]; exact k32_mkM _ _ _ p)⟩, hb⟩
theorem iclone_calls (w : World) (A : Option Addr) (c : Nat) (xs : List Int) (h : Kd.C (Kd.int .i64) w A xs.length xs) (hc : xs.length ≤ c) (hn : xs.length ≤ 1000) :
 Calls Try.prog 105 #[.slice A xs.length c] w fun e w' => ∃ v', e = .returned v' ∧ Kd.R (Kd.int .i64) 3 w' w.heap.size (fun k => some k = v'.ownBlock) v' xs ∧ Below w.heap.size w w' := by
 obtain ⟨inner, hr, h0, hcell⟩ := clone_cells h
 refine (qiclone A xs.length c w inner hr.1 (Kd.reps_one (R := (Kd.int .i64).K w) hr (by decide) (fun p c hp => (Kd.int .i64).K_one hp)) h0 hcell hn hc).mono ?_
 rintro e w' ⟨v', rfl, ho, hb⟩
 exact ⟨v', rfl, ⟨fun k hk => hk.symm, inner, ho, hr.imp_ (fun p cs hM => hM)⟩, hb⟩
theorem if3 {α : Type} (x y : S32) (A B : α) : (if x.f0 = y.f0 then (if x.f1 = y.f1 then (if x.f2 = y.f2 then A else B) else B) else B) = if x = y then A else B := by
 obtain ⟨x0, x1, x2⟩ := x
 obtain ⟨y0, y1, y2⟩ := y
 by_cases h0 : x0 = y0
 ·by_cases h1 : x1 = y1
  ·by_cases h2 : x2 = y2
   ·simp [h0, h1, h2]
   ·simp [h2]
  ·simp [h1]
 ·simp [h0]
set_option maxHeartbeats 1000000 in
set_option maxRecDepth 100000 in
theorem equal_len (A : Option Addr) (c : Nat) (l : List S32) (B : Option Addr) (d : Nat) (m : List S32) (w : World) (h : ¬ l.length = m.length) :
 Calls Try.prog 140 #[.slice A l.length c, .slice B m.length d] w fun e_ w' => e_ = .returned (.bool false) ∧ Below w.heap.size w w' := by
 have g1 : ((l.length : Int) != (m.length : Int)) = true := by simpa using (fun hh => h (by omega))
 have HB := Aside0.mk (Below.refl w.heap.size w)
 clear h
 go_enter Try.func140, Try.ntmps140
 go_wp2
 go_ret
 exact ⟨rfl, HB.out⟩
set_option maxHeartbeats 1000000 in
set_option maxRecDepth 100000 in
theorem equal_go (A : Option Addr) (c : Nat) (l : List S32) (B : Option Addr) (d : Nat) (m : List S32) (w : World) (h1 : l.length = m.length) (hA : Kd.C k32 w A l.length l) (hB : Kd.C k32 w B m.length m) :
 Calls Try.prog 140 #[.slice A l.length c, .slice B m.length d] w fun e_ w' => e_ = .returned (.bool (decide (l = m))) ∧ Below w.heap.size w w' := by
 have HE1 := Aside0.mk h1
 have g1 : ((l.length : Int) != (m.length : Int)) = false := by simp [h1]
 have HLO := Aside0.mk hA
 have HHI := Aside0.mk hB
 clear h1 hA hB
 go_enter Try.func140, Try.ntmps140
 go_wp2
 clear g1
 go_loopw [13] (fun u13 w' => ∃ i : Nat, i ≤ l.length ∧ u13 = .int .i64 i ∧ Aside0 (∀ j, j < i → rd_T32 l (j : Int) = rd_T32 m (j : Int)) ∧ Aside0 (Below w.heap.size w w')) (fun u13 _ => l.length - (intOf u13).toNat)
 case atStart => exact ⟨0, Nat.zero_le _, rfl, ⟨fun j hj => by omega⟩, ⟨Below.refl _ _⟩⟩
 case round =>
  obtain ⟨i, hi_, rfl, HF, HB7⟩ := hrel
  by_cases hlt : i < l.length
  ·have hmax := HLO.out.2.1
   have hl1 := HE1.out
   have hi0 : 0 ≤ (i : Int) := by omega
   have hil : (i : Int) < (l.length : Int) := by omega
   have him : (i : Int) < (m.length : Int) := by omega
   clear hl1
   obtain ⟨da, hA, _⟩ := at_T32 HLO.out (i : Int) hi0 (by omega)
   subst hA
   obtain ⟨db, hB, _⟩ := at_T32 HHI.out (i : Int) hi0 (by omega)
   subst hB
   obtain ⟨x, hx⟩ : ∃ x, x = rd_T32 l (i : Int) := ⟨_, rfl⟩
   obtain ⟨y, hy⟩ : ∃ y, y = rd_T32 m (i : Int) := ⟨_, rfl⟩
   have HCX := Aside0.mk (show ∀ w', Below w.heap.size w w' → w'.cell? (da.add (i * 3)) = some (.int .i64 x.f0) ∧ w'.cell? ⟨(da.add (i * 3)).block, (da.add (i * 3)).off + 1, none⟩ = some (.int .u64 x.f1) ∧ w'.cell? ⟨(da.add (i * 3)).block, (da.add (i * 3)).off + 2, none⟩ = some (.int .u64 x.f2) from fun w' hb => by
    obtain ⟨ad2, e2, h2⟩ := at_T32 (Kd.C_below HLO.out hb) (i : Int) hi0 (by omega)
    injection e2 with e2
    subst e2
    rw [Int.toNat_natCast, show rd_T32 l (i : Int) = x from hx.symm] at h2
    exact h2)
   have HCY := Aside0.mk (show ∀ w', Below w.heap.size w w' → w'.cell? (db.add (i * 3)) = some (.int .i64 y.f0) ∧ w'.cell? ⟨(db.add (i * 3)).block, (db.add (i * 3)).off + 1, none⟩ = some (.int .u64 y.f1) ∧ w'.cell? ⟨(db.add (i * 3)).block, (db.add (i * 3)).off + 2, none⟩ = some (.int .u64 y.f2) from fun w' hb => by
    obtain ⟨ad2, e2, h2⟩ := at_T32 (Kd.C_below HHI.out hb) (i : Int) hi0 (by omega)
    injection e2 with e2
    subst e2
    rw [Int.toNat_natCast, show rd_T32 m (i : Int) = y from hy.symm] at h2
    exact h2)
   cases e1 : decide (x = y) with
   | false =>
    have HXY := Aside0.mk e1
    have HR := Aside0.mk (show decide (l = m) = false from decide_eq_false (fun e => by subst e; rw [← hy] at hx; subst hx; simp at e1))
    clear e1 hx hy
    go_wp2
    refine start_ (n := 9) (S := fun w' => Below w.heap.size w w') (ds := []) #[false, false, false, false, false, false, false, false, false] (by kernel_rfl) rfl rfl (below_drew1 HB7.out) (fun hHeld => ?_)
    clear HB7
    generalize World.drew _ = w8 at hHeld ⊢
    refine pl_ [0, 1, 2, 4, 5, 6] ?_
    iterate 6 refine qP rfl rfl ?_
    refine pl0 ?_
    refine take_ (i := 3) (N := some 19) (v := ?_) (a' := ?_) #[true, true, true, true, true, true, true, false, false] rfl rfl (by kernel_rfl) (fun _ _ _ h => h) (Or.inl ⟨by rfl, ?_⟩) hHeld ?_ ?_
    rotate_left
    ·intro w' hs
     obtain ⟨s0, s1, s2⟩ := HCX.out w' hs
     go_simp
     with_reducible rfl
    rotate_left
    ·simp only [Act.put, List.setIfInBounds_toArray, List.set_cons_zero, List.set_cons_succ, i64_w, i32_w]
     rfl
    refine take_ (i := 7) (N := some 23) (v := ?_) (a' := ?_) #[true, true, true, true, true, true, true, true, false] rfl rfl (by kernel_rfl) (fun _ _ _ h => h) (Or.inl ⟨by rfl, ?_⟩) hHeld ?_ ?_
    rotate_left
    ·intro w' hs
     obtain ⟨s0, s1, s2⟩ := HCY.out w' hs
     go_simp
     with_reducible rfl
    rotate_left
    ·simp only [Act.put, List.setIfInBounds_toArray, List.set_cons_zero, List.set_cons_succ, i64_w, i32_w]
     rfl
    refine pure_ (i := 8) (N := some 24) (v := ?_) (a' := ?_) #[true, true, true, true, true, true, true, true, true] rfl rfl (by kernel_rfl) (fun _ _ _ h => h) (Or.inl ⟨by rfl, ?_⟩) ?_ ?_
    rotate_left
    ·intro w'
     go_simp
     rw [if3, if_neg (by simpa using HXY.out)]
     try with_reducible rfl
    rotate_left
    ·simp only [Act.put, List.setIfInBounds_toArray, List.set_cons_zero, List.set_cons_succ, i64_w, i32_w]
     rfl
    refine done_ (by kernel_rfl) ?_
    have HBC := Aside0.mk hHeld
    clear hHeld
    go_wp2
    go_ret
    exact ⟨by rw [HR.out]; rfl, HBC.out⟩
   | true =>
    have HXY := Aside0.mk e1
    have HF2 := Aside0.mk (show ∀ j, j < i + 1 → rd_T32 l (j : Int) = rd_T32 m (j : Int) from fun j hj => by
     rcases Nat.lt_or_ge j i with q | q
     ·exact HF.out j q
     ·obtain rfl : j = i := by omega
      rw [← hx, ← hy]; simpa using e1)
    clear e1 hx hy
    go_wp2
    refine start_ (n := 9) (S := fun w' => Below w.heap.size w w') (ds := []) #[false, false, false, false, false, false, false, false, false] (by kernel_rfl) rfl rfl (below_drew1 HB7.out) (fun hHeld => ?_)
    clear HB7
    generalize World.drew _ = w8 at hHeld ⊢
    refine pl_ [0, 1, 2, 4, 5, 6] ?_
    iterate 6 refine qP rfl rfl ?_
    refine pl0 ?_
    refine take_ (i := 3) (N := some 19) (v := ?_) (a' := ?_) #[true, true, true, true, true, true, true, false, false] rfl rfl (by kernel_rfl) (fun _ _ _ h => h) (Or.inl ⟨by rfl, ?_⟩) hHeld ?_ ?_
    rotate_left
    ·intro w' hs
     obtain ⟨s0, s1, s2⟩ := HCX.out w' hs
     go_simp
     with_reducible rfl
    rotate_left
    ·simp only [Act.put, List.setIfInBounds_toArray, List.set_cons_zero, List.set_cons_succ, i64_w, i32_w]
     rfl
    refine take_ (i := 7) (N := some 23) (v := ?_) (a' := ?_) #[true, true, true, true, true, true, true, true, false] rfl rfl (by kernel_rfl) (fun _ _ _ h => h) (Or.inl ⟨by rfl, ?_⟩) hHeld ?_ ?_
    rotate_left
    ·intro w' hs
     obtain ⟨s0, s1, s2⟩ := HCY.out w' hs
     go_simp
     with_reducible rfl
    rotate_left
    ·simp only [Act.put, List.setIfInBounds_toArray, List.set_cons_zero, List.set_cons_succ, i64_w, i32_w]
     rfl
    refine pure_ (i := 8) (N := some 24) (v := ?_) (a' := ?_) #[true, true, true, true, true, true, true, true, true] rfl rfl (by kernel_rfl) (fun _ _ _ h => h) (Or.inl ⟨by rfl, ?_⟩) ?_ ?_
    rotate_left
    ·intro w'
     go_simp
     rw [if3, if_pos (by simpa using HXY.out)]
     try with_reducible rfl
    rotate_left
    ·simp only [Act.put, List.setIfInBounds_toArray, List.set_cons_zero, List.set_cons_succ, i64_w, i32_w]
     rfl
    refine done_ (by kernel_rfl) ?_
    have HBC := Aside0.mk hHeld
    clear hHeld
    go_wp2
    go_roundw
    case measure => first | (simp [intOf]; done) | (simp [intOf]; omega)
    case rel => exact ⟨i + 1, hlt, by go_num, HF2, HBC⟩
  ·have HR := Aside0.mk (show decide (l = m) = true from decide_eq_true (by
    refine List.ext_getElem HE1.out (fun j h1 h2 => ?_)
    have := HF.out j (by omega)
    unfold rd_T32 at this
    simpa [List.getD_eq_getElem?_getD, h1, h2] using this))
   go_wp2
   go_ret
   exact ⟨by rw [HR.out]; rfl, HB7.out⟩
theorem equal_calls (A : Option Addr) (c : Nat) (l : List S32) (B : Option Addr) (d : Nat) (m : List S32) (w : World) (hA : Kd.C k32 w A l.length l) (hB : Kd.C k32 w B m.length m) (b : Bool) (hb : decide (l = m) = b) :
 Calls Try.prog 140 #[.slice A l.length c, .slice B m.length d] w fun e_ w' => e_ = .returned (.bool b) ∧ Below w.heap.size w w' := by
 by_cases h : l.length = m.length
 ·rw [← hb]; exact equal_go A c l B d m w h hA hB
 ·have hf : b = false := by rw [← hb]; exact decide_eq_false (fun e => h (by rw [e]))
  subst hf
  exact equal_len A c l B d m w h
def badW (x : Int) : Bool := decide (x < 1 ∨ 128 < x)
def idxI (p : Int → Bool) : List Int → Nat → Int
 | [], _ => -1
 | y :: t, i => if p y = true then (i : Int) else idxI p t (i + 1)
theorem idxI_drop (p : Int → Bool) (l : List Int) (i : Nat) (hi : i < l.length) : idxI p (l.drop i) i = if p (rd l (i : Int)) = true then (i : Int) else idxI p (l.drop (i + 1)) (i + 1) := by
 rw [List.drop_eq_getElem_cons hi, idxI]
 have e : rd l (i : Int) = l[i] := by simp [rd, List.getD_eq_getElem?_getD, hi]
 rw [e]
theorem idxI_any (p : Int → Bool) : ∀ (l : List Int) (i : Nat), decide (0 ≤ idxI p l i) = l.any p
 | [], i => rfl
 | y :: t, i => by
  rw [idxI, List.any_cons]
  cases h : p y with
  | true => rw [if_pos rfl, Bool.true_or]; exact decide_eq_true (by omega)
  | false => rw [if_neg (by simp), Bool.false_or]; exact idxI_any p t (i + 1)
set_option maxHeartbeats 1000000 in
set_option maxRecDepth 100000 in
theorem wrong_calls (x : Int) (b : Bool) (hb : badW x = b) (w : World) : Calls Try.prog 103 #[.int .i64 x] w fun e w' => e = .returned (.bool b) ∧ Below w.heap.size w w' := by
 have HW := Aside0.mk (Below.refl w.heap.size w)
 by_cases h1 : x < 1
 ·have hbt : b = true := by rw [← hb]; exact decide_eq_true (.inl h1)
  subst hbt
  have g1 : decide (x < 1) = true := decide_eq_true h1
  clear hb h1
  go_enter Try.func103, Try.ntmps103
  go_wp2
  go_ret
  exact ⟨rfl, HW.out⟩
 ·have g1 : decide (x < 1) = false := decide_eq_false h1
  have g2 : decide (128 < x) = b := by rw [← hb]; exact decide_eq_decide.2 (by omega)
  clear hb h1
  cases b
  ·go_enter Try.func103, Try.ntmps103
   go_wp2
   go_ret
   exact ⟨rfl, HW.out⟩
  ·go_enter Try.func103, Try.ntmps103
   go_wp2
   go_ret
   exact ⟨rfl, HW.out⟩
set_option maxHeartbeats 1000000 in
set_option maxRecDepth 100000 in
theorem idxI_calls (A : Option Addr) (c : Nat) (l : List Int) (w : World) (hA : Kd.C (Kd.int .i64) w A l.length l) (hl : l.length ≤ 1000) :
 Calls Try.prog 136 #[.slice A l.length c, .func (.func 103) #[] #[]] w fun e w' => e = .returned (.int .i64 (idxI badW l 0)) ∧ Below w.heap.size w w' := by
 have HLO := Aside0.mk hA
 clear hA
 go_enter Try.func136, Try.ntmps136
 go_wp2
 go_loopw [8] (fun n w' => ∃ i : Nat, i ≤ l.length ∧ n = .int .i64 i ∧ Aside0 (idxI badW (l.drop i) i = idxI badW l 0) ∧ Aside0 (Below w.heap.size w w')) (fun n _ => l.length - (intOf n).toNat)
 case atStart => exact ⟨0, Nat.zero_le _, rfl, ⟨by rw [List.drop_zero]⟩, ⟨Below.refl _ _⟩⟩
 case round =>
  obtain ⟨i, hi, rfl, HG, HB⟩ := hrel
  by_cases hlt : i < l.length
  ·have hg := HG.out
   rw [idxI_drop _ _ _ hlt] at hg
   obtain ⟨ad, hA, p0⟩ := Kd.at_int (Kd.C_below HLO.out HB.out) (i : Int) (by omega) (by omega)
   subst hA
   rw [Int.toNat_natCast] at p0
   generalize rd l (i : Int) = x at *
   cases hpx : badW x with
   | true =>
    rw [hpx, if_pos rfl] at hg
    have HG2 := Aside0.mk hg
    have HPX := Aside0.mk hpx
    clear hg hpx
    go_wp2_with (go_at_call 103; with_reducible refine (wrong_calls x true HPX.out _).mono ?_; rintro e w1 ⟨rfl, hb⟩; have HB1 := Aside0.mk (below_step HB.out hb); clear hb)
    go_ret
    exact ⟨by rw [← HG2.out]; rfl, HB1.out⟩
   | false =>
    rw [hpx, if_neg (by simp)] at hg
    have HG2 := Aside0.mk hg
    have HPX := Aside0.mk hpx
    clear hg hpx
    go_wp2_with (go_at_call 103; with_reducible refine (wrong_calls x false HPX.out _).mono ?_; rintro e w1 ⟨rfl, hb⟩; have HB1 := Aside0.mk (below_step HB.out hb); clear hb)
    go_roundw
    case rel => exact ⟨i + 1, hlt, by go_num, HG2, HB1⟩
    case measure => simp [intOf]; omega
  ·obtain rfl : i = l.length := by omega
   have hg := HG.out
   rw [List.drop_length, idxI] at hg
   have HG2 := Aside0.mk hg
   clear hg
   go_wp2
   go_ret
   exact ⟨by rw [← HG2.out]; rfl, HB.out⟩
set_option maxHeartbeats 1000000 in
set_option maxRecDepth 100000 in
theorem contains_calls (A : Option Addr) (c : Nat) (l : List Int) (w : World) (hA : Kd.C (Kd.int .i64) w A l.length l) (hl : l.length ≤ 1000) (b : Bool) (hb : l.any badW = b) :
 Calls Try.prog 104 #[.slice A l.length c, .func (.func 103) #[] #[]] w fun e w' => e = .returned (.bool b) ∧ Below w.heap.size w w' := by
 have HI := Aside0.mk (idxI_calls A c l w hA hl)
 have hd : decide (0 ≤ idxI badW l 0) = b := by rw [idxI_any, hb]
 clear hA hb
 generalize idxI badW l 0 = n at HI hd
 go_enter Try.func104, Try.ntmps104
 go_wp2_with (go_at_call 136; with_reducible refine (HI.out).mono ?_; rintro e w1 ⟨rfl, hb⟩; have HB1 := Aside0.mk hb; clear hb)
 go_ret
 exact ⟨rfl, HB1.out⟩
end Go.Proofs.Ytfdbcnbakchcgaa.XQ
