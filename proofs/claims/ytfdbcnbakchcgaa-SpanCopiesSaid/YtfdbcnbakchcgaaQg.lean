import Derived.Test.YtfdbcnbakchcgaaSv
import Derived.Test.YtfdbcnbakchcgaaQf
namespace Go.Proofs.Ytfdbcnbakchcgaa.XQ
open Go.RowKit Go.Proofs.YtfdbcnbakchcgaaW.PrintWords Go.Proofs.YtfdbcnbakchcgaaW.PrintLast Go.Proofs.YtfdbcnbakchcgaaW.PrintMore
attribute [local go_sem] max2_int min2_int max_two min_two max_three min_three max_four min_four
set_option linter.unusedVariables false
set_option linter.unusedSimpArgs false
set_option maxHeartbeats 1000000 in
set_option maxRecDepth 100000 in
theorem List_calls (w0 w : World) (g : Nat) (v wv : Value) (xs : List S94) (ws : List Int) (m : Int) (h : LK w0 w g v wv xs ws m) (hx : ∀ y ∈ xs, y.f0.length ≤ 1000 ∧ y.f1.length ≤ 1000) (hn : xs.length ≤ 1000) :
 Calls Try.prog 61 #[.pointer (some ⟨g, 0, none⟩)] w fun e w' => ∃ v', e = .returned v' ∧ Kd.R k94 94 w' w.heap.size (fun k => w.heap.size ≤ k ∧ k < w'.heap.size) v' xs ∧ Below w.heap.size w w' := by
 obtain ⟨AX, cX, rfl⟩ := Kd.R_slice h.row
 have HT := Aside0.mk h
 have HN := Aside0.mk hn
 have HXL := Aside0.mk hx
 have l0 := blk_cell h.blk 0
 simp only [List.getElem?_toArray, List.getElem?_cons_succ, List.getElem?_cons_zero] at l0
 clear h hn hx
 go_enter Try.func61, Try.ntmps61
 go_wp2
 clear l0
 go_loopw [3, 14] (fun u3 u14 w' => ∃ i : Nat, i ≤ xs.length ∧ u14 = .int .i64 i ∧ Aside0 (Kd.R k94 94 w' w.heap.size (fun _ => True) u3 (xs.take i)) ∧ Aside0 (Below w.heap.size w w')) (fun _ u14 _ => xs.length - (intOf u14).toNat)
 case atStart => exact ⟨0, Nat.zero_le _, rfl, ⟨by rw [List.take_zero]; exact Kd.R_nil _ _ _ _ _⟩, ⟨Below.refl _ _⟩⟩
 case round =>
  obtain ⟨i, hi, rfl, HR, HB7⟩ := hrel
  by_cases hlt : i < xs.length
  ·have hn := HN.out
   have HT1 := Aside0.mk (HT.out.step HB7.out)
   obtain ⟨ad, A1, c1, B1, d1, hA, p0, p1, p2, p3, hx0, hL1, hx1, hM1⟩ := at_T94 (Kd.R_reads' HT1.out.row).2.2 (i : Int) (by omega) (by omega)
   subst hA
   rw [Int.toNat_natCast] at p0 p1 p2 p3
   have hgt : rd_T94 xs (i : Int) = xs[i] := rd94 xs i hlt
   have HYL := Aside0.mk (HXL.out _ (show rd_T94 xs (i : Int) ∈ xs from by rw [hgt]; exact List.getElem_mem hlt))
   obtain ⟨ys, hys⟩ : ∃ ys, ys = xs.take i := ⟨_, rfl⟩
   rw [← hys] at HR
   have HTK := Aside0.mk (show ys ++ [rd_T94 xs (i : Int)] = xs.take (i + 1) from by rw [hys, hgt, List.take_succ_eq_append_getElem hlt])
   have HLE := Aside0.mk (show (ys.length + 1) * 64 ≤ 140737488355328 from by rw [hys, List.length_take]; omega)
   clear hgt hys
   generalize rd_T94 xs (i : Int) = y at *
   have hi0 : 0 ≤ (i : Int) := by omega
   have hil : (i : Int) < (xs.length : Int) := by omega
   obtain ⟨Av, cv, rfl⟩ := Kd.R_slice HR.out
   have HB8 := Aside0.mk (below_alloc HB7.out (.cells #[.slice A1 y.f0.length c1, .slice B1 y.f1.length d1, .int .i64 y.f2, .int .i64 y.f3] 94 (0, 0)))
   have HL1 := Aside0.mk (Kd.C_alloc hL1 (.cells #[.slice A1 y.f0.length c1, .slice B1 y.f1.length d1, .int .i64 y.f2, .int .i64 y.f3] 94 (0, 0)))
   have HM1 := Aside0.mk (Kd.C_alloc hM1 (.cells #[.slice A1 y.f0.length c1, .slice B1 y.f1.length d1, .int .i64 y.f2, .int .i64 y.f3] 94 (0, 0)))
   have HX0 := Aside0.mk hx0
   have HX1 := Aside0.mk hx1
   have HR8 := Aside0.mk (Kd.R_alloc HR.out (.cells #[.slice A1 y.f0.length c1, .slice B1 y.f1.length d1, .int .i64 y.f2, .int .i64 y.f3] 94 (0, 0)))
   obtain ⟨wz, hwz⟩ : ∃ wz, wz = wr.alloc (.cells #[.slice A1 y.f0.length c1, .slice B1 y.f1.length d1, .int .i64 y.f2, .int .i64 y.f3] 94 (0, 0)) := ⟨_, rfl⟩
   have HOW := Aside0.mk (show ∀ k, some k = (Value.slice Av ys.length cv).ownBlock → k < wz.heap.size from fun k hk => by rw [hwz]; exact Kd.R_lt HR8.out k hk.symm)
   rw [← hwz] at HB8 HL1 HM1 HR8
   clear hL1 hM1 hx0 hx1 HT1
   go_wp2_with (first | (go_at_call 111; rw [← hwz]; clear hwz; with_reducible refine (own_calls y A1 c1 B1 d1 _ HL1.out HM1.out HX0.out HX1.out HYL.out.1 HYL.out.2).mono ?_; rintro e_ w1 ⟨v0, v1, rfl, hr0, hr1, hb⟩; obtain ⟨A2, c2, rfl⟩ := Kd.R_slice hr0; obtain ⟨A3, c3, rfl⟩ := Kd.R_slice hr1; have HB9 := Aside0.mk (below_step HB8.out hb); have HR9 := Aside0.mk (Kd.R_below HR8.out hb); have HP0 := Aside0.mk (Kd.R_lower (Kd.R_mono (Kd.R_bound hr0) (fun k hk => hk.2.1)) (below_size HB8.out)); have HP1 := Aside0.mk (Kd.R_lower (Kd.R_mono (Kd.R_bound hr1) (fun k hk => hk.2.1)) (below_size HB8.out)); clear hr0 hr1 hb) | ((with_reducible refine gate_builtin (b := .append) (xs := #[.tmp 18, .tmp 21]) rfl ?_); at_builtin; refine Kd.R_append k94 (w0 := w) w.heap.size rfl (.tmp 18) (.tmp 21) 105 94 (.agg #[.slice none 0 0, .slice none 0 0, .int .i64 0, .int .i64 0]) 64 rfl Try.underlying105 qsinfo rfl (by decide) (by decide) (.slice Av ys.length cv) ys y [.slice A2 y.f0.length c2, .slice A3 y.f1.length c3, .int .i64 y.f2, .int .i64 y.f3] (fun _ => True) (fun k => wz.heap.size ≤ k) rfl rfl ?aP ?aK ?aF ?aO ?aB ?aS ?aL ?_; (case aP => exact k94_mkM _ _ _ y HP0.out HP1.out); (case aK => exact fun k hk => ⟨trivial, fun q => by have := HOW.out _ q; omega⟩); (case aF => exact fun _ _ => trivial); (case aO => exact HR9.out); (case aB => exact HB9.out); (case aS => exact below_size HB9.out); (case aL => exact HLE.out); intro v7 w7 ho hb hg hat; rw [HTK.out] at ho; have HR10 := Aside0.mk ho; have HB10 := Aside0.mk hb; clear ho hb hg hat))
   go_roundw
   case measure => first | (simp [intOf]; done) | (simp [intOf]; omega)
   case rel => exact ⟨i + 1, hlt, by go_num, HR10, HB10⟩
  ·have hie : xs.take i = xs := List.take_of_length_le (by omega)
   rw [hie] at HR
   have HRB := Aside0.mk (Kd.R_bound HR.out)
   clear hie
   go_wp2
   go_ret
   exact ⟨_, rfl, Kd.R_mono HRB.out (fun k hk => ⟨hk.2.1, hk.2.2.1⟩), HB7.out⟩
set_option maxHeartbeats 1000000 in
set_option maxRecDepth 100000 in
theorem Copy_calls (w0 w : World) (g : Nat) (v wv : Value) (xs : List S94) (ws : List Int) (m : Int) (h : LK w0 w g v wv xs ws m) (hx : ∀ y ∈ xs, y.f0.length ≤ 1000 ∧ y.f1.length ≤ 1000) (hn : xs.length ≤ 1000) :
 Calls Try.prog 66 #[.pointer (some ⟨g, 0, none⟩)] w fun e w' => ∃ gc v1, e = .returned (.pointer (some ⟨gc, 0, none⟩)) ∧ LK w w' gc v1 wv xs ws m := by
 have HT := Aside0.mk h
 obtain ⟨E, e, rfl⟩ := Kd.V_slice h.wid
 have HLI := Aside0.mk (fun w1 (hb : Below w.heap.size w w1) => List_calls w0 w1 g v _ xs ws m (h.step hb) hx hn)
 clear h hx hn
 go_enter Try.func66, Try.ntmps66
 go_wp2
 refine start_ (n := 13) (S := fun w' => Below w.heap.size w w') (ds := []) #[false, false, false, false, false, false, false, false, false, false, false, false, false] (by kernel_rfl) rfl rfl (below_drew1 (Below.refl _ _)) (fun hHeld => ?_)
 generalize World.drew _ = w8 at hHeld ⊢
 refine pl_ [0, 2, 3, 4, 6, 7, 8] ?_
 iterate 7 refine qP rfl rfl ?_
 refine pl0 ?_
 refine take_ (i := 5) (N := some 10) (v := ?_) (a' := ?_) #[true, false, true, true, true, true, true, true, true, false, false, false, false] rfl rfl (by kernel_rfl) (fun _ _ _ h => h) (Or.inl ⟨by rfl, ?_⟩) hHeld ?_ ?_
 rotate_left
 ·intro w' hs
  have l1 := blk_cell (HT.out.step hs).blk 1
  simp only [List.getElem?_toArray, List.getElem?_cons_succ, List.getElem?_cons_zero] at l1
  go_simp
  with_reducible rfl
 rotate_left
 ·simp only [Act.put, List.setIfInBounds_toArray, List.set_cons_zero, List.set_cons_succ, i64_w, i32_w]
  rfl
 refine take_ (i := 9) (N := some 14) (v := ?_) (a' := ?_) #[true, false, true, true, true, true, true, true, true, true, false, false, false] rfl rfl (by kernel_rfl) (fun _ _ _ h => h) (Or.inl ⟨by rfl, ?_⟩) hHeld ?_ ?_
 rotate_left
 ·intro w' hs
  have l2 := blk_cell (HT.out.step hs).blk 2
  simp only [List.getElem?_toArray, List.getElem?_cons_succ, List.getElem?_cons_zero] at l2
  go_simp
  with_reducible rfl
 rotate_left
 ·simp only [Act.put, List.setIfInBounds_toArray, List.set_cons_zero, List.set_cons_succ, i64_w, i32_w]
  rfl
 have HH := Aside0.mk hHeld
 clear hHeld
 refine one_ (i := 1) (N := some 6) #[true, true, true, true, true, true, true, true, true, true, false, false, false] rfl rfl (by kernel_rfl) (by decide) (fun K hK => ?_)
 refine goes_ Try.func61 (by kernel_rfl) rfl #[.pointer (some ⟨g, 0, none⟩)] (by rfl) rfl rfl (by simp only [List.map_toArray, List.map_cons, List.map_nil]; first | rfl | (go_simp; done)) ?_
 with_reducible refine (HLI.out _ HH.out).mono ?_
 rintro e_ w1 ⟨v1, rfl, hr, hb⟩
 refine ⟨_, rfl, ?_⟩
 obtain ⟨A1, c1, rfl⟩ := Kd.R_slice hr
 have HB1 := Aside0.mk (below_step HH.out hb)
 have HR1 := Aside0.mk (show Kd.R k94 94 w1 w.heap.size (fun k => k < w1.heap.size) (.slice A1 xs.length c1) xs from Kd.R_lower (Kd.R_mono hr (fun k hk => hk.2)) (below_size HH.out))
 clear hr hb HH
 refine hK.out _ _ HB1.out (fun hHeld => ?_)
 clear hK K
 refine norm_ (a' := ?_) ?_ ?_
 rotate_left
 ·show Act.put _ (some 6) _ = _
  simp only [Act.put, List.setIfInBounds_toArray, List.set_cons_zero, List.set_cons_succ, i64_w, i32_w]
  rfl
 refine pl_ [10] ?_
 refine qP rfl rfl ?_
 refine pl0 ?_
 clear hHeld
 refine one_ (i := 11) (N := some 16) #[true, true, true, true, true, true, true, true, true, true, true, true, false] rfl rfl (by kernel_rfl) (by decide) (fun K hK => ?_)
 refine value_ (w1 := ?_) (v := ?_) (by rfl) rfl ?_ ?_
 rotate_left 2
 ·go_simp
  constructor
  ·rfl
  ·rfl
 have HA := Aside0.mk (below_alloc HB1.out (.cells #[.slice A1 xs.length c1, .slice E ws.length e, .int .i64 m] 163 (0, 0)))
 refine hK.out _ _ HA.out (fun hHeld => ?_)
 clear hK K hHeld
 refine norm_ (a' := ?_) ?_ ?_
 rotate_left
 ·show Act.put _ (some 16) _ = _
  simp only [Act.put, List.setIfInBounds_toArray, List.set_cons_zero, List.set_cons_succ, i64_w, i32_w]
  rfl
 refine pl_ [12] ?_
 refine qP rfl rfl ?_
 refine pl0 ?_
 refine done_ (by kernel_rfl) ?_
 go_wp2
 go_ret
 have hbase := Kd.R_base HR1.out
 have hsz := below_size HB1.out
 refine ⟨w1.heap.size, _, rfl, blk_new w1 _, Kd.R_alloc (Kd.R_mono HR1.out (fun k hk => by omega)) _, Kd.V_mono (Kd.V_below (Kd.V_bound HT.out.wid) HA.out) (fun k hk => ⟨fun q => by have := hk.2; omega, fun q => by have := hbase k q.symm; have := hk.2; omega⟩), hsz, HA.out⟩
theorem idxT_eq (p : S94 → Bool) : ∀ (xs : List S94) (k : Nat), idxT p xs k = if xs.findIdx p < xs.length then ((k + xs.findIdx p : Nat) : Int) else -1
 | [], k => by simp [idxT]
 | y :: t, k => by
  rw [idxT, List.findIdx_cons]
  cases h : p y with
  | true => simp
  | false =>
   simp only [Bool.false_eq_true, if_false, cond_false, List.length_cons, Nat.add_lt_add_iff_right]
   rw [idxT_eq p t (k + 1)]
   split
   ·congr 1; omega
   ·rfl
theorem idxT_any (p : S94 → Bool) (xs : List S94) : decide (0 ≤ idxT p xs 0) = xs.any p := by
 rw [idxT_eq]
 cases h : xs.any p with
 | true =>
  have : xs.findIdx p < xs.length := List.findIdx_lt_length.2 (by rw [List.any_eq_true] at h; exact h)
  rw [if_pos this]; simp
 | false =>
  have : ¬ xs.findIdx p < xs.length := fun hh => by
   have := List.findIdx_lt_length.1 hh
   rw [← List.any_eq_true, h] at this
   cases this
  rw [if_neg this]; rfl
def putE (c m : Int) (xs : List S94) (x : S94) : Int := if c ≠ 0 then c else if xs.any (fun y => sameI y x) = true then 6 else if (xs.length : Int) = m then 8 else 0
def putL (c m : Int) (xs : List S94) (x : S94) : List S94 := if putE c m xs x = 0 then ins (fun y => y.f2) x xs else xs
def setE (c : Int) (xs : List S94) (x : S94) : Int := if c ≠ 0 then c else if xs.any (fun y => sameI y x) = true then 0 else 5
def setL (c : Int) (xs : List S94) (x : S94) : List S94 := if c = 0 then xs.map (fun y => if sameI y x = true then { y with f3 := x.f3 } else y) else xs
def dropL (c : Int) (xs : List S94) (x : S94) : List S94 := if c = 0 then xs.filter (fun y => !sameI y x) else xs
theorem sameI_iff (y x : S94) : sameI y x = true ↔ x.f0 = y.f0 ∧ x.f1 = y.f1 ∧ x.f2 = y.f2 := by
 unfold sameI
 simp only [Bool.and_eq_true, decide_eq_true_eq]
 constructor
 ·rintro ⟨h1, h2, h3⟩; exact ⟨h2, h3, h1⟩
 ·rintro ⟨h1, h2, h3⟩; exact ⟨h3, h1, h2⟩
theorem sameI_trans (a b x : S94) (h1 : sameI a x = true) (h2 : sameI b x = true) : sameI a b = true := by
 rw [sameI_iff] at *
 exact ⟨h2.1.symm.trans h1.1, h2.2.1.symm.trans h1.2.1, h2.2.2.symm.trans h1.2.2⟩
theorem idxT_neg (p : S94 → Bool) (xs : List S94) (h : xs.any p = false) : decide (idxT p xs 0 < 0) = true := by
 have := idxT_any p xs
 rw [h] at this
 simp only [decide_eq_false_iff_not, decide_eq_true_eq] at *
 omega
theorem idxT_pos (p : S94 → Bool) (xs : List S94) (h : xs.any p = true) : ∃ (i : Nat) (hi : i < xs.length), idxT p xs 0 = (i : Int) ∧ p xs[i] = true := by
 have hlt : xs.findIdx p < xs.length := List.findIdx_lt_length.2 (by rw [List.any_eq_true] at h; exact h)
 refine ⟨xs.findIdx p, hlt, by rw [idxT_eq, if_pos hlt, Nat.zero_add], List.findIdx_getElem⟩
theorem Put_calls (w0 w : World) (g : Nat) (v wv : Value) (xs : List S94) (ws : List Int) (m : Int) (x : S94) (A : Option Addr) (c : Nat) (B : Option Addr) (d : Nat) (h : LK w0 w g v wv xs ws m) (hA : Kd.C k32 w A x.f0.length x.f0) (hB : Kd.C k32 w B x.f1.length x.f1) (hok0 : ∀ y ∈ x.f0, okV y) (hok1 : ∀ y ∈ x.f1, okV y) (hxl : x.f0.length ≤ c ∧ x.f1.length ≤ d ∧ x.f0.length ≤ 1000 ∧ x.f1.length ≤ 1000) (hn : xs.length ≤ 1000) :
 Calls Try.prog 55 #[.pointer (some ⟨g, 0, none⟩), .agg #[.slice A x.f0.length c, .slice B x.f1.length d, .int .i64 x.f2, .int .i64 x.f3]] w fun e w' => e = .returned (.int .i64 (putE (mayL ws x) m xs x)) ∧ ∃ v1, LP w0 w w' g v v1 wv (putL (mayL ws x) m xs x) ws m := by
 by_cases hc : mayL ws x = 0
 ·rw [hc]
  have hany := idxT_any (fun y => sameI y x) xs
  cases ha : xs.any (fun y => sameI y x) with
  | true =>
   have e : putE 0 m xs x = 6 := by unfold putE; rw [if_neg (by simp), if_pos ha]
   have e2 : putL 0 m xs x = xs := by unfold putL; rw [e]; rfl
   rw [e, e2]
   refine (Put_twice w0 w g v wv xs ws m x A c B d h hA hB hok0 hok1 hc _ rfl (by rw [hany, ha]) hn).mono ?_
   rintro _ w' ⟨rfl, hb⟩
   exact ⟨rfl, v, LP.of_below h hb⟩
  | false =>
   by_cases hl : (xs.length : Int) = m
   ·have e : putE 0 m xs x = 8 := by unfold putE; rw [if_neg (by simp), if_neg (by rw [ha]; simp), if_pos hl]
    have e2 : putL 0 m xs x = xs := by unfold putL; rw [e]; rfl
    rw [e, e2]
    refine (Put_full w0 w g v wv xs ws m x A c B d h hA hB hok0 hok1 hc _ rfl (by rw [hany, ha]) (by simpa using hl) hn).mono ?_
    rintro _ w' ⟨rfl, hb⟩
    exact ⟨rfl, v, LP.of_below h hb⟩
   ·have e : putE 0 m xs x = 0 := by unfold putE; rw [if_neg (by simp), if_neg (by rw [ha]; simp), if_neg hl]
    have e2 : putL 0 m xs x = ins (fun y => y.f2) x xs := by unfold putL; rw [e]; rfl
    rw [e, e2, ins_at]
    have hi := idxT_eq (fun y => decide (x.f2 < y.f2)) xs 0
    by_cases hlt : xs.findIdx (fun y => decide (x.f2 < y.f2)) < xs.length
    ·rw [if_pos hlt, Nat.zero_add] at hi
     exact Put_mid w0 w g v wv xs ws m x A c B d h hA hB hok0 hok1 hc _ rfl (by rw [hany, ha]) (by simpa using hl) _ (by omega) hxl hi hn
    ·rw [if_neg hlt] at hi
     have hle : xs.findIdx (fun y => decide (x.f2 < y.f2)) ≤ xs.length := List.findIdx_le_length
     exact Put_end w0 w g v wv xs ws m x A c B d h hA hB hok0 hok1 hc _ rfl (by rw [hany, ha]) (by simpa using hl) _ (by omega) hxl hi (by omega) hn
 ·have e : putE (mayL ws x) m xs x = mayL ws x := by unfold putE; rw [if_pos hc]
  have e2 : putL (mayL ws x) m xs x = xs := by unfold putL; rw [e, if_neg hc]
  rw [e, e2]
  refine (Put_e w0 w g v wv xs ws m x A c B d h hA hB hok0 hok1 _ rfl (by simpa using hc) hn).mono ?_
  rintro _ w' ⟨rfl, hb⟩
  exact ⟨rfl, v, LP.of_below h hb⟩
theorem Set_calls (w0 w : World) (g : Nat) (v wv : Value) (xs : List S94) (ws : List Int) (m : Int) (x : S94) (A : Option Addr) (c : Nat) (B : Option Addr) (d : Nat) (h : LK w0 w g v wv xs ws m) (hA : Kd.C k32 w A x.f0.length x.f0) (hB : Kd.C k32 w B x.f1.length x.f1) (hok0 : ∀ y ∈ x.f0, okV y) (hok1 : ∀ y ∈ x.f1, okV y) (hn : xs.length ≤ 1000) (hd : xs.Pairwise (fun a b => sameI a b = false)) :
 Calls Try.prog 64 #[.pointer (some ⟨g, 0, none⟩), .agg #[.slice A x.f0.length c, .slice B x.f1.length d, .int .i64 x.f2, .int .i64 x.f3]] w fun e w' => e = .returned (.int .i64 (setE (mayL ws x) xs x)) ∧ ∃ v1, LP w0 w w' g v v1 wv (setL (mayL ws x) xs x) ws m := by
 by_cases hc : mayL ws x = 0
 ·rw [hc]
  cases ha : xs.any (fun y => sameI y x) with
  | true =>
   obtain ⟨i, hi, e1, e2⟩ := idxT_pos _ _ ha
   have e : setE 0 xs x = 0 := by unfold setE; rw [if_neg (by simp), if_pos ha]
   have e3 : setL 0 xs x = xs.set i { rd_T94 xs (i : Int) with f3 := x.f3 } := by
    rw [rd94 xs i hi, set_map (same := sameI) sameI_trans (fun y => { y with f3 := x.f3 }) x xs i xs[i] hd (List.getElem?_eq_getElem hi) e2]
    rfl
   rw [e, e3]
   refine (Set_ok w0 w g v wv xs ws m x A c B d h hA hB hok0 hok1 hc i e1 hi hn).mono ?_
   rintro _ w' ⟨rfl, hb⟩
   exact ⟨rfl, v, hb⟩
  | false =>
   have e : setE 0 xs x = 5 := by unfold setE; rw [if_neg (by simp), if_neg (by rw [ha]; simp)]
   have e3 : setL 0 xs x = xs := by
    show xs.map _ = xs
    conv => rhs; rw [← List.map_id xs]
    refine List.map_congr_left (fun y hy => ?_)
    rw [if_neg (fun hh => by rw [List.any_eq_false] at ha; exact ha y hy hh)]; rfl
   rw [e, e3]
   refine (Set_none w0 w g v wv xs ws m x A c B d h hA hB hok0 hok1 hc _ rfl (idxT_neg _ _ ha) hn).mono ?_
   rintro _ w' ⟨rfl, hb⟩
   exact ⟨rfl, v, LP.of_below h hb⟩
 ·have e : setE (mayL ws x) xs x = mayL ws x := by unfold setE; rw [if_pos hc]
  have e2 : setL (mayL ws x) xs x = xs := by unfold setL; rw [if_neg hc]
  rw [e, e2]
  refine (Set_e w0 w g v wv xs ws m x A c B d h hA hB hok0 hok1 _ rfl (by simpa using hc) hn).mono ?_
  rintro _ w' ⟨rfl, hb⟩
  exact ⟨rfl, v, LP.of_below h hb⟩
theorem Drop_calls (w0 w : World) (g : Nat) (v wv : Value) (xs : List S94) (ws : List Int) (m : Int) (x : S94) (A : Option Addr) (c : Nat) (B : Option Addr) (d : Nat) (h : LK w0 w g v wv xs ws m) (hA : Kd.C k32 w A x.f0.length x.f0) (hB : Kd.C k32 w B x.f1.length x.f1) (hok0 : ∀ y ∈ x.f0, okV y) (hok1 : ∀ y ∈ x.f1, okV y) (hn : xs.length ≤ 1000) (hd : xs.Pairwise (fun a b => sameI a b = false)) :
 Calls Try.prog 65 #[.pointer (some ⟨g, 0, none⟩), .agg #[.slice A x.f0.length c, .slice B x.f1.length d, .int .i64 x.f2, .int .i64 x.f3]] w fun e w' => e = .returned (.int .i64 (setE (mayL ws x) xs x)) ∧ ∃ v1, LP w0 w w' g v v1 wv (dropL (mayL ws x) xs x) ws m := by
 by_cases hc : mayL ws x = 0
 ·rw [hc]
  cases ha : xs.any (fun y => sameI y x) with
  | true =>
   obtain ⟨i, hi, e1, e2⟩ := idxT_pos _ _ ha
   have e : setE 0 xs x = 0 := by unfold setE; rw [if_neg (by simp), if_pos ha]
   have e3 : dropL 0 xs x = xs.eraseIdx i := by
    rw [erase_filter (same := sameI) sameI_trans x xs i xs[i] hd (List.getElem?_eq_getElem hi) e2]
    rfl
   rw [e, e3]
   exact Drop_ok w0 w g v wv xs ws m x A c B d h hA hB hok0 hok1 hc i e1 hi hn
  | false =>
   have e : setE 0 xs x = 5 := by unfold setE; rw [if_neg (by simp), if_neg (by rw [ha]; simp)]
   have e3 : dropL 0 xs x = xs := by
    exact List.filter_eq_self.2 (fun y hy => by
     rw [List.any_eq_false] at ha
     have := ha y hy
     simp only [Bool.not_eq_true] at this
     rw [this]; rfl)
   rw [e, e3]
   refine (Drop_none w0 w g v wv xs ws m x A c B d h hA hB hok0 hok1 hc _ rfl (idxT_neg _ _ ha) hn).mono ?_
   rintro _ w' ⟨rfl, hb⟩
   exact ⟨rfl, v, LP.of_below h hb⟩
 ·have e : setE (mayL ws x) xs x = mayL ws x := by unfold setE; rw [if_pos hc]
  have e2 : dropL (mayL ws x) xs x = xs := by unfold dropL; rw [if_neg hc]
  rw [e, e2]
  refine (Drop_e w0 w g v wv xs ws m x A c B d h hA hB hok0 hok1 _ rfl (by simpa using hc) hn).mono ?_
  rintro _ w' ⟨rfl, hb⟩
  exact ⟨rfl, v, LP.of_below h hb⟩
end Go.Proofs.Ytfdbcnbakchcgaa.XQ
