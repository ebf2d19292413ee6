/- The reference's Insts. -/
import Derived.Test.YtpdjiiikfjjfjaaIh
namespace Go.Proofs.Ytpdjiiikfjjfjaa.XI
open Go.RowKit Go.Proofs.YtpdjiiikfjjfjaaW.PrintWords Go.Proofs.YtpdjiiikfjjfjaaW.PrintLast Go.Proofs.YtpdjiiikfjjfjaaW.PrintMore
attribute [local go_sem] max2_int min2_int max_two min_two max_three min_three max_four min_four   -- for this text's walks alone
set_option linter.unusedVariables false
set_option linter.unusedSimpArgs false
/-- Has an instance ahead of number i a name that is alike? -/
def hitB (l : List S42) (i : Nat) : Bool := (List.range i).any (fun q => decide (keys (rd_T42 l (q : Int)).f0 = keys (rd_T42 l (i : Int)).f0))
theorem hitB_iff (l : List S42) (i : Nat) : hitB l i = true ↔ ∃ q, q < i ∧ keys (rd_T42 l (q : Int)).f0 = keys (rd_T42 l (i : Int)).f0 := by
  unfold hitB
  rw [List.any_eq_true]
  constructor
  · rintro ⟨q, hq, e⟩; exact ⟨q, List.mem_range.1 hq, of_decide_eq_true e⟩
  · rintro ⟨q, hq, e⟩; exact ⟨q, List.mem_range.2 hq, decide_eq_true e⟩
/-- What is wrong with instance i; 0: nothing. -/
def stepI (hn : Int) (l : List S42) (i : Nat) : Int :=
  if plainP (rd_T42 l (i : Int)).f0 = false then 4 else if hitB l i = true then 6 else if ¬ (0 ≤ (rd_T42 l (i : Int)).f1 ∧ (rd_T42 l (i : Int)).f1 < hn) then 5 else if ¬ (0 ≤ (rd_T42 l (i : Int)).f2 ∧ (rd_T42 l (i : Int)).f2 ≤ 4) then 7 else 0
/-- Why instances may not be, from number i on. -/
def codeI (hn : Int) (l : List S42) (end_ : Int) : Nat → Nat → Int
  | 0, _ => end_
  | n + 1, i => if stepI hn l i = 0 then codeI hn l end_ n (i + 1) else stepI hn l i

/-- The end: too many slots? -/
def fullE (l : List S42) : Int := if 32 < (slotsL l 0).length then 8 else 0
theorem codeI_nx (hn : Int) (l : List S42) (e : Int) (i : Nat) (h : i < l.length) : codeI hn l e (l.length - i) i = if stepI hn l i = 0 then codeI hn l e (l.length - (i + 1)) (i + 1) else stepI hn l i := by
  rw [show l.length - i = (l.length - (i + 1)) + 1 by omega, codeI]
theorem rd_in42 (l : List S42) (i : Nat) (h : i < l.length) : rd_T42 l (i : Int) ∈ l := by
  simp [rd_T42, List.getD_eq_getElem?_getD, h]
theorem hitB_no (l : List S42) (i : Nat) (h : ∀ q, q < i → keys (rd_T42 l (q : Int)).f0 ≠ keys (rd_T42 l (i : Int)).f0) : hitB l i = false := by
  cases hb : hitB l i with
  | false => rfl
  | true => obtain ⟨q, hq, e⟩ := (hitB_iff l i).1 hb; exact absurd e (h q hq)
theorem stepI_4 {hn : Int} {l : List S42} {i : Nat} (h : plainP (rd_T42 l (i : Int)).f0 = false) : stepI hn l i = 4 := by unfold stepI; rw [if_pos h]
theorem stepI_6 {hn : Int} {l : List S42} {i : Nat} (h : plainP (rd_T42 l (i : Int)).f0 = true) (h2 : hitB l i = true) : stepI hn l i = 6 := by unfold stepI; rw [h, if_neg (by simp), if_pos h2]
theorem stepI_5 {hn : Int} {l : List S42} {i : Nat} (h : plainP (rd_T42 l (i : Int)).f0 = true) (h2 : hitB l i = false) (h3 : ¬ (0 ≤ (rd_T42 l (i : Int)).f1 ∧ (rd_T42 l (i : Int)).f1 < hn)) : stepI hn l i = 5 := by unfold stepI; rw [h, if_neg (by simp), h2, if_neg (by simp), if_pos h3]
theorem stepI_7 {hn : Int} {l : List S42} {i : Nat} (h : plainP (rd_T42 l (i : Int)).f0 = true) (h2 : hitB l i = false) (h3 : 0 ≤ (rd_T42 l (i : Int)).f1 ∧ (rd_T42 l (i : Int)).f1 < hn) (h4 : ¬ (0 ≤ (rd_T42 l (i : Int)).f2 ∧ (rd_T42 l (i : Int)).f2 ≤ 4)) : stepI hn l i = 7 := by unfold stepI; rw [h, if_neg (by simp), h2, if_neg (by simp), if_neg (not_not_intro h3), if_pos h4]
theorem stepI_0 {hn : Int} {l : List S42} {i : Nat} (h : plainP (rd_T42 l (i : Int)).f0 = true) (h2 : hitB l i = false) (h3 : 0 ≤ (rd_T42 l (i : Int)).f1 ∧ (rd_T42 l (i : Int)).f1 < hn) (h4 : 0 ≤ (rd_T42 l (i : Int)).f2 ∧ (rd_T42 l (i : Int)).f2 ≤ 4) : stepI hn l i = 0 := by unfold stepI; rw [h, if_neg (by simp), h2, if_neg (by simp), if_neg (not_not_intro h3), if_neg (not_not_intro h4)]
set_option maxHeartbeats 1000000 in
set_option maxRecDepth 100000 in
theorem Insts_walk (A0 : Option Addr) (c0 hn : Nat) (A1 : Option Addr) (c1 : Nat) (l : List S42) (w : World) (hC : Kd.C k42 w A1 l.length l) (hc : l.length ≤ c1) (hl : l.length ≤ 16) (hs : ∀ x ∈ l, x.f0.size ≤ 200) :
    Calls Try.prog 27 #[.slice A0 hn c0, .slice A1 l.length c1] w fun e w' => e = .returned (.int .i64 (codeI hn l (fullE l) l.length 0)) ∧ Below w.heap.size w w' := by
  have HC := Aside0.mk hC
  have HS := Aside0.mk hs
  clear hC hs
  go_enter Try.func27, Try.ntmps27
  go_wp2
  go_loopw [5] (fun u5 w' => ∃ i : Nat, i ≤ l.length ∧ u5 = .int .i64 i ∧ Aside0 (codeI hn l (fullE l) l.length 0 = codeI hn l (fullE l) (l.length - i) i) ∧ Aside0 (Below w.heap.size w w')) (fun u5 _ => l.length - (intOf u5).toNat)
  case atStart => exact ⟨0, Nat.zero_le _, rfl, ⟨rfl⟩, ⟨Below.refl _ _⟩⟩
  case round =>
    obtain ⟨i, hi, rfl, HI, HB⟩ := hrel
    by_cases hlt : i < l.length
    · obtain ⟨ad, hA, p0, p1, p2⟩ := at_T42 HC.out (i : Int) (by omega) (by omega)
      subst hA
      rw [Int.toNat_natCast] at p0 p1 p2
      have q0 := (HB.out.cell (World.block_lt_of_cell? w _ p0)).trans p0
      have HQ1 := Aside0.mk p1
      have HQ2 := Aside0.mk p2
      have HP0 := Aside0.mk p0
      have hxs := HS.out _ (rd_in42 l i hlt)
      have HN := Aside0.mk ((HI.out).trans (codeI_nx hn l (fullE l) i hlt))
      have HPL := Aside0.mk (rPlain_eq (rd_T42 l (i : Int)).f0 hxs 4000 (by omega))
      have HX := Aside0.mk (fun (k : Nat) (hk : k < l.length) => at_T42 HC.out (k : Int) (by omega) (by omega))
      clear p1 p2 p0
      obtain ⟨x, hx⟩ : ∃ x, x = rd_T42 l (i : Int) := ⟨_, rfl⟩
      have HXX := Aside0.mk hx
      rw [← hx] at q0 HPL HQ1 HQ2 HP0 hxs
      clear hx
      cases hp : plainP x.f0 with
      | false =>
        rw [hp] at HPL
        have HF := Aside0.mk (show codeI hn l (fullE l) l.length 0 = 4 from by rw [HN.out, stepI_4 (by rw [← HXX.out]; exact hp)]; rfl)
        clear hp
        go_wp2_with (go_at_call 35; with_reducible refine (shunterref08_Plain.calls 4000 _ false _ HPL.out).mono ?_; rintro e w2 ⟨rfl, hb⟩; have HB2 := Aside0.mk (below_step HB.out hb); clear hb)
        go_ret
        exact ⟨by rw [HF.out]; rfl, HB2.out⟩
      | true =>
        rw [hp] at HPL
        have HPP := Aside0.mk (show plainP (rd_T42 l (i : Int)).f0 = true from by rw [← HXX.out]; exact hp)
        clear hp
        go_wp2_with (go_at_call 35; with_reducible refine (shunterref08_Plain.calls 4000 _ true _ HPL.out).mono ?_; rintro e w2 ⟨rfl, hb⟩; have HB2 := Aside0.mk (below_step HB.out hb); clear hb)
        go_loopw [6] (fun u6 w' => ∃ k : Nat, k ≤ i ∧ u6 = .int .i64 k ∧ Aside0 (∀ q, q < k → keys (rd_T42 l (q : Int)).f0 ≠ keys (rd_T42 l (i : Int)).f0) ∧ Aside0 (Below w.heap.size w w')) (fun u6 _ => i - (intOf u6).toNat)
        case atStart => exact ⟨0, Nat.zero_le _, rfl, ⟨fun q hq => by omega⟩, HB2⟩
        case round =>
          clear q0 HB2 HB
          obtain ⟨k, hk, rfl, HNO, HB3⟩ := hrel
          by_cases hkk : k < i
          · obtain ⟨ad', hA', r0, _, _⟩ := HX.out k (by omega)
            cases hA'
            rw [Int.toNat_natCast] at r0
            replace r0 := (HB3.out.cell (World.block_lt_of_cell? w _ r0)).trans r0
            have t0 := (HB3.out.cell (World.block_lt_of_cell? w _ HP0.out)).trans HP0.out
            have hys := HS.out _ (rd_in42 l k (by omega))
            obtain ⟨y, hy⟩ : ∃ y, y = rd_T42 l (k : Int) := ⟨_, rfl⟩
            have HY := Aside0.mk hy
            rw [← hy] at r0 hys
            clear hy
            have HAL := Aside0.mk (rAlike_eq y.f0 x.f0 hys hxs 4000 (by omega))
            have hkl : (k : Int) < (l.length : Int) := by omega
            have hil : (i : Int) < (l.length : Int) := by omega
            have hk0 : 0 ≤ (k : Int) := by omega
            have hi0 : 0 ≤ (i : Int) := by omega
            by_cases he : keys y.f0 = keys x.f0
            · rw [decide_eq_true he] at HAL
              have HF := Aside0.mk (show codeI hn l (fullE l) l.length 0 = 6 from by rw [HN.out, stepI_6 HPP.out ((hitB_iff l i).2 ⟨k, hkk, by rw [← HXX.out, ← HY.out]; exact he⟩)]; rfl)
              clear he
              go_wp2
              refine start_ (n := 11) (S := fun w' => w'.cell? (ad.add (k * 3)) = some (.string y.f0) ∧ w'.cell? (ad.add (i * 3)) = some (.string x.f0)) (ds := []) #[false, false, false, false, false, false, false, false, false, false, false] (by kernel_rfl) rfl rfl ⟨r0, t0⟩ (fun hHeld => ?_)
              refine pure_ (i := 0) (N := some 28) (v := ?_) (a' := ?_) #[true, false, false, false, false, false, false, false, false, false, false] rfl rfl (by kernel_rfl) (fun _ _ _ h => h) (Or.inl ⟨by rfl, ?_⟩) ?_ ?_
              rotate_left
              · intro w'
                go_simp
                with_reducible rfl
              rotate_left
              · simp only [Act.put, List.setIfInBounds_toArray, List.set_cons_zero, List.set_cons_succ, i64_w, i32_w]
                rfl
              refine pure_ (i := 1) (N := some 29) (v := ?_) (a' := ?_) #[true, true, false, false, false, false, false, false, false, false, false] rfl rfl (by kernel_rfl) (fun _ _ _ h => h) (Or.inl ⟨by rfl, ?_⟩) ?_ ?_
              rotate_left
              · intro w'
                go_simp
                with_reducible rfl
              rotate_left
              · simp only [Act.put, List.setIfInBounds_toArray, List.set_cons_zero, List.set_cons_succ, i64_w, i32_w]
                rfl
              refine pure_ (i := 2) (N := some 30) (v := ?_) (a' := ?_) #[true, true, true, false, false, false, false, false, false, false, false] rfl rfl (by kernel_rfl) (fun _ _ _ h => h) (Or.inl ⟨by rfl, ?_⟩) ?_ ?_
              rotate_left
              · intro w'
                go_simp
                with_reducible rfl
              rotate_left
              · simp only [Act.put, List.setIfInBounds_toArray, List.set_cons_zero, List.set_cons_succ, i64_w, i32_w]
                rfl
              refine pure_ (i := 3) (N := some 31) (v := ?_) (a' := ?_) #[true, true, true, true, false, false, false, false, false, false, false] rfl rfl (by kernel_rfl) (fun _ _ _ h => h) (Or.inl ⟨by rfl, ?_⟩) ?_ ?_
              rotate_left
              · intro w'
                go_simp
                with_reducible rfl
              rotate_left
              · simp only [Act.put, List.setIfInBounds_toArray, List.set_cons_zero, List.set_cons_succ, i64_w, i32_w]
                rfl
              refine pure_ (i := 5) (N := some 33) (v := ?_) (a' := ?_) #[true, true, true, true, false, true, false, false, false, false, false] rfl rfl (by kernel_rfl) (fun _ _ _ h => h) (Or.inl ⟨by rfl, ?_⟩) ?_ ?_
              rotate_left
              · intro w'
                go_simp
                with_reducible rfl
              rotate_left
              · simp only [Act.put, List.setIfInBounds_toArray, List.set_cons_zero, List.set_cons_succ, i64_w, i32_w]
                rfl
              refine pure_ (i := 6) (N := some 34) (v := ?_) (a' := ?_) #[true, true, true, true, false, true, true, false, false, false, false] rfl rfl (by kernel_rfl) (fun _ _ _ h => h) (Or.inl ⟨by rfl, ?_⟩) ?_ ?_
              rotate_left
              · intro w'
                go_simp
                with_reducible rfl
              rotate_left
              · simp only [Act.put, List.setIfInBounds_toArray, List.set_cons_zero, List.set_cons_succ, i64_w, i32_w]
                rfl
              refine pure_ (i := 7) (N := some 35) (v := ?_) (a' := ?_) #[true, true, true, true, false, true, true, true, false, false, false] rfl rfl (by kernel_rfl) (fun _ _ _ h => h) (Or.inl ⟨by rfl, ?_⟩) ?_ ?_
              rotate_left
              · intro w'
                go_simp
                with_reducible rfl
              rotate_left
              · simp only [Act.put, List.setIfInBounds_toArray, List.set_cons_zero, List.set_cons_succ, i64_w, i32_w]
                rfl
              refine pure_ (i := 8) (N := some 36) (v := ?_) (a' := ?_) #[true, true, true, true, false, true, true, true, true, false, false] rfl rfl (by kernel_rfl) (fun _ _ _ h => h) (Or.inl ⟨by rfl, ?_⟩) ?_ ?_
              rotate_left
              · intro w'
                go_simp
                with_reducible rfl
              rotate_left
              · simp only [Act.put, List.setIfInBounds_toArray, List.set_cons_zero, List.set_cons_succ, i64_w, i32_w]
                rfl
              refine take_ (i := 4) (N := some 32) (v := ?_) (a' := ?_) #[true, true, true, true, true, true, true, true, true, false, false] rfl rfl (by kernel_rfl) (fun _ _ _ h => h) (Or.inl ⟨by rfl, ?_⟩) hHeld ?_ ?_
              rotate_left
              · rintro w' ⟨s0, s1⟩
                go_simp
                with_reducible rfl
              rotate_left
              · simp only [Act.put, List.setIfInBounds_toArray, List.set_cons_zero, List.set_cons_succ, i64_w, i32_w]
                rfl
              refine take_ (i := 9) (N := some 37) (v := ?_) (a' := ?_) #[true, true, true, true, true, true, true, true, true, true, false] rfl rfl (by kernel_rfl) (fun _ _ _ h => h) (Or.inl ⟨by rfl, ?_⟩) hHeld ?_ ?_
              rotate_left
              · rintro w' ⟨s0, s1⟩
                go_simp
                with_reducible rfl
              rotate_left
              · simp only [Act.put, List.setIfInBounds_toArray, List.set_cons_zero, List.set_cons_succ, i64_w, i32_w]
                rfl
              refine one_ (i := 10) (N := some 38) #[true, true, true, true, true, true, true, true, true, true, true] rfl rfl (by kernel_rfl) (by decide) (fun K hK => ?_)
              refine goes_ Try.func16 (by kernel_rfl) rfl #[.string y.f0, .string x.f0] (by rfl) rfl rfl (by simp only [List.map_toArray, List.map_cons, List.map_nil]; rfl) ?_
              with_reducible refine (shunterref08_Alike.calls 4000 y.f0 x.f0 true _ HAL.out).mono ?_
              rintro e w3 ⟨rfl, hb⟩
              refine ⟨_, rfl, ?_⟩
              have H3 := Aside0.mk (below_step (below_drew1 HB3.out) hb)
              have r1 := (hb.cell (World.block_lt_of_cell? _ _ r0)).trans r0
              have t1 := (hb.cell (World.block_lt_of_cell? _ _ t0)).trans t0
              clear hb
              refine hK.out _ _ ⟨r1, t1⟩ (fun hHeld => ?_)
              clear hK K
              refine norm_ (a' := ?_) ?_ ?_
              rotate_left
              · show Act.put _ (some 38) _ = _
                simp only [Act.put, List.setIfInBounds_toArray, List.set_cons_zero, List.set_cons_succ, i64_w, i32_w]
                rfl
              refine done_ (by kernel_rfl) ?_
              go_wp2
              go_ret
              exact ⟨by rw [HF.out]; rfl, H3.out⟩
            · rw [decide_eq_false he] at HAL
              have HNO2 := Aside0.mk (show ∀ q, q < k + 1 → keys (rd_T42 l (q : Int)).f0 ≠ keys (rd_T42 l (i : Int)).f0 from fun q hq => by
                rcases Nat.lt_or_ge q k with c | c
                · exact HNO.out q c
                · obtain rfl : q = k := by omega
                  rw [← HXX.out, ← HY.out]; exact he)
              clear he
              go_wp2
              refine start_ (n := 11) (S := fun w' => w'.cell? (ad.add (k * 3)) = some (.string y.f0) ∧ w'.cell? (ad.add (i * 3)) = some (.string x.f0)) (ds := []) #[false, false, false, false, false, false, false, false, false, false, false] (by kernel_rfl) rfl rfl ⟨r0, t0⟩ (fun hHeld => ?_)
              refine pure_ (i := 0) (N := some 28) (v := ?_) (a' := ?_) #[true, false, false, false, false, false, false, false, false, false, false] rfl rfl (by kernel_rfl) (fun _ _ _ h => h) (Or.inl ⟨by rfl, ?_⟩) ?_ ?_
              rotate_left
              · intro w'
                go_simp
                with_reducible rfl
              rotate_left
              · simp only [Act.put, List.setIfInBounds_toArray, List.set_cons_zero, List.set_cons_succ, i64_w, i32_w]
                rfl
              refine pure_ (i := 1) (N := some 29) (v := ?_) (a' := ?_) #[true, true, false, false, false, false, false, false, false, false, false] rfl rfl (by kernel_rfl) (fun _ _ _ h => h) (Or.inl ⟨by rfl, ?_⟩) ?_ ?_
              rotate_left
              · intro w'
                go_simp
                with_reducible rfl
              rotate_left
              · simp only [Act.put, List.setIfInBounds_toArray, List.set_cons_zero, List.set_cons_succ, i64_w, i32_w]
                rfl
              refine pure_ (i := 2) (N := some 30) (v := ?_) (a' := ?_) #[true, true, true, false, false, false, false, false, false, false, false] rfl rfl (by kernel_rfl) (fun _ _ _ h => h) (Or.inl ⟨by rfl, ?_⟩) ?_ ?_
              rotate_left
              · intro w'
                go_simp
                with_reducible rfl
              rotate_left
              · simp only [Act.put, List.setIfInBounds_toArray, List.set_cons_zero, List.set_cons_succ, i64_w, i32_w]
                rfl
              refine pure_ (i := 3) (N := some 31) (v := ?_) (a' := ?_) #[true, true, true, true, false, false, false, false, false, false, false] rfl rfl (by kernel_rfl) (fun _ _ _ h => h) (Or.inl ⟨by rfl, ?_⟩) ?_ ?_
              rotate_left
              · intro w'
                go_simp
                with_reducible rfl
              rotate_left
              · simp only [Act.put, List.setIfInBounds_toArray, List.set_cons_zero, List.set_cons_succ, i64_w, i32_w]
                rfl
              refine pure_ (i := 5) (N := some 33) (v := ?_) (a' := ?_) #[true, true, true, true, false, true, false, false, false, false, false] rfl rfl (by kernel_rfl) (fun _ _ _ h => h) (Or.inl ⟨by rfl, ?_⟩) ?_ ?_
              rotate_left
              · intro w'
                go_simp
                with_reducible rfl
              rotate_left
              · simp only [Act.put, List.setIfInBounds_toArray, List.set_cons_zero, List.set_cons_succ, i64_w, i32_w]
                rfl
              refine pure_ (i := 6) (N := some 34) (v := ?_) (a' := ?_) #[true, true, true, true, false, true, true, false, false, false, false] rfl rfl (by kernel_rfl) (fun _ _ _ h => h) (Or.inl ⟨by rfl, ?_⟩) ?_ ?_
              rotate_left
              · intro w'
                go_simp
                with_reducible rfl
              rotate_left
              · simp only [Act.put, List.setIfInBounds_toArray, List.set_cons_zero, List.set_cons_succ, i64_w, i32_w]
                rfl
              refine pure_ (i := 7) (N := some 35) (v := ?_) (a' := ?_) #[true, true, true, true, false, true, true, true, false, false, false] rfl rfl (by kernel_rfl) (fun _ _ _ h => h) (Or.inl ⟨by rfl, ?_⟩) ?_ ?_
              rotate_left
              · intro w'
                go_simp
                with_reducible rfl
              rotate_left
              · simp only [Act.put, List.setIfInBounds_toArray, List.set_cons_zero, List.set_cons_succ, i64_w, i32_w]
                rfl
              refine pure_ (i := 8) (N := some 36) (v := ?_) (a' := ?_) #[true, true, true, true, false, true, true, true, true, false, false] rfl rfl (by kernel_rfl) (fun _ _ _ h => h) (Or.inl ⟨by rfl, ?_⟩) ?_ ?_
              rotate_left
              · intro w'
                go_simp
                with_reducible rfl
              rotate_left
              · simp only [Act.put, List.setIfInBounds_toArray, List.set_cons_zero, List.set_cons_succ, i64_w, i32_w]
                rfl
              refine take_ (i := 4) (N := some 32) (v := ?_) (a' := ?_) #[true, true, true, true, true, true, true, true, true, false, false] rfl rfl (by kernel_rfl) (fun _ _ _ h => h) (Or.inl ⟨by rfl, ?_⟩) hHeld ?_ ?_
              rotate_left
              · rintro w' ⟨s0, s1⟩
                go_simp
                with_reducible rfl
              rotate_left
              · simp only [Act.put, List.setIfInBounds_toArray, List.set_cons_zero, List.set_cons_succ, i64_w, i32_w]
                rfl
              refine take_ (i := 9) (N := some 37) (v := ?_) (a' := ?_) #[true, true, true, true, true, true, true, true, true, true, false] rfl rfl (by kernel_rfl) (fun _ _ _ h => h) (Or.inl ⟨by rfl, ?_⟩) hHeld ?_ ?_
              rotate_left
              · rintro w' ⟨s0, s1⟩
                go_simp
                with_reducible rfl
              rotate_left
              · simp only [Act.put, List.setIfInBounds_toArray, List.set_cons_zero, List.set_cons_succ, i64_w, i32_w]
                rfl
              refine one_ (i := 10) (N := some 38) #[true, true, true, true, true, true, true, true, true, true, true] rfl rfl (by kernel_rfl) (by decide) (fun K hK => ?_)
              refine goes_ Try.func16 (by kernel_rfl) rfl #[.string y.f0, .string x.f0] (by rfl) rfl rfl (by simp only [List.map_toArray, List.map_cons, List.map_nil]; rfl) ?_
              with_reducible refine (shunterref08_Alike.calls 4000 y.f0 x.f0 false _ HAL.out).mono ?_
              rintro e w3 ⟨rfl, hb⟩
              refine ⟨_, rfl, ?_⟩
              have H3 := Aside0.mk (below_step (below_drew1 HB3.out) hb)
              have r1 := (hb.cell (World.block_lt_of_cell? _ _ r0)).trans r0
              have t1 := (hb.cell (World.block_lt_of_cell? _ _ t0)).trans t0
              clear hb
              refine hK.out _ _ ⟨r1, t1⟩ (fun hHeld => ?_)
              clear hK K
              refine norm_ (a' := ?_) ?_ ?_
              rotate_left
              · show Act.put _ (some 38) _ = _
                simp only [Act.put, List.setIfInBounds_toArray, List.set_cons_zero, List.set_cons_succ, i64_w, i32_w]
                rfl
              refine done_ (by kernel_rfl) ?_
              go_wp2
              go_roundw
              case measure => first | (simp [intOf]; done) | (simp [intOf]; omega)
              case rel => exact ⟨k + 1, hkk, by go_num, HNO2, H3⟩
          · have hki : k = i := by omega
            subst hki
            have HH := Aside0.mk (hitB_no l k HNO.out)
            have q1 := (HB3.out.cell (World.block_lt_of_cell? w _ HQ1.out)).trans HQ1.out
            have q2 := (HB3.out.cell (World.block_lt_of_cell? w _ HQ2.out)).trans HQ2.out
            by_cases f10 : x.f1 < 0
            · have HF := Aside0.mk (show codeI hn l (fullE l) l.length 0 = 5 from by rw [HN.out, stepI_5 HPP.out HH.out (by rw [← HXX.out]; omega)]; rfl)
              have e1 : decide (x.f1 < 0) = true := decide_eq_true f10
              clear f10
              go_wp2
              go_ret
              exact ⟨by rw [HF.out]; rfl, HB3.out⟩
            · have e1 : decide (x.f1 < 0) = false := decide_eq_false f10
              by_cases f11 : (hn : Int) ≤ x.f1
              · have HF := Aside0.mk (show codeI hn l (fullE l) l.length 0 = 5 from by rw [HN.out, stepI_5 HPP.out HH.out (by rw [← HXX.out]; omega)]; rfl)
                have e2 : decide ((hn : Int) ≤ x.f1) = true := decide_eq_true f11
                clear f10 f11
                go_wp2
                go_ret
                exact ⟨by rw [HF.out]; rfl, HB3.out⟩
              · have e2 : decide ((hn : Int) ≤ x.f1) = false := decide_eq_false f11
                have HIN := Aside0.mk (show 0 ≤ (rd_T42 l (k : Int)).f1 ∧ (rd_T42 l (k : Int)).f1 < (hn : Int) from by rw [← HXX.out]; omega)
                clear f10 f11
                by_cases f20 : x.f2 < 0
                · have HF := Aside0.mk (show codeI hn l (fullE l) l.length 0 = 7 from by rw [HN.out, stepI_7 HPP.out HH.out HIN.out (by rw [← HXX.out]; omega)]; rfl)
                  have e3 : decide (x.f2 < 0) = true := decide_eq_true f20
                  clear f20
                  go_wp2
                  go_ret
                  exact ⟨by rw [HF.out]; rfl, HB3.out⟩
                · have e3 : decide (x.f2 < 0) = false := decide_eq_false f20
                  by_cases f21 : 4 < x.f2
                  · have HF := Aside0.mk (show codeI hn l (fullE l) l.length 0 = 7 from by rw [HN.out, stepI_7 HPP.out HH.out HIN.out (by rw [← HXX.out]; omega)]; rfl)
                    have e4 : decide (4 < x.f2) = true := decide_eq_true f21
                    clear f20 f21
                    go_wp2
                    go_ret
                    exact ⟨by rw [HF.out]; rfl, HB3.out⟩
                  · have e4 : decide (4 < x.f2) = false := decide_eq_false f21
                    have HF := Aside0.mk (show codeI hn l (fullE l) l.length 0 = codeI hn l (fullE l) (l.length - (k + 1)) (k + 1) from by rw [HN.out, stepI_0 HPP.out HH.out HIN.out (by rw [← HXX.out]; omega), if_pos rfl])
                    clear f20 f21
                    go_wp2
                    go_roundw
                    case measure => first | (simp [intOf]; done) | (simp [intOf]; omega)
                    case rel => exact ⟨k + 1, hlt, by go_num, HF, HB3⟩
    · have hie : i = l.length := by omega
      subst hie
      have HI2 := HI.out
      rw [Nat.sub_self, codeI] at HI2
      have HI3 := Aside0.mk HI2
      clear HI2 HI
      have HL := slotsL_le l 0
      by_cases h32 : 32 < (slotsL l 0).length
      · have e1 : decide (32 < ((slotsL l 0).length : Int)) = true := decide_eq_true (by omega)
        rw [show fullE l = 8 from if_pos h32] at HI3
        go_wp2_with (go_at_call 25; with_reducible refine (Slots_calls A1 c1 l _ (Kd.C_below HC.out HB.out) hc (by omega)).mono ?_; rintro e w1 ⟨v, rfl, ho, hb⟩; obtain ⟨A2, c2, rfl⟩ := Kd.R_slice ho; have HB1 := Aside0.mk (below_step HB.out hb); clear ho hb)
        go_ret
        exact ⟨by rw [show fullE l = 8 from if_pos h32, HI3.out]; rfl, HB1.out⟩
      · have e1 : decide (32 < ((slotsL l 0).length : Int)) = false := decide_eq_false (by omega)
        rw [show fullE l = 0 from if_neg h32] at HI3
        go_wp2_with (go_at_call 25; with_reducible refine (Slots_calls A1 c1 l _ (Kd.C_below HC.out HB.out) hc (by omega)).mono ?_; rintro e w1 ⟨v, rfl, ho, hb⟩; obtain ⟨A2, c2, rfl⟩ := Kd.R_slice ho; have HB1 := Aside0.mk (below_step HB.out hb); clear ho hb)
        go_ret
        exact ⟨by rw [show fullE l = 0 from if_neg h32, HI3.out]; rfl, HB1.out⟩
set_option maxHeartbeats 400000 in
set_option maxRecDepth 100000 in
theorem Insts_long (A0 : Option Addr) (c0 hn : Nat) (A1 : Option Addr) (c1 n : Nat) (w : World) (hl : 16 < n) :
    Calls Try.prog 27 #[.slice A0 hn c0, .slice A1 n c1] w fun e w' => e = .returned (.int .i64 2) ∧ Below w.heap.size w w' := by
  have e1 : decide (16 < (n : Int)) = true := decide_eq_true (by omega)
  go_enter Try.func27, Try.ntmps27
  go_wp2
  go_ret
  exact ⟨rfl, Below.refl _ _⟩

end Go.Proofs.Ytpdjiiikfjjfjaa.XI
