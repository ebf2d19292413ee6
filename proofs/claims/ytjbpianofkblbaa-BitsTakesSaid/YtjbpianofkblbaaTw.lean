/- The walk of BitsTakes. -/
import Derived.Test.YtjbpianofkblbaaLemBT
import Derived.Outline
namespace Go.Proofs.Ytjbpianofkblbaa.XT
open Go.RowKit Go.Proofs.YtjbpianofkblbaaW.PrintWords Go.Proofs.YtjbpianofkblbaaW.PrintLast Go.Proofs.YtjbpianofkblbaaW.PrintMore
attribute [local go_sem] max2_int min2_int max_two min_two max_three min_three max_four min_four   -- for this text's walks alone
set_option linter.unusedVariables false
set_option linter.unusedSimpArgs false
theorem OnlyB.keep {g : Nat} {w w' : World} (h : OnlyB g w w') : KeepBut w w' g none := ⟨h.size, fun k hk hne _ => h.block k hk hne⟩
/-- What every round of BitsTakes knows. -/
structure BT (w wl W : World) (g : Nat) (l0 : List Int) (at_ : Nat) : Prop where
  tk : TK W g l0 at_
  keep : KeepBut wl W g none
  below : Below w.heap.size w W
  ge : w.heap.size ≤ g
  lt : g < wl.heap.size
  le : at_ ≤ 8 * l0.length
theorem BT.step {w wl W W1 : World} {g : Nat} {l0 : List Int} {at_ : Nat} (h : BT w wl W g l0 at_) (hb : Below W.heap.size W W1) : BT w wl W1 g l0 at_ :=
  ⟨h.tk.below hb, h.keep.trans (OnlyB.keep (OnlyB.of_below (Nat.le_of_lt h.tk.lt) hb)) (.inl rfl), below_step h.below hb, h.ge, h.lt, h.le⟩
theorem BT.only {w wl W W1 : World} {g : Nat} {l0 : List Int} {at_ at2 : Nat} (h : BT w wl W g l0 at_) (hk : TK W1 g l0 at2) (hb : OnlyB g W W1) (hl : at2 ≤ 8 * l0.length) : BT w wl W1 g l0 at2 :=
  ⟨hk, h.keep.trans hb.keep (.inl rfl), h.below.trans (hb.below.mono h.ge), h.ge, h.lt, hl⟩
theorem BT.far {w wl W : World} {g : Nat} {l0 : List Int} {at_ : Nat} (h : BT w wl W g l0 at_) {p : Addr} (hp : wl.heap.size ≤ p.block) (v : Value) : BT w wl (W.setCell p v) g l0 at_ := by
  have hg := h.lt
  have hge := h.ge
  refine ⟨h.tk.far (by omega) v, ⟨by rw [World.size_setCell]; exact h.keep.1, fun k hk hne hn => ?_⟩, h.below.setCell (by omega) _, h.ge, h.lt, h.le⟩
  rw [Below.heap_setCell _ _ _ _ (by omega)]
  exact h.keep.2 k hk hne hn
theorem VecOf_calls (Al : Option Addr) (cl : Nat) (l0 : List Int) (p q : Nat) (W : World) (hC : Kd.C Kd.bool W Al (bitsL l0).length (bitsL l0)) (hcl : (bitsL l0).length ≤ cl) (h : p + q ≤ 8 * l0.length) (h1 : 1 ≤ q) (hq : q ≤ 128) :
    Calls Try.prog 39 #[.slice (Option.map (fun x => x.add p) Al) q (cl - p)] W fun e w' => e = .returned (.agg #[.int .i64 q, .int .u64 (hiW (seen l0 p q)), .int .u64 (loW (seen l0 p q))]) ∧ Below W.heap.size W w' := by
  have hbl := bitsL_length l0
  have hC2 := Kd.C_mid (lo := p) (hi := p + q) hC (by omega) (by omega) hcl
  rw [if_neg (by omega), show (fun x : Addr => x.add (p * Kd.bool.sz)) = (fun x => x.add p) from by funext x; show x.add (p * 1) = _; rw [Nat.mul_one]] at hC2
  have hlen : (((bitsL l0).take (p + q)).drop p).length = q := by simp; omega
  have hcalls := shunterref03_Vec.calls 200 _ (cl - p) _ _ _ _ _ hC2 (by omega) (ref03_Vec_seen l0 p q h hq)
  rw [hlen] at hcalls
  exact hcalls
def opOk (x : S57) : Prop := (-9223372036854775808 ≤ x.f1 ∧ x.f1 ≤ 9223372036854775807) ∧ (-9223372036854775808 ≤ x.f2.f0 ∧ x.f2.f0 ≤ 9223372036854775807)
theorem zero_of_add_le {p n : Nat} (h : p + n ≤ p) : n = 0 := by omega
theorem bytes_facts (at_ n L c0 : Nat) (h1 : at_ ≤ 8 * L) (h200 : L ≤ 200) (hn : n ≤ (8 * L - at_) / 8) (hc : L ≤ c0) :
    wrap64 ((at_ : Int) / 8) = ((at_ / 8 : Nat) : Int) ∧ wrap64 ((at_ / 8 : Nat) : Int) = ((at_ / 8 : Nat) : Int) ∧ wrap64 (((at_ / 8 : Nat) : Int) + n) = ((at_ / 8 : Nat) : Int) + n ∧ at_ / 8 + n ≤ c0 ∧ ((at_ / 8 : Nat) : Int) + n ≤ (c0 : Int) ∧ 0 ≤ ((at_ / 8 : Nat) : Int) + n ∧ ((at_ / 8 : Nat) : Int) ≤ ((at_ / 8 : Nat) : Int) + n ∧ (((at_ / 8 : Nat) : Int) + n).toNat = at_ / 8 + n ∧ IntKind.i64.wrap (8 * (n : Int)) = 8 * (n : Int) ∧ IntKind.i64.wrap ((at_ : Int) + 8 * (n : Int)) = (at_ : Int) + 8 * (n : Int) := by
  have h : at_ / 8 + n ≤ L := by omega
  have e : (at_ : Int) / 8 = ((at_ / 8 : Nat) : Int) := by omega
  refine ⟨by rw [e]; exact wrap64_id _ (by omega) (by omega), wrap64_id _ (by omega) (by omega), wrap64_id _ (by omega) (by omega), by omega, by omega, by omega, by omega, by omega, IntWalk.i64_in _ (by omega), IntWalk.i64_in _ (by omega)⟩
theorem lives03 : shunterlaw03_lives.f = some true := by decide
set_option maxHeartbeats 8000000 in
set_option maxRecDepth 100000 in
theorem BitsTakes_walk (A0 : Option Addr) (c0 : Nat) (l0 : List Int) (A1 : Option Addr) (c1 : Nat) (ops : List S57) (w : World) (hr0 : Kd.C (Kd.int .u8) w A0 l0.length l0) (hc0 : l0.length ≤ c0) (hr1 : Kd.C k57 w A1 ops.length ops) (hc1 : ops.length ≤ c1) (hok : okBytes l0) (hops : ∀ x ∈ ops, opOk x) (h200 : l0.length ≤ 200) (h30 : ops.length ≤ 30) :
    Calls Try.prog 8 #[.slice A0 l0.length c0, .slice A1 ops.length c1] w fun e w' => e = .returned (.bool true) ∧ Below w.heap.size w w' := by
  have HR0 := Aside0.mk hr0
  have HR1 := Aside0.mk hr1
  have HOPS := Aside0.mk hops
  have HBL := Aside0.mk (show shunterref03_Bits.f l0 = some (bitsL l0) from if_pos hok)
  clear hr0 hr1 hops
  have hbl : (bitsL l0).length = 8 * l0.length := bitsL_length l0
  go_enter Try.func8, Try.ntmps8
  go_wp2_with (first | (go_at_call 35; refine (Take_calls A0 c0 l0 _ HR0.out hc0 (by omega)).mono ?_; rintro e w1 ⟨g, rfl, htk, hb, hg⟩; have HT := Aside0.mk htk; have HB1 := Aside0.mk hb; have HG := Aside0.mk hg; clear htk hb hg) | (go_at_call 36; refine (shunterref03_Bits.calls _ _ _ _ _ (Kd.C_below HR0.out HB1.out) hc0 HBL.out).mono ?_; rintro e w2 ⟨v0, rfl, ho, hb⟩; obtain ⟨Al, cl, rfl, hcl, _⟩ := Kd.R_reads ho; have HO := Aside0.mk ho; have HB2 := Aside0.mk hb; clear ho hb))
  have HLT := Aside0.mk (HT.out.below HB2.out).lt
  have HAL := Aside0.mk (Kd.C_foot_own (g := g) (Kd.R_bound HO.out) (fun k hk => by have := HT.out.lt; have := hk.2.1; omega))
  have HLL := Aside0.mk (show g < w2.heap.size from (HT.out.below HB2.out).lt)
  go_loopw [7, 8] (fun u7 u8 w' => ∃ (i at_ : Nat), i ≤ ops.length ∧ u7 = .int .i64 at_ ∧ u8 = .int .i64 i ∧ Aside0 (BT w w2 w' g l0 at_)) (fun _ u8 _ => ops.length - (intOf u8).toNat)
  case atStart => exact ⟨0, 0, Nat.zero_le _, rfl, rfl, ⟨⟨HT.out.below HB2.out, KeepBut.refl _ _ _, below_step HB1.out HB2.out, HG.out, HLL.out, Nat.zero_le _⟩⟩⟩
  case round =>
    obtain ⟨i, at_, hi, rfl, rfl, HBT⟩ := hrel
    by_cases hlt : i < ops.length
    · obtain ⟨ad, A5, c5, hA, q0, q1, q2, q3, q4, q5, hl5, hC5⟩ := at_T57 (Kd.C_below HR1.out HBT.out.below) (i : Int) (by omega) (by omega)
      subst hA
      rw [Int.toNat_natCast] at q0 q1 q2 q3 q4 q5
      have hx := HOPS.out (rd_T57 ops i) (by unfold rd_T57; simp [List.getD, hlt])
      generalize rd_T57 ops (i : Int) = x at *
      have HC5 := Aside0.mk hC5
      have HX := Aside0.mk hx
      clear hC5 hx
      by_cases k1 : x.f0 = 1
      · have kk1 : (x.f0 == 1) = true := by simp [k1]
        have HATL := Aside0.mk (fun (W : World) (at2 : Nat) (h : BT w w2 W g l0 at2) => And.intro (At_calls W g l0 at2 h.tk) (Left_calls W g l0 at2 h.tk (by omega) (by have := h.le; omega)))
        have hle := HBT.out.le
        have hl1 : IntKind.i64.wrap (((bitsL l0).length : Int) - (at_ : Int)) = 8 * (l0.length : Int) - at_ := by rw [IntWalk.i64_in _ (by omega)]; omega
        have em : Int.tmod (at_ : Int) 8 = ((at_ % 8 : Nat) : Int) := rfl
        have ed := tdiv_left l0.length at_ hle
        by_cases h8 : at_ % 8 = 0
        · have em2 : Int.tmod (at_ : Int) 8 = 0 := by rw [em, h8]; rfl
          clear em
          by_cases hn : x.f3.length ≤ (8 * l0.length - at_) / 8
          · have HV := Aside0.mk (fun (W : World) (hT : BT w w2 W g l0 at_) => Bytes_ok g l0 at_ x.f3.length W hT.tk (by omega) hle h8 hn)
            have hn2 : ¬ (8 * l0.length - at_) / 8 < x.f3.length := by omega
            have hn3 : x.f3.length < 201 := by omega
            have hlen : ((l0.take (at_ / 8 + x.f3.length)).drop (at_ / 8)).length = x.f3.length := by simp; omega
            generalize x.f3.length = n at *
            go_wp2_with (go_at_call 37; refine (HV.out _ (HBT.out.step (below_alloc (Below.refl _ _) _))).mono ?_; rintro e w3 ⟨v, rfl, ho, hk3, hb3⟩; have H3 := Aside0.mk ((HBT.out.step (below_alloc (Below.refl _ _) _)).only hk3 hb3 (by omega)); obtain ⟨Av, cv, rfl, hcv, hCv⟩ := Kd.R_reads ho; rw [hlen]; rw [hlen] at hCv hcv; have HCV := Aside0.mk hCv; clear hk3 hb3 hCv ho)
            have hf : at_ / 8 + n ≤ l0.length := by omega
            have hCb := Kd.C_mid (lo := at_ / 8) (hi := at_ / 8 + n) (Kd.C_below HR0.out H3.out.below) (by omega) hf hc0
            rw [show (fun x : Addr => x.add (at_ / 8 * (Kd.int .u8).sz)) = (fun x => x.add (at_ / 8)) from by funext x; show x.add (at_ / 8 * 1) = _; rw [Nat.mul_one], hlen] at hCb
            generalize (List.drop (at_ / 8) (List.take (at_ / 8 + n) l0)) = xs at *
            obtain ⟨ew, ex0, ex, hpc, hpc1, hpc2, hpc3, hpc4, e8, e9⟩ := bytes_facts at_ n l0.length c0 hle h200 hn hc0
            clear hf hn hn2 ed hlen em2
            generalize at_ / 8 = p at *
            have SC := Aside0.mk (fun m => Kd.C_string (P := Try.prog) (src := 22) (dst := 9) (c := cv) Try.underlying22 Try.underlying5 Try.underlying9 (Kd.C_below HCV.out (pw_below_drewN (Below.refl _ _) m)))
            have SB := Aside0.mk (fun c1 m => Kd.C_string (P := Try.prog) (src := 22) (dst := 9) (c := c1) Try.underlying22 Try.underlying5 Try.underlying9 (Kd.C_below hCb (pw_below_drewN (Below.refl _ _) m)))
            clear hCb
            by_cases hcl : c0 = p
            · as_aux_lemma =>
                rw [if_pos hcl] at SB
                obtain rfl : n = 0 := zero_of_add_le (p := p) (hcl ▸ hpc)
                clear hpc hpc1 hpc2 hpc3 hpc4 ex e8 e9
                subst hcl
                refine start_ (n := 16) (S := fun w' => (convert 22 9 (.slice Av 0 cv)).run Try.prog w' = .ok (.string (strOfNums xs)) w' ∧ (convert 22 9 (.slice A0 0 0)).run Try.prog w' = .ok (.string (strOfNums xs)) w') (ds := []) #[false, false, false, false, false, false, false, false, false, false, false, false, false, false, false, false] (by kernel_rfl) rfl rfl ⟨SC.out 1, SB.out 0 1⟩ (fun hHeld => ?_)
                refine pure_ (i := 0) (N := some 123) (v := ?_) (a' := ?_) #[true, false, false, false, false, false, false, false, false, false, false, false, false, false, false, false] rfl rfl (by kernel_rfl) (fun _ _ _ h => h) (Or.inl ⟨by rfl, ?_⟩) ?_ ?_
                rotate_left
                · intro w'
                  go_simp
                  with_reducible rfl
                rotate_left
                · simp only [Act.put, List.setIfInBounds_toArray, List.set_cons_zero, List.set_cons_succ, i64_w, i32_w]
                  rfl
                refine pure_ (i := 2) (N := some 125) (v := ?_) (a' := ?_) #[true, false, true, false, false, false, false, false, false, false, false, false, false, false, false, false] rfl rfl (by kernel_rfl) (fun _ _ _ h => h) (Or.inl ⟨by rfl, ?_⟩) ?_ ?_
                rotate_left
                · intro w'
                  go_simp
                  with_reducible rfl
                rotate_left
                · simp only [Act.put, List.setIfInBounds_toArray, List.set_cons_zero, List.set_cons_succ, i64_w, i32_w]
                  rfl
                refine pure_ (i := 3) (N := some 126) (v := ?_) (a' := ?_) #[true, false, true, true, false, false, false, false, false, false, false, false, false, false, false, false] rfl rfl (by kernel_rfl) (fun _ _ _ h => h) (Or.inl ⟨by rfl, ?_⟩) ?_ ?_
                rotate_left
                · intro w'
                  go_simp
                  with_reducible rfl
                rotate_left
                · simp only [Act.put, List.setIfInBounds_toArray, List.set_cons_zero, List.set_cons_succ, i64_w, i32_w]
                  rfl
                refine pure_ (i := 4) (N := some 127) (v := ?_) (a' := ?_) #[true, false, true, true, true, false, false, false, false, false, false, false, false, false, false, false] rfl rfl (by kernel_rfl) (fun _ _ _ h => h) (Or.inl ⟨by rfl, ?_⟩) ?_ ?_
                rotate_left
                · intro w'
                  go_simp
                  with_reducible rfl
                rotate_left
                · simp only [Act.put, List.setIfInBounds_toArray, List.set_cons_zero, List.set_cons_succ, i64_w, i32_w]
                  rfl
                refine pure_ (i := 5) (N := some 128) (v := ?_) (a' := ?_) #[true, false, true, true, true, true, false, false, false, false, false, false, false, false, false, false] rfl rfl (by kernel_rfl) (fun _ _ _ h => h) (Or.inl ⟨by rfl, ?_⟩) ?_ ?_
                rotate_left
                · intro w'
                  go_simp
                  with_reducible rfl
                rotate_left
                · simp only [Act.put, List.setIfInBounds_toArray, List.set_cons_zero, List.set_cons_succ, i64_w, i32_w]
                  rfl
                refine pure_ (i := 6) (N := some 129) (v := ?_) (a' := ?_) #[true, false, true, true, true, true, true, false, false, false, false, false, false, false, false, false] rfl rfl (by kernel_rfl) (fun _ _ _ h => h) (Or.inl ⟨by rfl, ?_⟩) ?_ ?_
                rotate_left
                · intro w'
                  go_simp
                  with_reducible rfl
                rotate_left
                · simp only [Act.put, List.setIfInBounds_toArray, List.set_cons_zero, List.set_cons_succ, i64_w, i32_w]
                  rfl
                refine pure_ (i := 7) (N := some 130) (v := ?_) (a' := ?_) #[true, false, true, true, true, true, true, true, false, false, false, false, false, false, false, false] rfl rfl (by kernel_rfl) (fun _ _ _ h => h) (Or.inl ⟨by rfl, ?_⟩) ?_ ?_
                rotate_left
                · intro w'
                  go_simp
                  with_reducible rfl
                rotate_left
                · simp only [Act.put, List.setIfInBounds_toArray, List.set_cons_zero, List.set_cons_succ, i64_w, i32_w]
                  rfl
                refine pure_ (i := 8) (N := some 131) (v := ?_) (a' := ?_) #[true, false, true, true, true, true, true, true, true, false, false, false, false, false, false, false] rfl rfl (by kernel_rfl) (fun _ _ _ h => h) (Or.inl ⟨by rfl, ?_⟩) ?_ ?_
                rotate_left
                · intro w'
                  go_simp
                  with_reducible rfl
                rotate_left
                · simp only [Act.put, List.setIfInBounds_toArray, List.set_cons_zero, List.set_cons_succ, i64_w, i32_w]
                  rfl
                refine pure_ (i := 9) (N := some 132) (v := ?_) (a' := ?_) #[true, false, true, true, true, true, true, true, true, true, false, false, false, false, false, false] rfl rfl (by kernel_rfl) (fun _ _ _ h => h) (Or.inl ⟨by rfl, ?_⟩) ?_ ?_
                rotate_left
                · intro w'
                  go_simp
                  with_reducible rfl
                rotate_left
                · simp only [Act.put, List.setIfInBounds_toArray, List.set_cons_zero, List.set_cons_succ, i64_w, i32_w]
                  rfl
                refine take_ (i := 1) (N := some 124) (v := ?_) (a' := ?_) #[true, true, true, true, true, true, true, true, true, true, false, false, false, false, false, false] rfl rfl (by kernel_rfl) (fun _ _ _ h => h) (Or.inl ⟨by rfl, ?_⟩) hHeld ?_ ?_
                rotate_left
                · rintro w' ⟨s0, s1⟩
                  go_simp
                  with_reducible rfl
                rotate_left
                · simp only [Act.put, List.setIfInBounds_toArray, List.set_cons_zero, List.set_cons_succ, i64_w, i32_w]
                  rfl
                refine take_ (i := 10) (N := some 133) (v := ?_) (a' := ?_) #[true, true, true, true, true, true, true, true, true, true, true, false, false, false, false, false] rfl rfl (by kernel_rfl) (fun _ _ _ h => h) (Or.inl ⟨by rfl, ?_⟩) hHeld ?_ ?_
                rotate_left
                · rintro w' ⟨s0, s1⟩
                  go_simp
                  with_reducible rfl
                rotate_left
                · simp only [Act.put, List.setIfInBounds_toArray, List.set_cons_zero, List.set_cons_succ, i64_w, i32_w]
                  rfl
                refine pure_ (i := 11) (N := some 134) (v := ?_) (a' := ?_) #[true, true, true, true, true, true, true, true, true, true, true, true, false, false, false, false] rfl rfl (by kernel_rfl) (fun _ _ _ h => h) (Or.inl ⟨by rfl, ?_⟩) ?_ ?_
                rotate_left
                · intro w'
                  go_simp
                  with_reducible rfl
                rotate_left
                · simp only [Act.put, List.setIfInBounds_toArray, List.set_cons_zero, List.set_cons_succ, i64_w, i32_w]
                  rfl
                refine pure_ (i := 12) (N := some 135) (v := ?_) (a' := ?_) #[true, true, true, true, true, true, true, true, true, true, true, true, true, false, false, false] rfl rfl (by kernel_rfl) (fun _ _ _ h => h) (Or.inl ⟨by rfl, ?_⟩) ?_ ?_
                rotate_left
                · intro w'
                  go_simp
                  with_reducible rfl
                rotate_left
                · simp only [Act.put, List.setIfInBounds_toArray, List.set_cons_zero, List.set_cons_succ, i64_w, i32_w]
                  rfl
                refine pure_ (i := 13) (N := some 136) (v := ?_) (a' := ?_) #[true, true, true, true, true, true, true, true, true, true, true, true, true, true, false, false] rfl rfl (by kernel_rfl) (fun _ _ _ h => h) (Or.inl ⟨by rfl, ?_⟩) ?_ ?_
                rotate_left
                · intro w'
                  go_simp
                  with_reducible rfl
                rotate_left
                · simp only [Act.put, List.setIfInBounds_toArray, List.set_cons_zero, List.set_cons_succ, i64_w, i32_w]
                  rfl
                refine pure_ (i := 14) (N := some 137) (v := ?_) (a' := ?_) #[true, true, true, true, true, true, true, true, true, true, true, true, true, true, true, false] rfl rfl (by kernel_rfl) (fun _ _ _ h => h) (Or.inl ⟨by rfl, ?_⟩) ?_ ?_
                rotate_left
                · intro w'
                  go_simp
                  with_reducible rfl
                rotate_left
                · simp only [Act.put, List.setIfInBounds_toArray, List.set_cons_zero, List.set_cons_succ, i64_w, i32_w]
                  rfl
                refine pure_ (i := 15) (N := some 138) (v := ?_) (a' := ?_) #[true, true, true, true, true, true, true, true, true, true, true, true, true, true, true, true] rfl rfl (by kernel_rfl) (fun _ _ _ h => h) (Or.inl ⟨by rfl, ?_⟩) ?_ ?_
                rotate_left
                · intro w'
                  go_simp
                  with_reducible rfl
                rotate_left
                · simp only [Act.put, List.setIfInBounds_toArray, List.set_cons_zero, List.set_cons_succ, i64_w, i32_w]
                  rfl
                refine done_ (by kernel_rfl) ?_
                go_wp2_with (first | (go_at_call 41; refine ((HATL.out _ _ (H3.out.step (pw_below_drewN (Below.refl _ _) 1))).1).mono ?_; rintro e w4 ⟨rfl, ⟨n4, rfl⟩⟩) | (go_at_call 42; refine ((HATL.out _ _ (H3.out.step (pw_below_drewN (Below.refl _ _) _))).2).mono ?_; rintro e w5 ⟨rfl, ⟨n5, rfl⟩⟩))
                all_goals go_roundw
                all_goals first
                  | (case measure => simp [intOf]; omega)
                  | (case rel => exact ⟨i + 1, at_ + 8 * 0, hlt, by go_num, by go_num, ⟨H3.out.step (pw_below_drewN (Below.refl _ _) _)⟩⟩)
            · as_aux_lemma =>
                rw [if_neg hcl] at SB
                refine start_ (n := 16) (S := fun w' => (convert 22 9 (.slice Av n cv)).run Try.prog w' = .ok (.string (strOfNums xs)) w' ∧ (convert 22 9 (.slice (Option.map (fun x => x.add p) A0) n (c0 - p))).run Try.prog w' = .ok (.string (strOfNums xs)) w') (ds := []) #[false, false, false, false, false, false, false, false, false, false, false, false, false, false, false, false] (by kernel_rfl) rfl rfl ⟨SC.out 1, SB.out (c0 - p) 1⟩ (fun hHeld => ?_)
                refine pure_ (i := 0) (N := some 123) (v := ?_) (a' := ?_) #[true, false, false, false, false, false, false, false, false, false, false, false, false, false, false, false] rfl rfl (by kernel_rfl) (fun _ _ _ h => h) (Or.inl ⟨by rfl, ?_⟩) ?_ ?_
                rotate_left
                · intro w'
                  go_simp
                  with_reducible rfl
                rotate_left
                · simp only [Act.put, List.setIfInBounds_toArray, List.set_cons_zero, List.set_cons_succ, i64_w, i32_w]
                  rfl
                refine pure_ (i := 2) (N := some 125) (v := ?_) (a' := ?_) #[true, false, true, false, false, false, false, false, false, false, false, false, false, false, false, false] rfl rfl (by kernel_rfl) (fun _ _ _ h => h) (Or.inl ⟨by rfl, ?_⟩) ?_ ?_
                rotate_left
                · intro w'
                  go_simp
                  with_reducible rfl
                rotate_left
                · simp only [Act.put, List.setIfInBounds_toArray, List.set_cons_zero, List.set_cons_succ, i64_w, i32_w]
                  rfl
                refine pure_ (i := 3) (N := some 126) (v := ?_) (a' := ?_) #[true, false, true, true, false, false, false, false, false, false, false, false, false, false, false, false] rfl rfl (by kernel_rfl) (fun _ _ _ h => h) (Or.inl ⟨by rfl, ?_⟩) ?_ ?_
                rotate_left
                · intro w'
                  go_simp
                  with_reducible rfl
                rotate_left
                · simp only [Act.put, List.setIfInBounds_toArray, List.set_cons_zero, List.set_cons_succ, i64_w, i32_w]
                  rfl
                refine pure_ (i := 4) (N := some 127) (v := ?_) (a' := ?_) #[true, false, true, true, true, false, false, false, false, false, false, false, false, false, false, false] rfl rfl (by kernel_rfl) (fun _ _ _ h => h) (Or.inl ⟨by rfl, ?_⟩) ?_ ?_
                rotate_left
                · intro w'
                  go_simp
                  with_reducible rfl
                rotate_left
                · simp only [Act.put, List.setIfInBounds_toArray, List.set_cons_zero, List.set_cons_succ, i64_w, i32_w]
                  rfl
                refine pure_ (i := 5) (N := some 128) (v := ?_) (a' := ?_) #[true, false, true, true, true, true, false, false, false, false, false, false, false, false, false, false] rfl rfl (by kernel_rfl) (fun _ _ _ h => h) (Or.inl ⟨by rfl, ?_⟩) ?_ ?_
                rotate_left
                · intro w'
                  go_simp
                  with_reducible rfl
                rotate_left
                · simp only [Act.put, List.setIfInBounds_toArray, List.set_cons_zero, List.set_cons_succ, i64_w, i32_w]
                  rfl
                refine pure_ (i := 6) (N := some 129) (v := ?_) (a' := ?_) #[true, false, true, true, true, true, true, false, false, false, false, false, false, false, false, false] rfl rfl (by kernel_rfl) (fun _ _ _ h => h) (Or.inl ⟨by rfl, ?_⟩) ?_ ?_
                rotate_left
                · intro w'
                  go_simp
                  with_reducible rfl
                rotate_left
                · simp only [Act.put, List.setIfInBounds_toArray, List.set_cons_zero, List.set_cons_succ, i64_w, i32_w]
                  rfl
                refine pure_ (i := 7) (N := some 130) (v := ?_) (a' := ?_) #[true, false, true, true, true, true, true, true, false, false, false, false, false, false, false, false] rfl rfl (by kernel_rfl) (fun _ _ _ h => h) (Or.inl ⟨by rfl, ?_⟩) ?_ ?_
                rotate_left
                · intro w'
                  go_simp
                  with_reducible rfl
                rotate_left
                · simp only [Act.put, List.setIfInBounds_toArray, List.set_cons_zero, List.set_cons_succ, i64_w, i32_w]
                  rfl
                refine pure_ (i := 8) (N := some 131) (v := ?_) (a' := ?_) #[true, false, true, true, true, true, true, true, true, false, false, false, false, false, false, false] rfl rfl (by kernel_rfl) (fun _ _ _ h => h) (Or.inl ⟨by rfl, ?_⟩) ?_ ?_
                rotate_left
                · intro w'
                  go_simp
                  with_reducible rfl
                rotate_left
                · simp only [Act.put, List.setIfInBounds_toArray, List.set_cons_zero, List.set_cons_succ, i64_w, i32_w]
                  rfl
                refine pure_ (i := 9) (N := some 132) (v := ?_) (a' := ?_) #[true, false, true, true, true, true, true, true, true, true, false, false, false, false, false, false] rfl rfl (by kernel_rfl) (fun _ _ _ h => h) (Or.inl ⟨by rfl, ?_⟩) ?_ ?_
                rotate_left
                · intro w'
                  go_simp
                  with_reducible rfl
                rotate_left
                · simp only [Act.put, List.setIfInBounds_toArray, List.set_cons_zero, List.set_cons_succ, i64_w, i32_w]
                  rfl
                refine take_ (i := 1) (N := some 124) (v := ?_) (a' := ?_) #[true, true, true, true, true, true, true, true, true, true, false, false, false, false, false, false] rfl rfl (by kernel_rfl) (fun _ _ _ h => h) (Or.inl ⟨by rfl, ?_⟩) hHeld ?_ ?_
                rotate_left
                · rintro w' ⟨s0, s1⟩
                  go_simp
                  with_reducible rfl
                rotate_left
                · simp only [Act.put, List.setIfInBounds_toArray, List.set_cons_zero, List.set_cons_succ, i64_w, i32_w]
                  rfl
                refine take_ (i := 10) (N := some 133) (v := ?_) (a' := ?_) #[true, true, true, true, true, true, true, true, true, true, true, false, false, false, false, false] rfl rfl (by kernel_rfl) (fun _ _ _ h => h) (Or.inl ⟨by rfl, ?_⟩) hHeld ?_ ?_
                rotate_left
                · rintro w' ⟨s0, s1⟩
                  go_simp
                  with_reducible rfl
                rotate_left
                · simp only [Act.put, List.setIfInBounds_toArray, List.set_cons_zero, List.set_cons_succ, i64_w, i32_w]
                  rfl
                refine pure_ (i := 11) (N := some 134) (v := ?_) (a' := ?_) #[true, true, true, true, true, true, true, true, true, true, true, true, false, false, false, false] rfl rfl (by kernel_rfl) (fun _ _ _ h => h) (Or.inl ⟨by rfl, ?_⟩) ?_ ?_
                rotate_left
                · intro w'
                  go_simp
                  with_reducible rfl
                rotate_left
                · simp only [Act.put, List.setIfInBounds_toArray, List.set_cons_zero, List.set_cons_succ, i64_w, i32_w]
                  rfl
                refine pure_ (i := 12) (N := some 135) (v := ?_) (a' := ?_) #[true, true, true, true, true, true, true, true, true, true, true, true, true, false, false, false] rfl rfl (by kernel_rfl) (fun _ _ _ h => h) (Or.inl ⟨by rfl, ?_⟩) ?_ ?_
                rotate_left
                · intro w'
                  go_simp
                  with_reducible rfl
                rotate_left
                · simp only [Act.put, List.setIfInBounds_toArray, List.set_cons_zero, List.set_cons_succ, i64_w, i32_w]
                  rfl
                refine pure_ (i := 13) (N := some 136) (v := ?_) (a' := ?_) #[true, true, true, true, true, true, true, true, true, true, true, true, true, true, false, false] rfl rfl (by kernel_rfl) (fun _ _ _ h => h) (Or.inl ⟨by rfl, ?_⟩) ?_ ?_
                rotate_left
                · intro w'
                  go_simp
                  with_reducible rfl
                rotate_left
                · simp only [Act.put, List.setIfInBounds_toArray, List.set_cons_zero, List.set_cons_succ, i64_w, i32_w]
                  rfl
                refine pure_ (i := 14) (N := some 137) (v := ?_) (a' := ?_) #[true, true, true, true, true, true, true, true, true, true, true, true, true, true, true, false] rfl rfl (by kernel_rfl) (fun _ _ _ h => h) (Or.inl ⟨by rfl, ?_⟩) ?_ ?_
                rotate_left
                · intro w'
                  go_simp
                  with_reducible rfl
                rotate_left
                · simp only [Act.put, List.setIfInBounds_toArray, List.set_cons_zero, List.set_cons_succ, i64_w, i32_w]
                  rfl
                refine pure_ (i := 15) (N := some 138) (v := ?_) (a' := ?_) #[true, true, true, true, true, true, true, true, true, true, true, true, true, true, true, true] rfl rfl (by kernel_rfl) (fun _ _ _ h => h) (Or.inl ⟨by rfl, ?_⟩) ?_ ?_
                rotate_left
                · intro w'
                  go_simp
                  with_reducible rfl
                rotate_left
                · simp only [Act.put, List.setIfInBounds_toArray, List.set_cons_zero, List.set_cons_succ, i64_w, i32_w]
                  rfl
                refine done_ (by kernel_rfl) ?_
                clear hpc hpc1 hpc2 hpc3 hpc4 ex ex0 ew hcl SB SC
                go_wp2_with (first | (go_at_call 41; refine ((HATL.out _ _ (H3.out.step (pw_below_drewN (Below.refl _ _) 1))).1).mono ?_; rintro e w4 ⟨rfl, ⟨n4, rfl⟩⟩) | (go_at_call 42; refine ((HATL.out _ _ (H3.out.step (pw_below_drewN (Below.refl _ _) _))).2).mono ?_; rintro e w5 ⟨rfl, ⟨n5, rfl⟩⟩))
                all_goals go_roundw
                all_goals first
                  | (case measure => simp [intOf]; omega)
                  | (case rel => exact ⟨i + 1, at_ + 8 * n, hlt, by go_num, by go_num, ⟨H3.out.step (pw_below_drewN (Below.refl _ _) _)⟩⟩)
          · as_aux_lemma =>
              have HV := Aside0.mk (fun (W : World) (hT : BT w w2 W g l0 at_) => Bytes_end g l0 at_ x.f3.length W hT.tk (by omega) hle h8 (by omega))
              have hn2 : (8 * l0.length - at_) / 8 < x.f3.length := by omega
              go_wp2_with (go_at_call 37; refine (HV.out _ (HBT.out.step (below_alloc (Below.refl _ _) _))).mono ?_; rintro e w3 ⟨rfl, hb⟩; have H3 := Aside0.mk (fun m => ((HBT.out.step (below_step (below_alloc (Below.refl _ _) _) hb)).step (pw_below_drewN (Below.refl _ _) m))); clear hb)
              all_goals go_roundw
              all_goals first
                | (case measure => simp [intOf]; omega)
                | (case rel => exact ⟨i + 1, at_, hlt, rfl, by go_num, ⟨H3.out 0⟩⟩)
        · as_aux_lemma =>
            have HV := Aside0.mk (fun (W : World) (hT : BT w w2 W g l0 at_) => Bytes_state g l0 at_ x.f3.length W hT.tk h8 (by omega))
            have em2 : (((at_ % 8 : Nat) : Int) != 0) = true := by simp; omega
            go_wp2_with (go_at_call 37; refine (HV.out _ (HBT.out.step (below_alloc (Below.refl _ _) _))).mono ?_; rintro e w3 ⟨rfl, hb⟩; have H3 := Aside0.mk (fun m => ((HBT.out.step (below_step (below_alloc (Below.refl _ _) _) hb)).step (pw_below_drewN (Below.refl _ _) m))); clear hb)
            all_goals go_roundw
            all_goals first
              | (case measure => simp [intOf]; omega)
              | (case rel => exact ⟨i + 1, at_, hlt, rfl, by go_num, ⟨H3.out 0⟩⟩)
      · by_cases k2 : x.f0 = 2
        · have kk1 : (x.f0 == 1) = false := by simp [k1]
          have kk2 : (x.f0 == 2) = true := by simp [k2]
          have HATL := Aside0.mk (fun (W : World) (at2 : Nat) (h : BT w w2 W g l0 at2) => And.intro (At_calls W g l0 at2 h.tk) (Left_calls W g l0 at2 h.tk (by omega) (by have := h.le; omega)))
          have hle := HBT.out.le
          by_cases hw : 1 ≤ x.f2.f0 ∧ x.f2.f0 ≤ 128
          · have hw1 : (decide (x.f2.f0 < 1) || decide (128 < x.f2.f0)) = false := by simp; omega
            have hw2 : ¬ x.f2.f0 < 1 := by omega
            have hl1 : IntKind.i64.wrap (((bitsL l0).length : Int) - (at_ : Int)) = 8 * (l0.length : Int) - at_ := by rw [IntWalk.i64_in _ (by omega)]; omega
            by_cases hn0 : x.f1 < 0
            · as_aux_lemma =>
                have HV := Aside0.mk (fun (W : World) (hT : BT w w2 W g l0 at_) => Look_range g x.f1 x.f2.f0 W hw hn0)
                go_wp2_with (first | (go_at_call 38; refine (HV.out _ (HBT.out.step (below_alloc (Below.refl _ _) _))).mono ?_; rintro e w3 ⟨rfl, hb⟩; have H3 := Aside0.mk (fun o1 o2 m => (((HBT.out.step (below_step (below_alloc (Below.refl _ _) _) hb)).step (below_alloc (below_alloc (Below.refl _ _) o1) o2)).step (pw_below_drewN (Below.refl _ _) m))); have O3 := blk_below (blk_new wr _) hb; have os : wr.heap.size < w3.heap.size := blk_lt O3; have o1 := blk_cell O3 1; simp only [List.getElem?_toArray, List.getElem?_cons_succ, List.getElem?_cons_zero] at o1; clear hb O3) | (go_at_call 41; refine ((HATL.out _ _ (H3.out _ _ 0)).1).mono ?_; rintro e w4 ⟨rfl, ⟨n4, rfl⟩⟩) | (go_at_call 42; refine ((HATL.out _ _ (H3.out _ _ _)).2).mono ?_; rintro e w5 ⟨rfl, ⟨n5, rfl⟩⟩))
                all_goals go_roundw
                all_goals first
                  | (case measure => simp [intOf]; omega)
                  | (case rel => exact ⟨i + 1, at_, hlt, rfl, by go_num, ⟨H3.out _ _ _⟩⟩)
            · by_cases hnl : x.f1 ≤ 8 * (l0.length : Int) - at_
              · by_cases hwl : x.f2.f0 ≤ 8 * (l0.length : Int) - at_ - x.f1
                · as_aux_lemma =>
                    obtain ⟨q, hq⟩ : ∃ q : Nat, x.f2.f0 = q := ⟨x.f2.f0.toNat, by omega⟩
                    obtain ⟨a, ha⟩ : ∃ a : Nat, x.f1 = a := ⟨x.f1.toNat, by omega⟩
                    obtain ⟨p, hp⟩ : ∃ p : Nat, p = at_ + a := ⟨_, rfl⟩
                    have HV := Aside0.mk (fun (W : World) (hT : BT w w2 W g l0 at_) => Look_ok g l0 at_ a q W hT.tk hok (by omega) (by omega) (by omega) (by omega))
                    rw [← hp] at HV
                    have hl3 : IntKind.i64.wrap (8 * (l0.length : Int) - (at_ : Int) - (a : Int)) = 8 * (l0.length : Int) - at_ - a := IntWalk.i64_in _ (by omega)
                    have hl4 : (q : Int) ≤ 8 * (l0.length : Int) - at_ - a := by omega
                    have hl5 : (a : Int) ≤ 8 * (l0.length : Int) - at_ := by omega
                    have ea : IntKind.i64.wrap ((at_ : Int) + a) = (p : Int) := by rw [IntWalk.i64_in _ (by omega)]; omega
                    have eb : IntKind.i64.wrap ((p : Int) + q) = (p : Int) + q := IntWalk.i64_in _ (by omega)
                    rw [hq] at hw1 hw2 q2
                    rw [ha] at q1 hnl hn0
                    have hpq : p + q ≤ 8 * l0.length := by omega
                    clear hp
                    go_wp2_with (first | (go_at_call 38; refine (HV.out _ (HBT.out.step (below_alloc (Below.refl _ _) _))).mono ?_; rintro e w3 ⟨rfl, hb⟩; have H3 := Aside0.mk ((HBT.out.step (below_alloc (Below.refl _ _) _)).step hb); have O3 := blk_below (blk_new wr _) hb; have os : wr.heap.size < w3.heap.size := blk_lt O3; have o1 := blk_cell O3 1; simp only [List.getElem?_toArray, List.getElem?_cons_succ, List.getElem?_cons_zero] at o1; clear hb O3) | (go_at_call 39; refine (VecOf_calls Al cl l0 p q _ (HAL.out _ (H3.out.step (below_alloc (below_alloc (Below.refl _ _) _) _)).keep) hcl (by omega) (by omega) (by omega)).mono ?_; rintro e w4 ⟨rfl, hb⟩; have hp3 : w2.heap.size ≤ w3.heap.size + 1 := by { have := H3.out.keep.1; omega }; have N4 := blk_below (blk_new _ _) hb; rw [World.size_alloc] at N4; have V4 := blk_below (blk_alloc (blk_new _ _) _) hb; have n0 := blk_cell N4 0; have n1 := blk_cell N4 1; have n2 := blk_cell N4 2; have nf := blk_frozen N4; have v0 := blk_cell V4 0; have v1 := blk_cell V4 1; have v2 := blk_cell V4 2; simp only [List.getElem?_toArray, List.getElem?_cons_succ, List.getElem?_cons_zero] at n0 n1 n2 v0 v1 v2; have H4 := Aside0.mk ((H3.out.step (below_alloc (below_alloc (Below.refl _ _) _) _)).step hb); have H5 := Aside0.mk (fun (p1 p2 p3 : Addr) (u1 u2 u3 : Value) (m : Nat) (h1 : w2.heap.size ≤ p1.block) (h2 : w2.heap.size ≤ p2.block) (h3 : w2.heap.size ≤ p3.block) => (((H4.out.far h1 u1).far h2 u2).far h3 u3).step (pw_below_drewN (Below.refl _ _) m)); clear hb N4 V4) | (go_at_call 41; refine ((HATL.out _ _ (H5.out _ _ _ _ _ _ 0 (by exact hp3) (by exact hp3) (by exact hp3))).1).mono ?_; rintro e w5 ⟨rfl, ⟨n5, rfl⟩⟩) | (go_at_call 42; refine ((HATL.out _ _ (H5.out _ _ _ _ _ _ _ (by exact hp3) (by exact hp3) (by exact hp3))).2).mono ?_; rintro e w6 ⟨rfl, ⟨n6, rfl⟩⟩))
                    all_goals go_roundw
                    all_goals first
                      | (case measure => simp [intOf]; omega)
                      | (case rel => exact ⟨i + 1, at_, hlt, by go_num, by go_num, ⟨H5.out _ _ _ _ _ _ _ (by exact hp3) (by exact hp3) (by exact hp3)⟩⟩)
                · as_aux_lemma =>
                    obtain ⟨a, ha⟩ : ∃ a : Nat, x.f1 = a := ⟨x.f1.toNat, by omega⟩
                    have HV := Aside0.mk (fun (W : World) (hT : BT w w2 W g l0 at_) => Look_end g l0 at_ a x.f2.f0 W hT.tk (by omega) hle hw (Or.inr (by omega)))
                    have hl3 : IntKind.i64.wrap (8 * (l0.length : Int) - (at_ : Int) - (a : Int)) = 8 * (l0.length : Int) - at_ - a := IntWalk.i64_in _ (by omega)
                    have hl4 : ¬ x.f2.f0 ≤ 8 * (l0.length : Int) - at_ - a := by omega
                    rw [ha] at q1 hnl hn0
                    go_wp2_with (first | (go_at_call 38; refine (HV.out _ (HBT.out.step (below_alloc (Below.refl _ _) _))).mono ?_; rintro e w3 ⟨rfl, hb⟩; have H3 := Aside0.mk (fun o1 o2 m => (((HBT.out.step (below_step (below_alloc (Below.refl _ _) _) hb)).step (below_alloc (below_alloc (Below.refl _ _) o1) o2)).step (pw_below_drewN (Below.refl _ _) m))); have O3 := blk_below (blk_new wr _) hb; have os : wr.heap.size < w3.heap.size := blk_lt O3; have o1 := blk_cell O3 1; simp only [List.getElem?_toArray, List.getElem?_cons_succ, List.getElem?_cons_zero] at o1; clear hb O3) | (go_at_call 41; refine ((HATL.out _ _ (H3.out _ _ 0)).1).mono ?_; rintro e w4 ⟨rfl, ⟨n4, rfl⟩⟩) | (go_at_call 42; refine ((HATL.out _ _ (H3.out _ _ _)).2).mono ?_; rintro e w5 ⟨rfl, ⟨n5, rfl⟩⟩))
                    all_goals go_roundw
                    all_goals first
                      | (case measure => simp [intOf]; omega)
                      | (case rel => exact ⟨i + 1, at_, hlt, rfl, by go_num, ⟨H3.out _ _ _⟩⟩)
              · as_aux_lemma =>
                  obtain ⟨a, ha⟩ : ∃ a : Nat, x.f1 = a := ⟨x.f1.toNat, by omega⟩
                  have HV := Aside0.mk (fun (W : World) (hT : BT w w2 W g l0 at_) => Look_end g l0 at_ a x.f2.f0 W hT.tk (by omega) hle hw (Or.inl (by omega)))
                  rw [ha] at q1 hnl hn0
                  go_wp2_with (first | (go_at_call 38; refine (HV.out _ (HBT.out.step (below_alloc (Below.refl _ _) _))).mono ?_; rintro e w3 ⟨rfl, hb⟩; have H3 := Aside0.mk (fun o1 o2 m => (((HBT.out.step (below_step (below_alloc (Below.refl _ _) _) hb)).step (below_alloc (below_alloc (Below.refl _ _) o1) o2)).step (pw_below_drewN (Below.refl _ _) m))); have O3 := blk_below (blk_new wr _) hb; have os : wr.heap.size < w3.heap.size := blk_lt O3; have o1 := blk_cell O3 1; simp only [List.getElem?_toArray, List.getElem?_cons_succ, List.getElem?_cons_zero] at o1; clear hb O3) | (go_at_call 41; refine ((HATL.out _ _ (H3.out _ _ 0)).1).mono ?_; rintro e w4 ⟨rfl, ⟨n4, rfl⟩⟩) | (go_at_call 42; refine ((HATL.out _ _ (H3.out _ _ _)).2).mono ?_; rintro e w5 ⟨rfl, ⟨n5, rfl⟩⟩))
                  all_goals go_roundw
                  all_goals first
                    | (case measure => simp [intOf]; omega)
                    | (case rel => exact ⟨i + 1, at_, hlt, rfl, by go_num, ⟨H3.out _ _ _⟩⟩)
          · as_aux_lemma =>
              have HV := Aside0.mk (fun (W : World) (hT : BT w w2 W g l0 at_) => Look_width g x.f1 x.f2.f0 W hw)
              have hw1 : (decide (x.f2.f0 < 1) || decide (128 < x.f2.f0)) = true := by simp; omega
              have hl1 : IntKind.i64.wrap (((bitsL l0).length : Int) - (at_ : Int)) = 8 * (l0.length : Int) - at_ := by rw [IntWalk.i64_in _ (by omega)]; omega
              go_wp2_with (first | (go_at_call 38; refine (HV.out _ (HBT.out.step (below_alloc (Below.refl _ _) _))).mono ?_; rintro e w3 ⟨rfl, hb⟩; have H3 := Aside0.mk (fun o1 o2 m => (((HBT.out.step (below_step (below_alloc (Below.refl _ _) _) hb)).step (below_alloc (below_alloc (Below.refl _ _) o1) o2)).step (pw_below_drewN (Below.refl _ _) m))); have O3 := blk_below (blk_new wr _) hb; have os : wr.heap.size < w3.heap.size := blk_lt O3; have o1 := blk_cell O3 1; simp only [List.getElem?_toArray, List.getElem?_cons_succ, List.getElem?_cons_zero] at o1; clear hb O3) | (go_at_call 41; refine ((HATL.out _ _ (H3.out _ _ 0)).1).mono ?_; rintro e w4 ⟨rfl, ⟨n4, rfl⟩⟩) | (go_at_call 42; refine ((HATL.out _ _ (H3.out _ _ _)).2).mono ?_; rintro e w5 ⟨rfl, ⟨n5, rfl⟩⟩))
              all_goals go_roundw
              all_goals first
                | (case measure => simp [intOf]; omega)
                | (case rel => exact ⟨i + 1, at_, hlt, rfl, by go_num, ⟨H3.out _ _ _⟩⟩)
        · have kk1 : (x.f0 == 1) = false := by simp [k1]
          have kk2 : (x.f0 == 2) = false := by simp [k2]
          have HATL := Aside0.mk (fun (W : World) (at2 : Nat) (h : BT w w2 W g l0 at2) => And.intro (At_calls W g l0 at2 h.tk) (Left_calls W g l0 at2 h.tk (by omega) (by have := h.le; omega)))
          have hle := HBT.out.le
          by_cases hw : 1 ≤ x.f2.f0 ∧ x.f2.f0 ≤ 128
          · have hw1 : (decide (x.f2.f0 < 1) || decide (128 < x.f2.f0)) = false := by simp; omega
            have hw2 : ¬ x.f2.f0 < 1 := by omega
            by_cases hf : (at_ : Int) + x.f2.f0 ≤ 8 * (l0.length : Int)
            · as_aux_lemma =>
                obtain ⟨q, hq⟩ : ∃ q : Nat, x.f2.f0 = q := ⟨x.f2.f0.toNat, by omega⟩
                have HV := Aside0.mk (fun (W : World) (hT : BT w w2 W g l0 at_) => Vec_ok g l0 at_ q W hT.tk hok (by omega) (by omega) (by omega) (by omega))
                have hl1 : IntKind.i64.wrap (((bitsL l0).length : Int) - (at_ : Int)) = 8 * (l0.length : Int) - at_ := by rw [IntWalk.i64_in _ (by omega)]; omega
                have hl2 : (q : Int) ≤ 8 * (l0.length : Int) - at_ := by omega
                have ea : IntKind.i64.wrap ((at_ : Int) + q) = (at_ : Int) + q := IntWalk.i64_in _ (by omega)
                rw [hq] at hw1 hw2 q2
                go_wp2_with (first | (go_at_call 40; refine (HV.out _ (HBT.out.step (below_alloc (Below.refl _ _) _))).mono ?_; rintro e w3 ⟨rfl, hk3, hb3⟩; have H3 := Aside0.mk ((HBT.out.step (below_alloc (Below.refl _ _) _)).only hk3 hb3 (by omega)); clear hk3 hb3) | (go_at_call 39; refine (VecOf_calls Al cl l0 at_ q _ (HAL.out _ (H3.out.step (below_alloc (below_alloc (Below.refl _ _) _) _)).keep) hcl (by omega) (by omega) (by omega)).mono ?_; rintro e w4 ⟨rfl, hb⟩; have hp3 : w2.heap.size ≤ w3.heap.size + 1 := by { have := H3.out.keep.1; omega }; have N4 := blk_below (blk_new _ _) hb; rw [World.size_alloc] at N4; have V4 := blk_below (blk_alloc (blk_new _ _) _) hb; have n0 := blk_cell N4 0; have n1 := blk_cell N4 1; have n2 := blk_cell N4 2; have nf := blk_frozen N4; have v0 := blk_cell V4 0; have v1 := blk_cell V4 1; have v2 := blk_cell V4 2; simp only [List.getElem?_toArray, List.getElem?_cons_succ, List.getElem?_cons_zero] at n0 n1 n2 v0 v1 v2; have H4 := Aside0.mk ((H3.out.step (below_alloc (below_alloc (Below.refl _ _) _) _)).step hb); have H5 := Aside0.mk (fun (p1 p2 p3 : Addr) (u1 u2 u3 : Value) (m : Nat) (h1 : w2.heap.size ≤ p1.block) (h2 : w2.heap.size ≤ p2.block) (h3 : w2.heap.size ≤ p3.block) => (((H4.out.far h1 u1).far h2 u2).far h3 u3).step (pw_below_drewN (Below.refl _ _) m)); clear hb N4 V4) | (go_at_call 41; refine ((HATL.out _ _ (H5.out _ _ _ _ _ _ 0 (by exact hp3) (by exact hp3) (by exact hp3))).1).mono ?_; rintro e w5 ⟨rfl, ⟨n5, rfl⟩⟩) | (go_at_call 42; refine ((HATL.out _ _ (H5.out _ _ _ _ _ _ _ (by exact hp3) (by exact hp3) (by exact hp3))).2).mono ?_; rintro e w6 ⟨rfl, ⟨n6, rfl⟩⟩))
                all_goals go_roundw
                all_goals first
                  | (case measure => simp [intOf]; omega)
                  | (case rel => exact ⟨i + 1, at_ + q, hlt, by go_num, by go_num, ⟨H5.out _ _ _ _ _ _ _ (by exact hp3) (by exact hp3) (by exact hp3)⟩⟩)
            · as_aux_lemma =>
                have HV := Aside0.mk (fun (W : World) (hT : BT w w2 W g l0 at_) => Vec_err (.pointer (some ⟨g, 0, none⟩)) x.f2.f0 3 W (by decide) (fun W1 hW1 => Look_end g l0 at_ 0 x.f2.f0 W1 (hT.tk.below hW1) (by omega) hle hw (Or.inr (by omega))))
                have hl1 : IntKind.i64.wrap (((bitsL l0).length : Int) - (at_ : Int)) = 8 * (l0.length : Int) - at_ := by rw [IntWalk.i64_in _ (by omega)]; omega
                have hl2 : ¬ x.f2.f0 ≤ 8 * (l0.length : Int) - at_ := by omega
                go_wp2_with (first | (go_at_call 40; refine (HV.out _ (HBT.out.step (below_alloc (Below.refl _ _) _))).mono ?_; rintro e w3 ⟨rfl, hb⟩; have H3 := Aside0.mk (fun o1 o2 m => (((HBT.out.step (below_step (below_alloc (Below.refl _ _) _) hb)).step (below_alloc (below_alloc (Below.refl _ _) o1) o2)).step (pw_below_drewN (Below.refl _ _) m))); clear hb) | (go_at_call 41; refine ((HATL.out _ _ (H3.out _ _ 0)).1).mono ?_; rintro e w4 ⟨rfl, ⟨n4, rfl⟩⟩) | (go_at_call 42; refine ((HATL.out _ _ (H3.out _ _ _)).2).mono ?_; rintro e w5 ⟨rfl, ⟨n5, rfl⟩⟩))
                all_goals go_roundw
                all_goals first
                  | (case measure => simp [intOf]; omega)
                  | (case rel => exact ⟨i + 1, at_, hlt, rfl, by go_num, ⟨H3.out _ _ _⟩⟩)
          · as_aux_lemma =>
              have HV := Aside0.mk (fun W => Vec_err (.pointer (some ⟨g, 0, none⟩)) x.f2.f0 9 W (by decide) (fun W1 _ => Look_width g 0 x.f2.f0 W1 hw))
              have hw1 : (decide (x.f2.f0 < 1) || decide (128 < x.f2.f0)) = true := by simp; omega
              go_wp2_with (first | (go_at_call 40; refine (HV.out _).mono ?_; rintro e w3 ⟨rfl, hb⟩; have H3 := Aside0.mk (fun o1 o2 m => (((HBT.out.step (below_step (below_alloc (Below.refl _ _) _) hb)).step (below_alloc (below_alloc (Below.refl _ _) o1) o2)).step (pw_below_drewN (Below.refl _ _) m))); clear hb) | (go_at_call 41; refine ((HATL.out _ _ (H3.out _ _ 0)).1).mono ?_; rintro e w4 ⟨rfl, ⟨n4, rfl⟩⟩) | (go_at_call 42; refine ((HATL.out _ _ (H3.out _ _ _)).2).mono ?_; rintro e w5 ⟨rfl, ⟨n5, rfl⟩⟩))
              all_goals go_roundw
              all_goals first
                | (case measure => simp [intOf]; omega)
                | (case rel => exact ⟨i + 1, at_, hlt, rfl, by go_num, ⟨H3.out _ _ _⟩⟩)
    · as_aux_lemma =>
        have hie : i = ops.length := by omega
        subst hie
        have HB3 := Aside0.mk HBT.out.below
        have HLV := Aside0.mk lives03
        go_wp2_with (go_at_call 15; refine (shunterlaw03_lives.calls _ _ HLV.out).mono ?_; rintro e w3 ⟨rfl, hb⟩; have HB4 := Aside0.mk hb; clear hb)
        go_ret
        exact ⟨rfl, below_step HB3.out HB4.out⟩

end Go.Proofs.Ytjbpianofkblbaa.XT
