/- The walk of BitsRows. -/
import Derived.Test.YtjbpianofkblbaaRw
import Derived.Test.YtjbpianofkblbaaLemRx
import Derived.Outline
namespace Go.Proofs.Ytjbpianofkblbaa.XT
open Go.RowKit Go.Proofs.YtjbpianofkblbaaW.PrintWords Go.Proofs.YtjbpianofkblbaaW.PrintLast Go.Proofs.YtjbpianofkblbaaW.PrintMore
attribute [local go_sem] max2_int min2_int max_two min_two max_three min_three max_four min_four   -- for this text's walks alone
set_option linter.unusedVariables false
set_option linter.unusedSimpArgs false
theorem Row_Add_rep (w0 w : World) (g : Nat) (v : Value) (bs : List Int) (L : List Bool) (a0 : Int) (X : Nat) (hX : X < 2 ^ 128) (h : RK w0 w g v bs L.length) (hR : Rep bs L) (hv : vmay a0 X = true) (hn : L.length + a0.toNat ≤ 73728) :
    Calls Try.prog 49 #[.pointer (some ⟨g, 0, none⟩), .agg #[.int .i64 a0, .int .u64 (hiW X), .int .u64 (loW X)]] w fun e w' => e = .returned (.int .i64 0) ∧ ∃ v1 r, RP w0 w w' g v v1 r (L ++ vbits a0 X).length ∧ Rep r (L ++ vbits a0 X) := by
  have hm : 1 ≤ a0 ∧ a0 ≤ 128 ∧ X < 2 ^ a0.toNat := of_decide_eq_true hv
  obtain ⟨r, h1, h2⟩ := hR.add a0 X hX hv (by omega)
  have h3 := hR.lo
  have h4 := hR.hi
  have hM := vec_May_eq a0 X hX
  rw [hv] at hM
  obtain ⟨q, rfl⟩ : ∃ q : Nat, a0 = q := ⟨a0.toNat, by omega⟩
  rw [Int.toNat_natCast] at hn h1
  refine (Row_Add_ok w0 w g v bs L.length q (hiW X) (loW X) ((L.length + q + 7) / 8 - bs.length) 200 r h hM (by omega) (by omega) (by omega) (by omega) h1).mono ?_
  rintro e w' ⟨he, v1, hp⟩
  exact ⟨he, v1, r, by rw [List.length_append, vbits_len, Int.toNat_natCast]; exact hp, h2⟩
/-- What every round of BitsRows knows: the row, and the document's bits beside it. -/
structure RW (w W : World) (g : Nat) (v : Value) (bs : List Int) (n : Nat) (vl : Value) (L : List Bool) : Prop where
  rk : RK w W g v bs n
  lr : Kd.R Kd.bool 4 W w.heap.size (fun k => k ≠ g) vl L
theorem RW.step {w W W1 : World} {g : Nat} {v : Value} {bs : List Int} {n : Nat} {vl : Value} {L : List Bool} (h : RW w W g v bs n vl L) (hb : Below W.heap.size W W1) : RW w W1 g v bs n vl L :=
  ⟨h.rk.step hb, Kd.R_below h.lr hb⟩
theorem RW.row {w W W1 : World} {g : Nat} {v v1 : Value} {bs bs1 : List Int} {n n1 : Nat} {vl : Value} {L : List Bool} (h : RW w W g v bs n vl L) (hp : RP w W W1 g v v1 bs1 n1) : RW w W1 g v1 bs1 n1 vl L := by
  refine ⟨hp.rk, Kd.R_mono (Kd.R_kept (Kd.R_bound h.lr) hp.kept (fun k hk hs => ?_)) (fun k hk => hk.1)⟩
  obtain ⟨h1, h2, h3, q, h4, cs, h5⟩ := hk
  rcases hs with e | e
  · exact h1 e
  · obtain ⟨_, _, _, q', h4', cs', h5'⟩ := (Kd.R_bound h.rk.row).1 k e.symm
    rw [h5] at h5'
    have e4 : q = 4 := by simpa [Kd.bool, Kd.scalar] using h4
    have e5 : q' = 5 := by simpa [Kd.int, Kd.scalar] using h4'
    simp [e4, e5] at h5'
theorem RW.app {w W W1 : World} {g : Nat} {v : Value} {bs : List Int} {n : Nat} {vl vl1 : Value} {L L1 : List Bool} (h : RW w W g v bs n vl L) (ho : Kd.R Kd.bool 4 W1 w.heap.size (fun k => k ≠ g) vl1 L1) (hb : Below w.heap.size w W1) (hg : W.grownBy W1 vl.ownBlock) : RW w W1 g v bs n vl1 L1 :=
  ⟨⟨(hg.block g h.rk.lt (Kd.R_away h.lr (fun k hk => hk))).trans h.rk.blk, Kd.R_over h.rk.row h.lr (by intro q hq; have e5 : q = 5 := by simpa [Kd.int, Kd.scalar] using hq
                                                                                                       omega) hg, h.rk.ge, hb⟩, ho⟩
def okOp (x : S57) : Prop := (0 ≤ x.f2.f1 ∧ x.f2.f1 < 2 ^ 64 ∧ 0 ≤ x.f2.f2 ∧ x.f2.f2 < 2 ^ 64) ∧ ∀ b ∈ x.f3, 0 ≤ b ∧ b < 256
set_option maxHeartbeats 2000000 in
set_option maxRecDepth 100000 in
theorem BitsRows_walk (A0 : Option Addr) (c0 : Nat) (ops : List S57) (w : World) (hr0 : Kd.C k57 w A0 ops.length ops) (hc0 : ops.length ≤ c0) (hv : ∀ x ∈ ops, okOp x) (h30 : ops.length ≤ 30) :
    Calls Try.prog 11 #[.slice A0 ops.length c0] w fun e w' => e = .returned (.bool true) ∧ Below w.heap.size w w' := by
  have HR0 := Aside0.mk hr0
  have HV := Aside0.mk hv
  have HLV := Aside0.mk lives03
  clear hr0 hv
  have hB0 : RW w (w.alloc (.cells #[.slice none 0 0, .int .i64 0] 68 (0, 0))) w.heap.size (.slice none 0 0) [] ([] : List Bool).length (.slice none 0 0) [] := ⟨⟨blk_new _ _, Kd.R_nil _ _ _ _ _, Nat.le_refl _, below_alloc (Below.refl _ _) _⟩, Kd.R_nil _ _ _ _ _⟩
  have HB0 := Aside0.mk hB0
  clear hB0
  go_enter Try.func11, Try.ntmps11
  go_wp2
  go_loopw [4, 5] (fun u4 u5 w' => ∃ (i : Nat) (v : Value) (bs : List Int) (L : List Bool) (Al : Option Addr) (cl : Nat), i ≤ ops.length ∧ L.length ≤ 1600 * i ∧ u4 = .slice Al L.length cl ∧ u5 = .int .i64 i ∧ Aside0 (Rep bs L) ∧ Aside0 (RW w w' w.heap.size v bs L.length (.slice Al L.length cl) L)) (fun _ u5 _ => ops.length - (intOf u5).toNat)
  case atStart => exact ⟨0, _, _, [], none, 0, Nat.zero_le _, Nat.zero_le _, rfl, rfl, ⟨Rep.nil⟩, HB0⟩
  case round =>
    clear HB0
    obtain ⟨i, v, bs, L, Al, cl, hi, hL, rfl, rfl, HR, HB⟩ := hrel
    have hlo := HR.out.lo
    have hhi := HR.out.hi
    by_cases hlt : i < ops.length
    · obtain ⟨ad, A5, c5, hA, p0, p1, p2, p3, p4, p5, hl5, hC5⟩ := at_T57 HR0.out (i : Int) (by omega) (by omega)
      subst hA
      rw [Int.toNat_natCast] at p0 p1 p2 p3 p4 p5
      have hx := HV.out (rd_T57 ops i) (by unfold rd_T57; simp [List.getD, hlt])
      generalize rd_T57 ops (i : Int) = x at *
      have HCW := Aside0.mk (fun W (hb : Below w.heap.size w W) => Kd.C_below hC5 hb)
      have HC5 := Aside0.mk (fun W' (hb : Below wr.heap.size wr W') => Kd.C_below (Kd.C_below hC5 HB.out.rk.below) hb)
      have q0 := (HB.out.rk.below.cell (World.block_lt_of_cell? w _ p0)).trans p0
      have q2 := (HB.out.rk.below.cell (World.block_lt_of_cell? w _ p2)).trans p2
      have q3 := (HB.out.rk.below.cell (World.block_lt_of_cell? w _ p3)).trans p3
      have q4 := (HB.out.rk.below.cell (World.block_lt_of_cell? w _ p4)).trans p4
      have q5 := (HB.out.rk.below.cell (World.block_lt_of_cell? w _ p5)).trans p5
      have clh : L.length ≤ cl := (Kd.R_reads' HB.out.lr).2.1
      clear hC5

      by_cases h200 : x.f3.length ≤ 200
      · have h2 : decide (200 < (x.f3.length : Int)) = false := by simp; omega
        by_cases k1 : x.f0 = 1
        · have kk1 : (x.f0 == 1) = true := by simp [k1]
          have em : Int.tmod (L.length : Int) 8 = ((L.length % 8 : Nat) : Int) := rfl
          by_cases h8 : L.length % 8 = 0
          · have em2 : Int.tmod (L.length : Int) 8 = 0 := by rw [em, h8]; rfl
            have HBT := Aside0.mk (show shunterref03_Bits.f x.f3 = some (bitsL x.f3) from ref03_Bits_eq (l := x.f3) ⟨hx.2, by omega⟩)
            have HREP := Aside0.mk (HR.out.bytes h8 x.f3 ⟨hx.2, by omega⟩ (by omega))
            have HLL := Aside0.mk (bitsL_length x.f3)
            have hbl : (bs ++ x.f3).length ≤ 10000 := by rw [List.length_append]; omega
            clear em
            go_wp2_with (first | (go_at_call 48; with_reducible refine (Row_Bytes_ok w _ w.heap.size v bs L.length A5 c5 x.f3 HB.out.rk (HC5.out _ (Below.refl _ _)) h8 (by omega) (by omega) (by omega) (by omega)).mono ?_; rintro e w1 ⟨rfl, v1, hP⟩; have H1 := Aside0.mk (HB.out.row hP); have r5 := (hP.rk.below.cell (World.block_lt_of_cell? w _ p5)).trans p5; clear hP) | (go_at_call 36; with_reducible refine (shunterref03_Bits.calls A5 c5 x.f3 _ _ (HCW.out _ H1.out.rk.below) hl5 HBT.out).mono ?_; rintro e w2 ⟨v2, rfl, ho, hb⟩; obtain ⟨Ab, cb, rfl, cbh, hCb⟩ := Kd.R_reads ho; have H2 := Aside0.mk (H1.out.step hb); have HCB := Aside0.mk hCb; clear ho hb hCb) | ((with_reducible refine gate_builtin (b := .append) (xs := #[.tmp 42, .tmp 48]) rfl ?_); at_builtin; refine Kd.R_append_row (Value.bool) false (h1 := fun _ => rfl) (w0 := w) w.heap.size rfl (.tmp 42) (.tmp 48) 54 4 (.bool false) 1 rfl Try.underlying54 info4 rfl (by decide) (.slice Al L.length cl) L (bitsL x.f3) Ab (bitsL x.f3).length cb (fun k => k ≠ w.heap.size) rfl rfl ?aF H2.out.lr ?aR H2.out.rk.below ?aS ?aL ?_; (case aR => exact HCB.out); (case aF => intro k hk; have := H2.out.rk.lt; omega); (case aS => exact below_size H2.out.rk.below); (case aL => have := HLL.out; omega); intro v5 w5 ho hb hg hat; obtain ⟨Al1, cl1, rfl, cl1h, _⟩ := Kd.R_reads ho; have HW := Aside0.mk (H2.out.app ho hb hg); clear ho hb hg hat))
            obtain ⟨L1, hL1⟩ : ∃ L1, L1 = L ++ bitsL x.f3 := ⟨_, rfl⟩
            have hl1 : L1.length = L.length + (bitsL x.f3).length := by rw [hL1, List.length_append]
            have hn1 : L.length + 8 * x.f3.length = L1.length := by rw [hl1, HLL.out]
            have hle : L1.length ≤ 1600 * (i + 1) := by omega
            rw [← hL1] at HREP HW cl1h
            rw [hn1] at HW
            rw [← hl1]
            clear hL1 hl1 hn1 H1 H2 HCB HBT HLL hhi hlo
            generalize bs ++ x.f3 = bs1 at *
            have HBY := Aside0.mk (Bytes_rep HREP.out hbl)
            have hb47 : bs1.length < 140737488355328 := by omega
            refine start_ (n := 17) (S := fun w' => True) (ds := []) #[false, false, false, false, false, false, false, false, false, false, false, false, false, false, false, false, false] (by kernel_rfl) rfl rfl trivial (fun hHeld => ?_)
            refine pure_ (i := 0) (N := some 71) (v := ?_) (a' := ?_) #[true, false, false, false, false, false, false, false, false, false, false, false, false, false, false, false, false] rfl rfl (by kernel_rfl) (fun _ _ _ h => h) (Or.inl ⟨by rfl, ?_⟩) ?_ ?_
            rotate_left
            · intro w'
              go_simp
              with_reducible rfl
            rotate_left
            · simp only [Act.put, List.setIfInBounds_toArray, List.set_cons_zero, List.set_cons_succ, i64_w, i32_w]
              rfl
            refine pure_ (i := 1) (N := some 72) (v := ?_) (a' := ?_) #[true, true, false, false, false, false, false, false, false, false, false, false, false, false, false, false, false] rfl rfl (by kernel_rfl) (fun _ _ _ h => h) (Or.inl ⟨by rfl, ?_⟩) ?_ ?_
            rotate_left
            · intro w'
              go_simp
              with_reducible rfl
            rotate_left
            · simp only [Act.put, List.setIfInBounds_toArray, List.set_cons_zero, List.set_cons_succ, i64_w, i32_w]
              rfl
            refine pure_ (i := 2) (N := some 73) (v := ?_) (a' := ?_) #[true, true, true, false, false, false, false, false, false, false, false, false, false, false, false, false, false] rfl rfl (by kernel_rfl) (fun _ _ _ h => h) (Or.inl ⟨by rfl, ?_⟩) ?_ ?_
            rotate_left
            · intro w'
              go_simp
              with_reducible rfl
            rotate_left
            · simp only [Act.put, List.setIfInBounds_toArray, List.set_cons_zero, List.set_cons_succ, i64_w, i32_w]
              rfl
            refine pure_ (i := 3) (N := some 74) (v := ?_) (a' := ?_) #[true, true, true, true, false, false, false, false, false, false, false, false, false, false, false, false, false] rfl rfl (by kernel_rfl) (fun _ _ _ h => h) (Or.inl ⟨by rfl, ?_⟩) ?_ ?_
            rotate_left
            · intro w'
              go_simp
              with_reducible rfl
            rotate_left
            · simp only [Act.put, List.setIfInBounds_toArray, List.set_cons_zero, List.set_cons_succ, i64_w, i32_w]
              rfl
            refine pure_ (i := 5) (N := some 76) (v := ?_) (a' := ?_) #[true, true, true, true, false, true, false, false, false, false, false, false, false, false, false, false, false] rfl rfl (by kernel_rfl) (fun _ _ _ h => h) (Or.inl ⟨by rfl, ?_⟩) ?_ ?_
            rotate_left
            · intro w'
              go_simp
              with_reducible rfl
            rotate_left
            · simp only [Act.put, List.setIfInBounds_toArray, List.set_cons_zero, List.set_cons_succ, i64_w, i32_w]
              rfl
            refine pure_ (i := 6) (N := some 77) (v := ?_) (a' := ?_) #[true, true, true, true, false, true, true, false, false, false, false, false, false, false, false, false, false] rfl rfl (by kernel_rfl) (fun _ _ _ h => h) (Or.inl ⟨by rfl, ?_⟩) ?_ ?_
            rotate_left
            · intro w'
              go_simp
              with_reducible rfl
            rotate_left
            · simp only [Act.put, List.setIfInBounds_toArray, List.set_cons_zero, List.set_cons_succ, i64_w, i32_w]
              rfl
            refine one_ (i := 4) (N := some 75) #[true, true, true, true, true, true, true, false, false, false, false, false, false, false, false, false, false] rfl rfl (by kernel_rfl) (by decide) (fun K hK => ?_)
            refine goes_ Try.func52 (by kernel_rfl) rfl #[.pointer (some ⟨w.heap.size, 0, none⟩)] (by rfl) rfl rfl (by simp only [List.map_toArray, List.map_cons, List.map_nil]; rfl) ?_
            with_reducible refine (Row_Len_calls w _ w.heap.size v1 bs1 L1.length (HW.out.step (below_drew1 (Below.refl _ _))).rk).mono ?_
            rintro e wa ⟨rfl, ⟨na, rfl⟩⟩
            refine ⟨_, rfl, ?_⟩
            refine hK.out _ _ trivial (fun hHeld => ?_)
            clear hK K
            refine norm_ (a' := ?_) ?_ ?_
            rotate_left
            · show Act.put _ (some 75) _ = _
              simp only [Act.put, List.setIfInBounds_toArray, List.set_cons_zero, List.set_cons_succ, i64_w, i32_w]
              rfl
            refine pure_ (i := 7) (N := some 78) (v := ?_) (a' := ?_) #[true, true, true, true, true, true, true, true, false, false, false, false, false, false, false, false, false] rfl rfl (by kernel_rfl) (fun _ _ _ h => h) (Or.inl ⟨by rfl, ?_⟩) ?_ ?_
            rotate_left
            · intro w'
              go_simp
              with_reducible rfl
            rotate_left
            · simp only [Act.put, List.setIfInBounds_toArray, List.set_cons_zero, List.set_cons_succ, i64_w, i32_w]
              rfl
            refine pure_ (i := 8) (N := some 79) (v := ?_) (a' := ?_) #[true, true, true, true, true, true, true, true, true, false, false, false, false, false, false, false, false] rfl rfl (by kernel_rfl) (fun _ _ _ h => h) (Or.inl ⟨by rfl, ?_⟩) ?_ ?_
            rotate_left
            · intro w'
              go_simp
              with_reducible rfl
            rotate_left
            · simp only [Act.put, List.setIfInBounds_toArray, List.set_cons_zero, List.set_cons_succ, i64_w, i32_w]
              rfl
            refine pure_ (i := 9) (N := some 80) (v := ?_) (a' := ?_) #[true, true, true, true, true, true, true, true, true, true, false, false, false, false, false, false, false] rfl rfl (by kernel_rfl) (fun _ _ _ h => h) (Or.inl ⟨by rfl, ?_⟩) ?_ ?_
            rotate_left
            · intro w'
              go_simp
              with_reducible rfl
            rotate_left
            · simp only [Act.put, List.setIfInBounds_toArray, List.set_cons_zero, List.set_cons_succ, i64_w, i32_w]
              rfl
            refine pure_ (i := 12) (N := some 83) (v := ?_) (a' := ?_) #[true, true, true, true, true, true, true, true, true, true, false, false, true, false, false, false, false] rfl rfl (by kernel_rfl) (fun _ _ _ h => h) (Or.inl ⟨by rfl, ?_⟩) ?_ ?_
            rotate_left
            · intro w'
              go_simp
              with_reducible rfl
            rotate_left
            · simp only [Act.put, List.setIfInBounds_toArray, List.set_cons_zero, List.set_cons_succ, i64_w, i32_w]
              rfl
            refine one_ (i := 10) (N := some 81) #[true, true, true, true, true, true, true, true, true, true, true, false, true, false, false, false, false] rfl rfl (by kernel_rfl) (by decide) (fun K hK => ?_)
            refine goes_ Try.func53 (by kernel_rfl) rfl #[.pointer (some ⟨w.heap.size, 0, none⟩)] (by rfl) rfl rfl (by simp only [List.map_toArray, List.map_cons, List.map_nil]; rfl) ?_
            with_reducible refine (Row_All_calls w _ w.heap.size v1 bs1 L1.length ((HW.out.step (below_drew1 (Below.refl _ _))).step (pw_below_drewN (Below.refl _ _) na)).rk hb47).mono ?_
            rintro e wb ⟨vv, rfl, hob, hbb⟩
            refine ⟨_, rfl, ?_⟩
            obtain ⟨Av, cv, rfl, hcv, hCv⟩ := Kd.R_reads hob
            have HWB := Aside0.mk (((HW.out.step (below_drew1 (Below.refl _ _))).step (pw_below_drewN (Below.refl _ _) na)).step hbb)
            have HCL := Aside0.mk (Kd.R_reads' HWB.out.lr).2.2
            have SC := Aside0.mk (fun W' (hb : Below wb.heap.size wb W') => Kd.C_string (P := Try.prog) (src := 22) (dst := 9) (c := cv) Try.underlying22 Try.underlying5 Try.underlying9 (Kd.C_below hCv hb))
            clear hob hbb hCv
            refine hK.out _ _ trivial (fun hHeld => ?_)
            clear hK K
            refine norm_ (a' := ?_) ?_ ?_
            rotate_left
            · show Act.put _ (some 81) _ = _
              simp only [Act.put, List.setIfInBounds_toArray, List.set_cons_zero, List.set_cons_succ, i64_w, i32_w]
              rfl
            refine join_ (σ := Value) 2 #[true, true, true, true, true, true, true, true, true, true, true, true, true, true, true, false, false] (fun s => [(82, .string (strOfNums bs1)), (84, s), (85, .string (strOfNums bs1))]) (fun s w' => Below wb.heap.size wb w') ?_ ?_
            rotate_left
            · intro hCont
              refine two_ (i := 11) (j := 13) (Ni := some 82) (Nj := some 84) #[true, true, true, true, true, true, true, true, true, true, true, true, true, false, false, false, false] #[true, true, true, true, true, true, true, true, true, true, true, false, true, true, false, false, false] rfl rfl rfl rfl (by kernel_rfl) (by decide) (by decide) (fun K hK => ?_) (fun K hK => ?_)
              · skip
                have sc := SC.out wb (Below.refl _ _)
                refine value_ (w1 := ?_) (v := ?_) (by rfl) rfl ?_ ?_
                rotate_left 2
                · go_simp
                  constructor
                  · rfl
                  · rfl
                refine hK.out _ _ trivial (fun hHeld => ?_)
                clear hK K
                refine norm_ (a' := ?_) ?_ ?_
                rotate_left
                · show Act.put _ (some 82) _ = _
                  simp only [Act.put, List.setIfInBounds_toArray, List.set_cons_zero, List.set_cons_succ, i64_w, i32_w]
                  rfl
                refine one_ (i := 13) (N := some 84) #[true, true, true, true, true, true, true, true, true, true, true, true, true, true, false, false, false] rfl rfl (by kernel_rfl) (by decide) (fun K hK => ?_)
                refine goes_ Try.func54 (by kernel_rfl) rfl #[.slice Al1 L1.length cl1] (by rfl) rfl rfl (by simp only [List.map_toArray, List.map_cons, List.map_nil]; rfl) ?_
                with_reducible refine (shunterref03_Bytes.calls 200000 Al1 cl1 L1 bs1 wb HCL.out cl1h HBY.out).mono ?_
                rintro e wc ⟨vc, rfl, hoc, hbc0⟩
                refine ⟨_, rfl, ?_⟩
                obtain ⟨Ac, cc, rfl, hcc, hCc⟩ := Kd.R_reads hoc
                have hbc := Aside0.mk hbc0
                have SD := Aside0.mk (Kd.C_string (P := Try.prog) (src := 22) (dst := 9) (c := cc) Try.underlying22 Try.underlying5 Try.underlying9 hCc)
                clear hoc hbc0 hCc
                refine hK.out _ _ trivial (fun hHeld => ?_)
                clear hK K
                refine norm_ (a' := ?_) ?_ ?_
                rotate_left
                · show Act.put _ (some 84) _ = _
                  simp only [Act.put, List.setIfInBounds_toArray, List.set_cons_zero, List.set_cons_succ, i64_w, i32_w]
                  rfl
                refine one_ (i := 14) (N := some 85) #[true, true, true, true, true, true, true, true, true, true, true, true, true, true, true, false, false] rfl rfl (by kernel_rfl) (by decide) (fun K hK => ?_)
                have sd := SD.out
                refine value_ (w1 := ?_) (v := ?_) (by rfl) rfl ?_ ?_
                rotate_left 2
                · go_simp
                  constructor
                  · rfl
                  · rfl
                refine hK.out _ _ trivial (fun hHeld => ?_)
                clear hK K
                refine norm_ (a' := ?_) ?_ ?_
                rotate_left
                · show Act.put _ (some 85) _ = _
                  simp only [Act.put, List.setIfInBounds_toArray, List.set_cons_zero, List.set_cons_succ, i64_w, i32_w]
                  rfl
                exact norm_ (by simp only [putAll, Act.put, List.setIfInBounds_toArray, List.set_cons_zero, List.set_cons_succ]) (hCont (.slice Ac bs1.length cc) _ hbc.out)
              · skip
                refine goes_ Try.func54 (by kernel_rfl) rfl #[.slice Al1 L1.length cl1] (by rfl) rfl rfl (by simp only [List.map_toArray, List.map_cons, List.map_nil]; rfl) ?_
                with_reducible refine (shunterref03_Bytes.calls 200000 Al1 cl1 L1 bs1 wb HCL.out cl1h HBY.out).mono ?_
                rintro e wc ⟨vc, rfl, hoc, hbc0⟩
                refine ⟨_, rfl, ?_⟩
                obtain ⟨Ac, cc, rfl, hcc, hCc⟩ := Kd.R_reads hoc
                have hbc := Aside0.mk hbc0
                have SD := Aside0.mk (Kd.C_string (P := Try.prog) (src := 22) (dst := 9) (c := cc) Try.underlying22 Try.underlying5 Try.underlying9 hCc)
                clear hoc hbc0 hCc
                refine hK.out _ _ trivial (fun hHeld => ?_)
                clear hK K
                refine norm_ (a' := ?_) ?_ ?_
                rotate_left
                · show Act.put _ (some 84) _ = _
                  simp only [Act.put, List.setIfInBounds_toArray, List.set_cons_zero, List.set_cons_succ, i64_w, i32_w]
                  rfl
                refine two_ (i := 11) (j := 14) (Ni := some 82) (Nj := some 85) #[true, true, true, true, true, true, true, true, true, true, true, true, true, true, false, false, false] #[true, true, true, true, true, true, true, true, true, true, true, false, true, true, true, false, false] rfl rfl rfl rfl (by kernel_rfl) (by decide) (by decide) (fun K hK => ?_) (fun K hK => ?_)
                · skip
                  have sc := SC.out wc hbc.out
                  refine value_ (w1 := ?_) (v := ?_) (by rfl) rfl ?_ ?_
                  rotate_left 2
                  · go_simp
                    constructor
                    · rfl
                    · rfl
                  refine hK.out _ _ trivial (fun hHeld => ?_)
                  clear hK K
                  refine norm_ (a' := ?_) ?_ ?_
                  rotate_left
                  · show Act.put _ (some 82) _ = _
                    simp only [Act.put, List.setIfInBounds_toArray, List.set_cons_zero, List.set_cons_succ, i64_w, i32_w]
                    rfl
                  refine one_ (i := 14) (N := some 85) #[true, true, true, true, true, true, true, true, true, true, true, true, true, true, true, false, false] rfl rfl (by kernel_rfl) (by decide) (fun K hK => ?_)
                  have sd := SD.out
                  refine value_ (w1 := ?_) (v := ?_) (by rfl) rfl ?_ ?_
                  rotate_left 2
                  · go_simp
                    constructor
                    · rfl
                    · rfl
                  refine hK.out _ _ trivial (fun hHeld => ?_)
                  clear hK K
                  refine norm_ (a' := ?_) ?_ ?_
                  rotate_left
                  · show Act.put _ (some 85) _ = _
                    simp only [Act.put, List.setIfInBounds_toArray, List.set_cons_zero, List.set_cons_succ, i64_w, i32_w]
                    rfl
                  exact norm_ (by simp only [putAll, Act.put, List.setIfInBounds_toArray, List.set_cons_zero, List.set_cons_succ]) (hCont (.slice Ac bs1.length cc) _ hbc.out)
                · skip
                  have sd := SD.out
                  refine value_ (w1 := ?_) (v := ?_) (by rfl) rfl ?_ ?_
                  rotate_left 2
                  · go_simp
                    constructor
                    · rfl
                    · rfl
                  refine hK.out _ _ trivial (fun hHeld => ?_)
                  clear hK K
                  refine norm_ (a' := ?_) ?_ ?_
                  rotate_left
                  · show Act.put _ (some 85) _ = _
                    simp only [Act.put, List.setIfInBounds_toArray, List.set_cons_zero, List.set_cons_succ, i64_w, i32_w]
                    rfl
                  refine one_ (i := 11) (N := some 82) #[true, true, true, true, true, true, true, true, true, true, true, true, true, true, true, false, false] rfl rfl (by kernel_rfl) (by decide) (fun K hK => ?_)
                  have sc := SC.out wc hbc.out
                  refine value_ (w1 := ?_) (v := ?_) (by rfl) rfl ?_ ?_
                  rotate_left 2
                  · go_simp
                    constructor
                    · rfl
                    · rfl
                  refine hK.out _ _ trivial (fun hHeld => ?_)
                  clear hK K
                  refine norm_ (a' := ?_) ?_ ?_
                  rotate_left
                  · show Act.put _ (some 82) _ = _
                    simp only [Act.put, List.setIfInBounds_toArray, List.set_cons_zero, List.set_cons_succ, i64_w, i32_w]
                    rfl
                  exact norm_ (by simp only [putAll, Act.put, List.setIfInBounds_toArray, List.set_cons_zero, List.set_cons_succ]) (hCont (.slice Ac bs1.length cc) _ hbc.out)
            rintro sv wz hz
            have hHeld : True := trivial
            refine norm_ (a' := ?_) ?_ ?_
            rotate_left
            · simp only [putAll, Act.put, List.setIfInBounds_toArray, List.set_cons_zero, List.set_cons_succ]
              rfl
            refine pure_ (i := 15) (N := some 86) (v := ?_) (a' := ?_) #[true, true, true, true, true, true, true, true, true, true, true, true, true, true, true, true, false] rfl rfl (by kernel_rfl) (fun _ _ _ h => h) (Or.inl ⟨by rfl, ?_⟩) ?_ ?_
            rotate_left
            · intro w'
              go_simp
              with_reducible rfl
            rotate_left
            · simp only [Act.put, List.setIfInBounds_toArray, List.set_cons_zero, List.set_cons_succ, i64_w, i32_w]
              rfl
            refine pure_ (i := 16) (N := some 87) (v := ?_) (a' := ?_) #[true, true, true, true, true, true, true, true, true, true, true, true, true, true, true, true, true] rfl rfl (by kernel_rfl) (fun _ _ _ h => h) (Or.inl ⟨by rfl, ?_⟩) ?_ ?_
            rotate_left
            · intro w'
              go_simp
              with_reducible rfl
            rotate_left
            · simp only [Act.put, List.setIfInBounds_toArray, List.set_cons_zero, List.set_cons_succ, i64_w, i32_w]
              rfl
            refine done_ (by kernel_rfl) ?_
            go_wp2
            go_roundw
            case measure => simp [intOf]; omega
            case rel => exact ⟨i + 1, v1, bs1, L1, Al1, cl1, hlt, hle, rfl, by go_num, HREP, ⟨HWB.out.step hz⟩⟩
          · have em2 : (((L.length % 8 : Nat) : Int) != 0) = true := by simp; omega
            have hle : L.length ≤ 1600 * (i + 1) := by omega
            have hbl : bs.length ≤ 10000 := by omega
            have HREP := HR
            go_wp2_with (go_at_call 48; with_reducible refine (Row_Bytes_state w _ w.heap.size v bs L.length A5 x.f3.length c5 HB.out.rk h8).mono ?_; rintro e w1 ⟨rfl, ⟨n1, rfl⟩⟩; have HW := Aside0.mk (HB.out.step (pw_below_drewN (Below.refl _ _) n1)))
            clear HB HR hhi hlo
            have HBY := Aside0.mk (Bytes_rep HREP.out hbl)
            have hb47 : bs.length < 140737488355328 := by omega
            refine start_ (n := 17) (S := fun w' => True) (ds := []) #[false, false, false, false, false, false, false, false, false, false, false, false, false, false, false, false, false] (by kernel_rfl) rfl rfl trivial (fun hHeld => ?_)
            refine pure_ (i := 0) (N := some 71) (v := ?_) (a' := ?_) #[true, false, false, false, false, false, false, false, false, false, false, false, false, false, false, false, false] rfl rfl (by kernel_rfl) (fun _ _ _ h => h) (Or.inl ⟨by rfl, ?_⟩) ?_ ?_
            rotate_left
            · intro w'
              go_simp
              with_reducible rfl
            rotate_left
            · simp only [Act.put, List.setIfInBounds_toArray, List.set_cons_zero, List.set_cons_succ, i64_w, i32_w]
              rfl
            refine pure_ (i := 1) (N := some 72) (v := ?_) (a' := ?_) #[true, true, false, false, false, false, false, false, false, false, false, false, false, false, false, false, false] rfl rfl (by kernel_rfl) (fun _ _ _ h => h) (Or.inl ⟨by rfl, ?_⟩) ?_ ?_
            rotate_left
            · intro w'
              go_simp
              with_reducible rfl
            rotate_left
            · simp only [Act.put, List.setIfInBounds_toArray, List.set_cons_zero, List.set_cons_succ, i64_w, i32_w]
              rfl
            refine pure_ (i := 2) (N := some 73) (v := ?_) (a' := ?_) #[true, true, true, false, false, false, false, false, false, false, false, false, false, false, false, false, false] rfl rfl (by kernel_rfl) (fun _ _ _ h => h) (Or.inl ⟨by rfl, ?_⟩) ?_ ?_
            rotate_left
            · intro w'
              go_simp
              with_reducible rfl
            rotate_left
            · simp only [Act.put, List.setIfInBounds_toArray, List.set_cons_zero, List.set_cons_succ, i64_w, i32_w]
              rfl
            refine pure_ (i := 3) (N := some 74) (v := ?_) (a' := ?_) #[true, true, true, true, false, false, false, false, false, false, false, false, false, false, false, false, false] rfl rfl (by kernel_rfl) (fun _ _ _ h => h) (Or.inl ⟨by rfl, ?_⟩) ?_ ?_
            rotate_left
            · intro w'
              go_simp
              with_reducible rfl
            rotate_left
            · simp only [Act.put, List.setIfInBounds_toArray, List.set_cons_zero, List.set_cons_succ, i64_w, i32_w]
              rfl
            refine pure_ (i := 5) (N := some 76) (v := ?_) (a' := ?_) #[true, true, true, true, false, true, false, false, false, false, false, false, false, false, false, false, false] rfl rfl (by kernel_rfl) (fun _ _ _ h => h) (Or.inl ⟨by rfl, ?_⟩) ?_ ?_
            rotate_left
            · intro w'
              go_simp
              with_reducible rfl
            rotate_left
            · simp only [Act.put, List.setIfInBounds_toArray, List.set_cons_zero, List.set_cons_succ, i64_w, i32_w]
              rfl
            refine pure_ (i := 6) (N := some 77) (v := ?_) (a' := ?_) #[true, true, true, true, false, true, true, false, false, false, false, false, false, false, false, false, false] rfl rfl (by kernel_rfl) (fun _ _ _ h => h) (Or.inl ⟨by rfl, ?_⟩) ?_ ?_
            rotate_left
            · intro w'
              go_simp
              with_reducible rfl
            rotate_left
            · simp only [Act.put, List.setIfInBounds_toArray, List.set_cons_zero, List.set_cons_succ, i64_w, i32_w]
              rfl
            refine one_ (i := 4) (N := some 75) #[true, true, true, true, true, true, true, false, false, false, false, false, false, false, false, false, false] rfl rfl (by kernel_rfl) (by decide) (fun K hK => ?_)
            refine goes_ Try.func52 (by kernel_rfl) rfl #[.pointer (some ⟨w.heap.size, 0, none⟩)] (by rfl) rfl rfl (by simp only [List.map_toArray, List.map_cons, List.map_nil]; rfl) ?_
            with_reducible refine (Row_Len_calls w _ w.heap.size v bs L.length (HW.out.step (below_drew1 (Below.refl _ _))).rk).mono ?_
            rintro e wa ⟨rfl, ⟨na, rfl⟩⟩
            refine ⟨_, rfl, ?_⟩
            refine hK.out _ _ trivial (fun hHeld => ?_)
            clear hK K
            refine norm_ (a' := ?_) ?_ ?_
            rotate_left
            · show Act.put _ (some 75) _ = _
              simp only [Act.put, List.setIfInBounds_toArray, List.set_cons_zero, List.set_cons_succ, i64_w, i32_w]
              rfl
            refine pure_ (i := 7) (N := some 78) (v := ?_) (a' := ?_) #[true, true, true, true, true, true, true, true, false, false, false, false, false, false, false, false, false] rfl rfl (by kernel_rfl) (fun _ _ _ h => h) (Or.inl ⟨by rfl, ?_⟩) ?_ ?_
            rotate_left
            · intro w'
              go_simp
              with_reducible rfl
            rotate_left
            · simp only [Act.put, List.setIfInBounds_toArray, List.set_cons_zero, List.set_cons_succ, i64_w, i32_w]
              rfl
            refine pure_ (i := 8) (N := some 79) (v := ?_) (a' := ?_) #[true, true, true, true, true, true, true, true, true, false, false, false, false, false, false, false, false] rfl rfl (by kernel_rfl) (fun _ _ _ h => h) (Or.inl ⟨by rfl, ?_⟩) ?_ ?_
            rotate_left
            · intro w'
              go_simp
              with_reducible rfl
            rotate_left
            · simp only [Act.put, List.setIfInBounds_toArray, List.set_cons_zero, List.set_cons_succ, i64_w, i32_w]
              rfl
            refine pure_ (i := 9) (N := some 80) (v := ?_) (a' := ?_) #[true, true, true, true, true, true, true, true, true, true, false, false, false, false, false, false, false] rfl rfl (by kernel_rfl) (fun _ _ _ h => h) (Or.inl ⟨by rfl, ?_⟩) ?_ ?_
            rotate_left
            · intro w'
              go_simp
              with_reducible rfl
            rotate_left
            · simp only [Act.put, List.setIfInBounds_toArray, List.set_cons_zero, List.set_cons_succ, i64_w, i32_w]
              rfl
            refine pure_ (i := 12) (N := some 83) (v := ?_) (a' := ?_) #[true, true, true, true, true, true, true, true, true, true, false, false, true, false, false, false, false] rfl rfl (by kernel_rfl) (fun _ _ _ h => h) (Or.inl ⟨by rfl, ?_⟩) ?_ ?_
            rotate_left
            · intro w'
              go_simp
              with_reducible rfl
            rotate_left
            · simp only [Act.put, List.setIfInBounds_toArray, List.set_cons_zero, List.set_cons_succ, i64_w, i32_w]
              rfl
            refine one_ (i := 10) (N := some 81) #[true, true, true, true, true, true, true, true, true, true, true, false, true, false, false, false, false] rfl rfl (by kernel_rfl) (by decide) (fun K hK => ?_)
            refine goes_ Try.func53 (by kernel_rfl) rfl #[.pointer (some ⟨w.heap.size, 0, none⟩)] (by rfl) rfl rfl (by simp only [List.map_toArray, List.map_cons, List.map_nil]; rfl) ?_
            with_reducible refine (Row_All_calls w _ w.heap.size v bs L.length ((HW.out.step (below_drew1 (Below.refl _ _))).step (pw_below_drewN (Below.refl _ _) na)).rk hb47).mono ?_
            rintro e wb ⟨vv, rfl, hob, hbb⟩
            refine ⟨_, rfl, ?_⟩
            obtain ⟨Av, cv, rfl, hcv, hCv⟩ := Kd.R_reads hob
            have HWB := Aside0.mk (((HW.out.step (below_drew1 (Below.refl _ _))).step (pw_below_drewN (Below.refl _ _) na)).step hbb)
            have HCL := Aside0.mk (Kd.R_reads' HWB.out.lr).2.2
            have SC := Aside0.mk (fun W' (hb : Below wb.heap.size wb W') => Kd.C_string (P := Try.prog) (src := 22) (dst := 9) (c := cv) Try.underlying22 Try.underlying5 Try.underlying9 (Kd.C_below hCv hb))
            clear hob hbb hCv
            refine hK.out _ _ trivial (fun hHeld => ?_)
            clear hK K
            refine norm_ (a' := ?_) ?_ ?_
            rotate_left
            · show Act.put _ (some 81) _ = _
              simp only [Act.put, List.setIfInBounds_toArray, List.set_cons_zero, List.set_cons_succ, i64_w, i32_w]
              rfl
            refine join_ (σ := Value) 2 #[true, true, true, true, true, true, true, true, true, true, true, true, true, true, true, false, false] (fun s => [(82, .string (strOfNums bs)), (84, s), (85, .string (strOfNums bs))]) (fun s w' => Below wb.heap.size wb w') ?_ ?_
            rotate_left
            · intro hCont
              refine two_ (i := 11) (j := 13) (Ni := some 82) (Nj := some 84) #[true, true, true, true, true, true, true, true, true, true, true, true, true, false, false, false, false] #[true, true, true, true, true, true, true, true, true, true, true, false, true, true, false, false, false] rfl rfl rfl rfl (by kernel_rfl) (by decide) (by decide) (fun K hK => ?_) (fun K hK => ?_)
              · skip
                have sc := SC.out wb (Below.refl _ _)
                refine value_ (w1 := ?_) (v := ?_) (by rfl) rfl ?_ ?_
                rotate_left 2
                · go_simp
                  constructor
                  · rfl
                  · rfl
                refine hK.out _ _ trivial (fun hHeld => ?_)
                clear hK K
                refine norm_ (a' := ?_) ?_ ?_
                rotate_left
                · show Act.put _ (some 82) _ = _
                  simp only [Act.put, List.setIfInBounds_toArray, List.set_cons_zero, List.set_cons_succ, i64_w, i32_w]
                  rfl
                refine one_ (i := 13) (N := some 84) #[true, true, true, true, true, true, true, true, true, true, true, true, true, true, false, false, false] rfl rfl (by kernel_rfl) (by decide) (fun K hK => ?_)
                refine goes_ Try.func54 (by kernel_rfl) rfl #[.slice Al L.length cl] (by rfl) rfl rfl (by simp only [List.map_toArray, List.map_cons, List.map_nil]; rfl) ?_
                with_reducible refine (shunterref03_Bytes.calls 200000 Al cl L bs wb HCL.out clh HBY.out).mono ?_
                rintro e wc ⟨vc, rfl, hoc, hbc0⟩
                refine ⟨_, rfl, ?_⟩
                obtain ⟨Ac, cc, rfl, hcc, hCc⟩ := Kd.R_reads hoc
                have hbc := Aside0.mk hbc0
                have SD := Aside0.mk (Kd.C_string (P := Try.prog) (src := 22) (dst := 9) (c := cc) Try.underlying22 Try.underlying5 Try.underlying9 hCc)
                clear hoc hbc0 hCc
                refine hK.out _ _ trivial (fun hHeld => ?_)
                clear hK K
                refine norm_ (a' := ?_) ?_ ?_
                rotate_left
                · show Act.put _ (some 84) _ = _
                  simp only [Act.put, List.setIfInBounds_toArray, List.set_cons_zero, List.set_cons_succ, i64_w, i32_w]
                  rfl
                refine one_ (i := 14) (N := some 85) #[true, true, true, true, true, true, true, true, true, true, true, true, true, true, true, false, false] rfl rfl (by kernel_rfl) (by decide) (fun K hK => ?_)
                have sd := SD.out
                refine value_ (w1 := ?_) (v := ?_) (by rfl) rfl ?_ ?_
                rotate_left 2
                · go_simp
                  constructor
                  · rfl
                  · rfl
                refine hK.out _ _ trivial (fun hHeld => ?_)
                clear hK K
                refine norm_ (a' := ?_) ?_ ?_
                rotate_left
                · show Act.put _ (some 85) _ = _
                  simp only [Act.put, List.setIfInBounds_toArray, List.set_cons_zero, List.set_cons_succ, i64_w, i32_w]
                  rfl
                exact norm_ (by simp only [putAll, Act.put, List.setIfInBounds_toArray, List.set_cons_zero, List.set_cons_succ]) (hCont (.slice Ac bs.length cc) _ hbc.out)
              · skip
                refine goes_ Try.func54 (by kernel_rfl) rfl #[.slice Al L.length cl] (by rfl) rfl rfl (by simp only [List.map_toArray, List.map_cons, List.map_nil]; rfl) ?_
                with_reducible refine (shunterref03_Bytes.calls 200000 Al cl L bs wb HCL.out clh HBY.out).mono ?_
                rintro e wc ⟨vc, rfl, hoc, hbc0⟩
                refine ⟨_, rfl, ?_⟩
                obtain ⟨Ac, cc, rfl, hcc, hCc⟩ := Kd.R_reads hoc
                have hbc := Aside0.mk hbc0
                have SD := Aside0.mk (Kd.C_string (P := Try.prog) (src := 22) (dst := 9) (c := cc) Try.underlying22 Try.underlying5 Try.underlying9 hCc)
                clear hoc hbc0 hCc
                refine hK.out _ _ trivial (fun hHeld => ?_)
                clear hK K
                refine norm_ (a' := ?_) ?_ ?_
                rotate_left
                · show Act.put _ (some 84) _ = _
                  simp only [Act.put, List.setIfInBounds_toArray, List.set_cons_zero, List.set_cons_succ, i64_w, i32_w]
                  rfl
                refine two_ (i := 11) (j := 14) (Ni := some 82) (Nj := some 85) #[true, true, true, true, true, true, true, true, true, true, true, true, true, true, false, false, false] #[true, true, true, true, true, true, true, true, true, true, true, false, true, true, true, false, false] rfl rfl rfl rfl (by kernel_rfl) (by decide) (by decide) (fun K hK => ?_) (fun K hK => ?_)
                · skip
                  have sc := SC.out wc hbc.out
                  refine value_ (w1 := ?_) (v := ?_) (by rfl) rfl ?_ ?_
                  rotate_left 2
                  · go_simp
                    constructor
                    · rfl
                    · rfl
                  refine hK.out _ _ trivial (fun hHeld => ?_)
                  clear hK K
                  refine norm_ (a' := ?_) ?_ ?_
                  rotate_left
                  · show Act.put _ (some 82) _ = _
                    simp only [Act.put, List.setIfInBounds_toArray, List.set_cons_zero, List.set_cons_succ, i64_w, i32_w]
                    rfl
                  refine one_ (i := 14) (N := some 85) #[true, true, true, true, true, true, true, true, true, true, true, true, true, true, true, false, false] rfl rfl (by kernel_rfl) (by decide) (fun K hK => ?_)
                  have sd := SD.out
                  refine value_ (w1 := ?_) (v := ?_) (by rfl) rfl ?_ ?_
                  rotate_left 2
                  · go_simp
                    constructor
                    · rfl
                    · rfl
                  refine hK.out _ _ trivial (fun hHeld => ?_)
                  clear hK K
                  refine norm_ (a' := ?_) ?_ ?_
                  rotate_left
                  · show Act.put _ (some 85) _ = _
                    simp only [Act.put, List.setIfInBounds_toArray, List.set_cons_zero, List.set_cons_succ, i64_w, i32_w]
                    rfl
                  exact norm_ (by simp only [putAll, Act.put, List.setIfInBounds_toArray, List.set_cons_zero, List.set_cons_succ]) (hCont (.slice Ac bs.length cc) _ hbc.out)
                · skip
                  have sd := SD.out
                  refine value_ (w1 := ?_) (v := ?_) (by rfl) rfl ?_ ?_
                  rotate_left 2
                  · go_simp
                    constructor
                    · rfl
                    · rfl
                  refine hK.out _ _ trivial (fun hHeld => ?_)
                  clear hK K
                  refine norm_ (a' := ?_) ?_ ?_
                  rotate_left
                  · show Act.put _ (some 85) _ = _
                    simp only [Act.put, List.setIfInBounds_toArray, List.set_cons_zero, List.set_cons_succ, i64_w, i32_w]
                    rfl
                  refine one_ (i := 11) (N := some 82) #[true, true, true, true, true, true, true, true, true, true, true, true, true, true, true, false, false] rfl rfl (by kernel_rfl) (by decide) (fun K hK => ?_)
                  have sc := SC.out wc hbc.out
                  refine value_ (w1 := ?_) (v := ?_) (by rfl) rfl ?_ ?_
                  rotate_left 2
                  · go_simp
                    constructor
                    · rfl
                    · rfl
                  refine hK.out _ _ trivial (fun hHeld => ?_)
                  clear hK K
                  refine norm_ (a' := ?_) ?_ ?_
                  rotate_left
                  · show Act.put _ (some 82) _ = _
                    simp only [Act.put, List.setIfInBounds_toArray, List.set_cons_zero, List.set_cons_succ, i64_w, i32_w]
                    rfl
                  exact norm_ (by simp only [putAll, Act.put, List.setIfInBounds_toArray, List.set_cons_zero, List.set_cons_succ]) (hCont (.slice Ac bs.length cc) _ hbc.out)
            rintro sv wz hz
            have hHeld : True := trivial
            refine norm_ (a' := ?_) ?_ ?_
            rotate_left
            · simp only [putAll, Act.put, List.setIfInBounds_toArray, List.set_cons_zero, List.set_cons_succ]
              rfl
            refine pure_ (i := 15) (N := some 86) (v := ?_) (a' := ?_) #[true, true, true, true, true, true, true, true, true, true, true, true, true, true, true, true, false] rfl rfl (by kernel_rfl) (fun _ _ _ h => h) (Or.inl ⟨by rfl, ?_⟩) ?_ ?_
            rotate_left
            · intro w'
              go_simp
              with_reducible rfl
            rotate_left
            · simp only [Act.put, List.setIfInBounds_toArray, List.set_cons_zero, List.set_cons_succ, i64_w, i32_w]
              rfl
            refine pure_ (i := 16) (N := some 87) (v := ?_) (a' := ?_) #[true, true, true, true, true, true, true, true, true, true, true, true, true, true, true, true, true] rfl rfl (by kernel_rfl) (fun _ _ _ h => h) (Or.inl ⟨by rfl, ?_⟩) ?_ ?_
            rotate_left
            · intro w'
              go_simp
              with_reducible rfl
            rotate_left
            · simp only [Act.put, List.setIfInBounds_toArray, List.set_cons_zero, List.set_cons_succ, i64_w, i32_w]
              rfl
            refine done_ (by kernel_rfl) ?_
            go_wp2
            go_roundw
            case measure => simp [intOf]; omega
            case rel => exact ⟨i + 1, v, bs, L, Al, cl, hlt, hle, rfl, by go_num, HREP, ⟨HWB.out.step hz⟩⟩
        · have kk1 : (x.f0 == 1) = false := by simp [k1]
          obtain ⟨⟨g1, g2, g3, g4⟩, hx3⟩ := hx
          have hX := valW_lt g1 g2 g3 g4
          by_cases hm : vmay x.f2.f0 (valW x.f2.f1 x.f2.f2) = true
          · have hm2 : 1 ≤ x.f2.f0 ∧ x.f2.f0 ≤ 128 ∧ valW x.f2.f1 x.f2.f2 < 2 ^ x.f2.f0.toNat := of_decide_eq_true hm
            have hM := ref02_May_eq x.f2.f0 (valW x.f2.f1 x.f2.f2) hX
            rw [hm, hiW_valW g1 g2 g3 g4, loW_valW g3 g4] at hM
            have HM := Aside0.mk hM
            have hO := vbits_of x.f2.f0 (valW x.f2.f1 x.f2.f2) hX hm
            rw [hiW_valW g1 g2 g3 g4, loW_valW g3 g4] at hO
            have HO := Aside0.mk hO
            have h49 := Row_Add_rep w wr w.heap.size v bs L x.f2.f0 (valW x.f2.f1 x.f2.f2) hX HB.out.rk HR.out hm (by omega)
            rw [hiW_valW g1 g2 g3 g4, loW_valW g3 g4] at h49
            have H49 := Aside0.mk h49
            have HLL := Aside0.mk (vbits_len x.f2.f0 (valW x.f2.f1 x.f2.f2))
            clear h49 hM hO
            generalize vbits x.f2.f0 (valW x.f2.f1 x.f2.f2) = ys at *
            go_wp2_with (first | (go_at_call 49; with_reducible refine H49.out.mono ?_; rintro e w1 ⟨rfl, v1, bs1, hP, hR1⟩; have HREP := Aside0.mk hR1; have H1 := Aside0.mk (HB.out.row hP); have r2 := (hP.rk.below.cell (World.block_lt_of_cell? w _ p2)).trans p2; have r3 := (hP.rk.below.cell (World.block_lt_of_cell? w _ p3)).trans p3; have r4 := (hP.rk.below.cell (World.block_lt_of_cell? w _ p4)).trans p4; clear hP hR1) | (go_at_call 50; with_reducible refine (shunterref02_May.calls _ _ _ _ _ HM.out).mono ?_; rintro e w2 ⟨rfl, hb⟩; have H2 := Aside0.mk (H1.out.step hb); have s2 := (H2.out.rk.below.cell (World.block_lt_of_cell? w _ p2)).trans p2; have s3 := (H2.out.rk.below.cell (World.block_lt_of_cell? w _ p3)).trans p3; have s4 := (H2.out.rk.below.cell (World.block_lt_of_cell? w _ p4)).trans p4; clear hb) | (go_at_call 51; with_reducible refine (shunterref03_Of.calls 200 _ _ _ _ _ HO.out).mono ?_; rintro e w3 ⟨v3, rfl, ho, hb⟩; obtain ⟨Ab, cb, rfl, cbh, hCb⟩ := Kd.R_reads ho; have H3 := Aside0.mk (H2.out.step hb); have HCB := Aside0.mk hCb; clear ho hb hCb) | ((with_reducible refine gate_builtin (b := .append) (xs := #[.tmp 63, .tmp 69]) rfl ?_); at_builtin; refine Kd.R_append_row (Value.bool) false (h1 := fun _ => rfl) (w0 := w) w.heap.size rfl (.tmp 63) (.tmp 69) 54 4 (.bool false) 1 rfl Try.underlying54 info4 rfl (by decide) (.slice Al L.length cl) L ys Ab ys.length cb (fun k => k ≠ w.heap.size) rfl rfl ?aF H3.out.lr ?aR H3.out.rk.below ?aS ?aL ?_; (case aR => exact HCB.out); (case aF => intro k hk; have := H3.out.rk.lt; omega); (case aS => exact below_size H3.out.rk.below); (case aL => have := HLL.out; omega); intro v5 w5 ho hb hg hat; obtain ⟨Al1, cl1, rfl, cl1h, _⟩ := Kd.R_reads ho; have HW := Aside0.mk (H3.out.app ho hb hg); clear ho hb hg hat))
            obtain ⟨L1, hL1⟩ : ∃ L1, L1 = L ++ ys := ⟨_, rfl⟩
            have hl1 : L1.length = L.length + ys.length := by rw [hL1, List.length_append]
            have hle : L1.length ≤ 1600 * (i + 1) := by have := HLL.out; omega
            rw [← hL1] at HREP HW cl1h
            rw [← hl1]
            have hhi1 := HREP.out.hi
            have hbl : bs1.length ≤ 10000 := by omega
            clear hL1 hl1 H1 H2 H3 HCB HO HM HLL H49 HB HR hhi hlo
            have HBY := Aside0.mk (Bytes_rep HREP.out hbl)
            have hb47 : bs1.length < 140737488355328 := by omega
            refine start_ (n := 17) (S := fun w' => True) (ds := []) #[false, false, false, false, false, false, false, false, false, false, false, false, false, false, false, false, false] (by kernel_rfl) rfl rfl trivial (fun hHeld => ?_)
            refine pure_ (i := 0) (N := some 71) (v := ?_) (a' := ?_) #[true, false, false, false, false, false, false, false, false, false, false, false, false, false, false, false, false] rfl rfl (by kernel_rfl) (fun _ _ _ h => h) (Or.inl ⟨by rfl, ?_⟩) ?_ ?_
            rotate_left
            · intro w'
              go_simp
              with_reducible rfl
            rotate_left
            · simp only [Act.put, List.setIfInBounds_toArray, List.set_cons_zero, List.set_cons_succ, i64_w, i32_w]
              rfl
            refine pure_ (i := 1) (N := some 72) (v := ?_) (a' := ?_) #[true, true, false, false, false, false, false, false, false, false, false, false, false, false, false, false, false] rfl rfl (by kernel_rfl) (fun _ _ _ h => h) (Or.inl ⟨by rfl, ?_⟩) ?_ ?_
            rotate_left
            · intro w'
              go_simp
              with_reducible rfl
            rotate_left
            · simp only [Act.put, List.setIfInBounds_toArray, List.set_cons_zero, List.set_cons_succ, i64_w, i32_w]
              rfl
            refine pure_ (i := 2) (N := some 73) (v := ?_) (a' := ?_) #[true, true, true, false, false, false, false, false, false, false, false, false, false, false, false, false, false] rfl rfl (by kernel_rfl) (fun _ _ _ h => h) (Or.inl ⟨by rfl, ?_⟩) ?_ ?_
            rotate_left
            · intro w'
              go_simp
              with_reducible rfl
            rotate_left
            · simp only [Act.put, List.setIfInBounds_toArray, List.set_cons_zero, List.set_cons_succ, i64_w, i32_w]
              rfl
            refine pure_ (i := 3) (N := some 74) (v := ?_) (a' := ?_) #[true, true, true, true, false, false, false, false, false, false, false, false, false, false, false, false, false] rfl rfl (by kernel_rfl) (fun _ _ _ h => h) (Or.inl ⟨by rfl, ?_⟩) ?_ ?_
            rotate_left
            · intro w'
              go_simp
              with_reducible rfl
            rotate_left
            · simp only [Act.put, List.setIfInBounds_toArray, List.set_cons_zero, List.set_cons_succ, i64_w, i32_w]
              rfl
            refine pure_ (i := 5) (N := some 76) (v := ?_) (a' := ?_) #[true, true, true, true, false, true, false, false, false, false, false, false, false, false, false, false, false] rfl rfl (by kernel_rfl) (fun _ _ _ h => h) (Or.inl ⟨by rfl, ?_⟩) ?_ ?_
            rotate_left
            · intro w'
              go_simp
              with_reducible rfl
            rotate_left
            · simp only [Act.put, List.setIfInBounds_toArray, List.set_cons_zero, List.set_cons_succ, i64_w, i32_w]
              rfl
            refine pure_ (i := 6) (N := some 77) (v := ?_) (a' := ?_) #[true, true, true, true, false, true, true, false, false, false, false, false, false, false, false, false, false] rfl rfl (by kernel_rfl) (fun _ _ _ h => h) (Or.inl ⟨by rfl, ?_⟩) ?_ ?_
            rotate_left
            · intro w'
              go_simp
              with_reducible rfl
            rotate_left
            · simp only [Act.put, List.setIfInBounds_toArray, List.set_cons_zero, List.set_cons_succ, i64_w, i32_w]
              rfl
            refine one_ (i := 4) (N := some 75) #[true, true, true, true, true, true, true, false, false, false, false, false, false, false, false, false, false] rfl rfl (by kernel_rfl) (by decide) (fun K hK => ?_)
            refine goes_ Try.func52 (by kernel_rfl) rfl #[.pointer (some ⟨w.heap.size, 0, none⟩)] (by rfl) rfl rfl (by simp only [List.map_toArray, List.map_cons, List.map_nil]; rfl) ?_
            with_reducible refine (Row_Len_calls w _ w.heap.size v1 bs1 L1.length (HW.out.step (below_drew1 (Below.refl _ _))).rk).mono ?_
            rintro e wa ⟨rfl, ⟨na, rfl⟩⟩
            refine ⟨_, rfl, ?_⟩
            refine hK.out _ _ trivial (fun hHeld => ?_)
            clear hK K
            refine norm_ (a' := ?_) ?_ ?_
            rotate_left
            · show Act.put _ (some 75) _ = _
              simp only [Act.put, List.setIfInBounds_toArray, List.set_cons_zero, List.set_cons_succ, i64_w, i32_w]
              rfl
            refine pure_ (i := 7) (N := some 78) (v := ?_) (a' := ?_) #[true, true, true, true, true, true, true, true, false, false, false, false, false, false, false, false, false] rfl rfl (by kernel_rfl) (fun _ _ _ h => h) (Or.inl ⟨by rfl, ?_⟩) ?_ ?_
            rotate_left
            · intro w'
              go_simp
              with_reducible rfl
            rotate_left
            · simp only [Act.put, List.setIfInBounds_toArray, List.set_cons_zero, List.set_cons_succ, i64_w, i32_w]
              rfl
            refine pure_ (i := 8) (N := some 79) (v := ?_) (a' := ?_) #[true, true, true, true, true, true, true, true, true, false, false, false, false, false, false, false, false] rfl rfl (by kernel_rfl) (fun _ _ _ h => h) (Or.inl ⟨by rfl, ?_⟩) ?_ ?_
            rotate_left
            · intro w'
              go_simp
              with_reducible rfl
            rotate_left
            · simp only [Act.put, List.setIfInBounds_toArray, List.set_cons_zero, List.set_cons_succ, i64_w, i32_w]
              rfl
            refine pure_ (i := 9) (N := some 80) (v := ?_) (a' := ?_) #[true, true, true, true, true, true, true, true, true, true, false, false, false, false, false, false, false] rfl rfl (by kernel_rfl) (fun _ _ _ h => h) (Or.inl ⟨by rfl, ?_⟩) ?_ ?_
            rotate_left
            · intro w'
              go_simp
              with_reducible rfl
            rotate_left
            · simp only [Act.put, List.setIfInBounds_toArray, List.set_cons_zero, List.set_cons_succ, i64_w, i32_w]
              rfl
            refine pure_ (i := 12) (N := some 83) (v := ?_) (a' := ?_) #[true, true, true, true, true, true, true, true, true, true, false, false, true, false, false, false, false] rfl rfl (by kernel_rfl) (fun _ _ _ h => h) (Or.inl ⟨by rfl, ?_⟩) ?_ ?_
            rotate_left
            · intro w'
              go_simp
              with_reducible rfl
            rotate_left
            · simp only [Act.put, List.setIfInBounds_toArray, List.set_cons_zero, List.set_cons_succ, i64_w, i32_w]
              rfl
            refine one_ (i := 10) (N := some 81) #[true, true, true, true, true, true, true, true, true, true, true, false, true, false, false, false, false] rfl rfl (by kernel_rfl) (by decide) (fun K hK => ?_)
            refine goes_ Try.func53 (by kernel_rfl) rfl #[.pointer (some ⟨w.heap.size, 0, none⟩)] (by rfl) rfl rfl (by simp only [List.map_toArray, List.map_cons, List.map_nil]; rfl) ?_
            with_reducible refine (Row_All_calls w _ w.heap.size v1 bs1 L1.length ((HW.out.step (below_drew1 (Below.refl _ _))).step (pw_below_drewN (Below.refl _ _) na)).rk hb47).mono ?_
            rintro e wb ⟨vv, rfl, hob, hbb⟩
            refine ⟨_, rfl, ?_⟩
            obtain ⟨Av, cv, rfl, hcv, hCv⟩ := Kd.R_reads hob
            have HWB := Aside0.mk (((HW.out.step (below_drew1 (Below.refl _ _))).step (pw_below_drewN (Below.refl _ _) na)).step hbb)
            have HCL := Aside0.mk (Kd.R_reads' HWB.out.lr).2.2
            have SC := Aside0.mk (fun W' (hb : Below wb.heap.size wb W') => Kd.C_string (P := Try.prog) (src := 22) (dst := 9) (c := cv) Try.underlying22 Try.underlying5 Try.underlying9 (Kd.C_below hCv hb))
            clear hob hbb hCv
            refine hK.out _ _ trivial (fun hHeld => ?_)
            clear hK K
            refine norm_ (a' := ?_) ?_ ?_
            rotate_left
            · show Act.put _ (some 81) _ = _
              simp only [Act.put, List.setIfInBounds_toArray, List.set_cons_zero, List.set_cons_succ, i64_w, i32_w]
              rfl
            refine join_ (σ := Value) 2 #[true, true, true, true, true, true, true, true, true, true, true, true, true, true, true, false, false] (fun s => [(82, .string (strOfNums bs1)), (84, s), (85, .string (strOfNums bs1))]) (fun s w' => Below wb.heap.size wb w') ?_ ?_
            rotate_left
            · intro hCont
              refine two_ (i := 11) (j := 13) (Ni := some 82) (Nj := some 84) #[true, true, true, true, true, true, true, true, true, true, true, true, true, false, false, false, false] #[true, true, true, true, true, true, true, true, true, true, true, false, true, true, false, false, false] rfl rfl rfl rfl (by kernel_rfl) (by decide) (by decide) (fun K hK => ?_) (fun K hK => ?_)
              · skip
                have sc := SC.out wb (Below.refl _ _)
                refine value_ (w1 := ?_) (v := ?_) (by rfl) rfl ?_ ?_
                rotate_left 2
                · go_simp
                  constructor
                  · rfl
                  · rfl
                refine hK.out _ _ trivial (fun hHeld => ?_)
                clear hK K
                refine norm_ (a' := ?_) ?_ ?_
                rotate_left
                · show Act.put _ (some 82) _ = _
                  simp only [Act.put, List.setIfInBounds_toArray, List.set_cons_zero, List.set_cons_succ, i64_w, i32_w]
                  rfl
                refine one_ (i := 13) (N := some 84) #[true, true, true, true, true, true, true, true, true, true, true, true, true, true, false, false, false] rfl rfl (by kernel_rfl) (by decide) (fun K hK => ?_)
                refine goes_ Try.func54 (by kernel_rfl) rfl #[.slice Al1 L1.length cl1] (by rfl) rfl rfl (by simp only [List.map_toArray, List.map_cons, List.map_nil]; rfl) ?_
                with_reducible refine (shunterref03_Bytes.calls 200000 Al1 cl1 L1 bs1 wb HCL.out cl1h HBY.out).mono ?_
                rintro e wc ⟨vc, rfl, hoc, hbc0⟩
                refine ⟨_, rfl, ?_⟩
                obtain ⟨Ac, cc, rfl, hcc, hCc⟩ := Kd.R_reads hoc
                have hbc := Aside0.mk hbc0
                have SD := Aside0.mk (Kd.C_string (P := Try.prog) (src := 22) (dst := 9) (c := cc) Try.underlying22 Try.underlying5 Try.underlying9 hCc)
                clear hoc hbc0 hCc
                refine hK.out _ _ trivial (fun hHeld => ?_)
                clear hK K
                refine norm_ (a' := ?_) ?_ ?_
                rotate_left
                · show Act.put _ (some 84) _ = _
                  simp only [Act.put, List.setIfInBounds_toArray, List.set_cons_zero, List.set_cons_succ, i64_w, i32_w]
                  rfl
                refine one_ (i := 14) (N := some 85) #[true, true, true, true, true, true, true, true, true, true, true, true, true, true, true, false, false] rfl rfl (by kernel_rfl) (by decide) (fun K hK => ?_)
                have sd := SD.out
                refine value_ (w1 := ?_) (v := ?_) (by rfl) rfl ?_ ?_
                rotate_left 2
                · go_simp
                  constructor
                  · rfl
                  · rfl
                refine hK.out _ _ trivial (fun hHeld => ?_)
                clear hK K
                refine norm_ (a' := ?_) ?_ ?_
                rotate_left
                · show Act.put _ (some 85) _ = _
                  simp only [Act.put, List.setIfInBounds_toArray, List.set_cons_zero, List.set_cons_succ, i64_w, i32_w]
                  rfl
                exact norm_ (by simp only [putAll, Act.put, List.setIfInBounds_toArray, List.set_cons_zero, List.set_cons_succ]) (hCont (.slice Ac bs1.length cc) _ hbc.out)
              · skip
                refine goes_ Try.func54 (by kernel_rfl) rfl #[.slice Al1 L1.length cl1] (by rfl) rfl rfl (by simp only [List.map_toArray, List.map_cons, List.map_nil]; rfl) ?_
                with_reducible refine (shunterref03_Bytes.calls 200000 Al1 cl1 L1 bs1 wb HCL.out cl1h HBY.out).mono ?_
                rintro e wc ⟨vc, rfl, hoc, hbc0⟩
                refine ⟨_, rfl, ?_⟩
                obtain ⟨Ac, cc, rfl, hcc, hCc⟩ := Kd.R_reads hoc
                have hbc := Aside0.mk hbc0
                have SD := Aside0.mk (Kd.C_string (P := Try.prog) (src := 22) (dst := 9) (c := cc) Try.underlying22 Try.underlying5 Try.underlying9 hCc)
                clear hoc hbc0 hCc
                refine hK.out _ _ trivial (fun hHeld => ?_)
                clear hK K
                refine norm_ (a' := ?_) ?_ ?_
                rotate_left
                · show Act.put _ (some 84) _ = _
                  simp only [Act.put, List.setIfInBounds_toArray, List.set_cons_zero, List.set_cons_succ, i64_w, i32_w]
                  rfl
                refine two_ (i := 11) (j := 14) (Ni := some 82) (Nj := some 85) #[true, true, true, true, true, true, true, true, true, true, true, true, true, true, false, false, false] #[true, true, true, true, true, true, true, true, true, true, true, false, true, true, true, false, false] rfl rfl rfl rfl (by kernel_rfl) (by decide) (by decide) (fun K hK => ?_) (fun K hK => ?_)
                · skip
                  have sc := SC.out wc hbc.out
                  refine value_ (w1 := ?_) (v := ?_) (by rfl) rfl ?_ ?_
                  rotate_left 2
                  · go_simp
                    constructor
                    · rfl
                    · rfl
                  refine hK.out _ _ trivial (fun hHeld => ?_)
                  clear hK K
                  refine norm_ (a' := ?_) ?_ ?_
                  rotate_left
                  · show Act.put _ (some 82) _ = _
                    simp only [Act.put, List.setIfInBounds_toArray, List.set_cons_zero, List.set_cons_succ, i64_w, i32_w]
                    rfl
                  refine one_ (i := 14) (N := some 85) #[true, true, true, true, true, true, true, true, true, true, true, true, true, true, true, false, false] rfl rfl (by kernel_rfl) (by decide) (fun K hK => ?_)
                  have sd := SD.out
                  refine value_ (w1 := ?_) (v := ?_) (by rfl) rfl ?_ ?_
                  rotate_left 2
                  · go_simp
                    constructor
                    · rfl
                    · rfl
                  refine hK.out _ _ trivial (fun hHeld => ?_)
                  clear hK K
                  refine norm_ (a' := ?_) ?_ ?_
                  rotate_left
                  · show Act.put _ (some 85) _ = _
                    simp only [Act.put, List.setIfInBounds_toArray, List.set_cons_zero, List.set_cons_succ, i64_w, i32_w]
                    rfl
                  exact norm_ (by simp only [putAll, Act.put, List.setIfInBounds_toArray, List.set_cons_zero, List.set_cons_succ]) (hCont (.slice Ac bs1.length cc) _ hbc.out)
                · skip
                  have sd := SD.out
                  refine value_ (w1 := ?_) (v := ?_) (by rfl) rfl ?_ ?_
                  rotate_left 2
                  · go_simp
                    constructor
                    · rfl
                    · rfl
                  refine hK.out _ _ trivial (fun hHeld => ?_)
                  clear hK K
                  refine norm_ (a' := ?_) ?_ ?_
                  rotate_left
                  · show Act.put _ (some 85) _ = _
                    simp only [Act.put, List.setIfInBounds_toArray, List.set_cons_zero, List.set_cons_succ, i64_w, i32_w]
                    rfl
                  refine one_ (i := 11) (N := some 82) #[true, true, true, true, true, true, true, true, true, true, true, true, true, true, true, false, false] rfl rfl (by kernel_rfl) (by decide) (fun K hK => ?_)
                  have sc := SC.out wc hbc.out
                  refine value_ (w1 := ?_) (v := ?_) (by rfl) rfl ?_ ?_
                  rotate_left 2
                  · go_simp
                    constructor
                    · rfl
                    · rfl
                  refine hK.out _ _ trivial (fun hHeld => ?_)
                  clear hK K
                  refine norm_ (a' := ?_) ?_ ?_
                  rotate_left
                  · show Act.put _ (some 82) _ = _
                    simp only [Act.put, List.setIfInBounds_toArray, List.set_cons_zero, List.set_cons_succ, i64_w, i32_w]
                    rfl
                  exact norm_ (by simp only [putAll, Act.put, List.setIfInBounds_toArray, List.set_cons_zero, List.set_cons_succ]) (hCont (.slice Ac bs1.length cc) _ hbc.out)
            rintro sv wz hz
            have hHeld : True := trivial
            refine norm_ (a' := ?_) ?_ ?_
            rotate_left
            · simp only [putAll, Act.put, List.setIfInBounds_toArray, List.set_cons_zero, List.set_cons_succ]
              rfl
            refine pure_ (i := 15) (N := some 86) (v := ?_) (a' := ?_) #[true, true, true, true, true, true, true, true, true, true, true, true, true, true, true, true, false] rfl rfl (by kernel_rfl) (fun _ _ _ h => h) (Or.inl ⟨by rfl, ?_⟩) ?_ ?_
            rotate_left
            · intro w'
              go_simp
              with_reducible rfl
            rotate_left
            · simp only [Act.put, List.setIfInBounds_toArray, List.set_cons_zero, List.set_cons_succ, i64_w, i32_w]
              rfl
            refine pure_ (i := 16) (N := some 87) (v := ?_) (a' := ?_) #[true, true, true, true, true, true, true, true, true, true, true, true, true, true, true, true, true] rfl rfl (by kernel_rfl) (fun _ _ _ h => h) (Or.inl ⟨by rfl, ?_⟩) ?_ ?_
            rotate_left
            · intro w'
              go_simp
              with_reducible rfl
            rotate_left
            · simp only [Act.put, List.setIfInBounds_toArray, List.set_cons_zero, List.set_cons_succ, i64_w, i32_w]
              rfl
            refine done_ (by kernel_rfl) ?_
            go_wp2
            go_roundw
            case measure => simp [intOf]; omega
            case rel => exact ⟨i + 1, v1, bs1, L1, Al1, cl1, hlt, hle, rfl, by go_num, HREP, ⟨HWB.out.step hz⟩⟩
          · have hm2 : vmay x.f2.f0 (valW x.f2.f1 x.f2.f2) = false := by simpa using hm
            have hM := ref02_May_eq x.f2.f0 (valW x.f2.f1 x.f2.f2) hX
            rw [hm2, hiW_valW g1 g2 g3 g4, loW_valW g3 g4] at hM
            have HM := Aside0.mk hM
            have hV := vec_May_eq x.f2.f0 (valW x.f2.f1 x.f2.f2) hX
            rw [hm2, hiW_valW g1 g2 g3 g4, loW_valW g3 g4] at hV
            have HVM := Aside0.mk hV
            have hle : L.length ≤ 1600 * (i + 1) := by omega
            have hbl : bs.length ≤ 10000 := by omega
            have HREP := HR
            clear hM hV
            go_wp2_with (first | (go_at_call 49; with_reducible refine (Row_Add_may w.heap.size x.f2.f0 x.f2.f1 x.f2.f2 _ HVM.out).mono ?_; rintro e w1 ⟨rfl, hb⟩; have H1 := Aside0.mk (HB.out.step hb); have r2 := (H1.out.rk.below.cell (World.block_lt_of_cell? w _ p2)).trans p2; have r3 := (H1.out.rk.below.cell (World.block_lt_of_cell? w _ p3)).trans p3; have r4 := (H1.out.rk.below.cell (World.block_lt_of_cell? w _ p4)).trans p4; clear hb) | (go_at_call 50; with_reducible refine (shunterref02_May.calls _ _ _ _ _ HM.out).mono ?_; rintro e w2 ⟨rfl, hb⟩; have HW := Aside0.mk (H1.out.step hb); clear hb))
            clear HB HR H1 hhi hlo
            have HBY := Aside0.mk (Bytes_rep HREP.out hbl)
            have hb47 : bs.length < 140737488355328 := by omega
            refine start_ (n := 17) (S := fun w' => True) (ds := []) #[false, false, false, false, false, false, false, false, false, false, false, false, false, false, false, false, false] (by kernel_rfl) rfl rfl trivial (fun hHeld => ?_)
            refine pure_ (i := 0) (N := some 71) (v := ?_) (a' := ?_) #[true, false, false, false, false, false, false, false, false, false, false, false, false, false, false, false, false] rfl rfl (by kernel_rfl) (fun _ _ _ h => h) (Or.inl ⟨by rfl, ?_⟩) ?_ ?_
            rotate_left
            · intro w'
              go_simp
              with_reducible rfl
            rotate_left
            · simp only [Act.put, List.setIfInBounds_toArray, List.set_cons_zero, List.set_cons_succ, i64_w, i32_w]
              rfl
            refine pure_ (i := 1) (N := some 72) (v := ?_) (a' := ?_) #[true, true, false, false, false, false, false, false, false, false, false, false, false, false, false, false, false] rfl rfl (by kernel_rfl) (fun _ _ _ h => h) (Or.inl ⟨by rfl, ?_⟩) ?_ ?_
            rotate_left
            · intro w'
              go_simp
              with_reducible rfl
            rotate_left
            · simp only [Act.put, List.setIfInBounds_toArray, List.set_cons_zero, List.set_cons_succ, i64_w, i32_w]
              rfl
            refine pure_ (i := 2) (N := some 73) (v := ?_) (a' := ?_) #[true, true, true, false, false, false, false, false, false, false, false, false, false, false, false, false, false] rfl rfl (by kernel_rfl) (fun _ _ _ h => h) (Or.inl ⟨by rfl, ?_⟩) ?_ ?_
            rotate_left
            · intro w'
              go_simp
              with_reducible rfl
            rotate_left
            · simp only [Act.put, List.setIfInBounds_toArray, List.set_cons_zero, List.set_cons_succ, i64_w, i32_w]
              rfl
            refine pure_ (i := 3) (N := some 74) (v := ?_) (a' := ?_) #[true, true, true, true, false, false, false, false, false, false, false, false, false, false, false, false, false] rfl rfl (by kernel_rfl) (fun _ _ _ h => h) (Or.inl ⟨by rfl, ?_⟩) ?_ ?_
            rotate_left
            · intro w'
              go_simp
              with_reducible rfl
            rotate_left
            · simp only [Act.put, List.setIfInBounds_toArray, List.set_cons_zero, List.set_cons_succ, i64_w, i32_w]
              rfl
            refine pure_ (i := 5) (N := some 76) (v := ?_) (a' := ?_) #[true, true, true, true, false, true, false, false, false, false, false, false, false, false, false, false, false] rfl rfl (by kernel_rfl) (fun _ _ _ h => h) (Or.inl ⟨by rfl, ?_⟩) ?_ ?_
            rotate_left
            · intro w'
              go_simp
              with_reducible rfl
            rotate_left
            · simp only [Act.put, List.setIfInBounds_toArray, List.set_cons_zero, List.set_cons_succ, i64_w, i32_w]
              rfl
            refine pure_ (i := 6) (N := some 77) (v := ?_) (a' := ?_) #[true, true, true, true, false, true, true, false, false, false, false, false, false, false, false, false, false] rfl rfl (by kernel_rfl) (fun _ _ _ h => h) (Or.inl ⟨by rfl, ?_⟩) ?_ ?_
            rotate_left
            · intro w'
              go_simp
              with_reducible rfl
            rotate_left
            · simp only [Act.put, List.setIfInBounds_toArray, List.set_cons_zero, List.set_cons_succ, i64_w, i32_w]
              rfl
            refine one_ (i := 4) (N := some 75) #[true, true, true, true, true, true, true, false, false, false, false, false, false, false, false, false, false] rfl rfl (by kernel_rfl) (by decide) (fun K hK => ?_)
            refine goes_ Try.func52 (by kernel_rfl) rfl #[.pointer (some ⟨w.heap.size, 0, none⟩)] (by rfl) rfl rfl (by simp only [List.map_toArray, List.map_cons, List.map_nil]; rfl) ?_
            with_reducible refine (Row_Len_calls w _ w.heap.size v bs L.length (HW.out.step (below_drew1 (Below.refl _ _))).rk).mono ?_
            rintro e wa ⟨rfl, ⟨na, rfl⟩⟩
            refine ⟨_, rfl, ?_⟩
            refine hK.out _ _ trivial (fun hHeld => ?_)
            clear hK K
            refine norm_ (a' := ?_) ?_ ?_
            rotate_left
            · show Act.put _ (some 75) _ = _
              simp only [Act.put, List.setIfInBounds_toArray, List.set_cons_zero, List.set_cons_succ, i64_w, i32_w]
              rfl
            refine pure_ (i := 7) (N := some 78) (v := ?_) (a' := ?_) #[true, true, true, true, true, true, true, true, false, false, false, false, false, false, false, false, false] rfl rfl (by kernel_rfl) (fun _ _ _ h => h) (Or.inl ⟨by rfl, ?_⟩) ?_ ?_
            rotate_left
            · intro w'
              go_simp
              with_reducible rfl
            rotate_left
            · simp only [Act.put, List.setIfInBounds_toArray, List.set_cons_zero, List.set_cons_succ, i64_w, i32_w]
              rfl
            refine pure_ (i := 8) (N := some 79) (v := ?_) (a' := ?_) #[true, true, true, true, true, true, true, true, true, false, false, false, false, false, false, false, false] rfl rfl (by kernel_rfl) (fun _ _ _ h => h) (Or.inl ⟨by rfl, ?_⟩) ?_ ?_
            rotate_left
            · intro w'
              go_simp
              with_reducible rfl
            rotate_left
            · simp only [Act.put, List.setIfInBounds_toArray, List.set_cons_zero, List.set_cons_succ, i64_w, i32_w]
              rfl
            refine pure_ (i := 9) (N := some 80) (v := ?_) (a' := ?_) #[true, true, true, true, true, true, true, true, true, true, false, false, false, false, false, false, false] rfl rfl (by kernel_rfl) (fun _ _ _ h => h) (Or.inl ⟨by rfl, ?_⟩) ?_ ?_
            rotate_left
            · intro w'
              go_simp
              with_reducible rfl
            rotate_left
            · simp only [Act.put, List.setIfInBounds_toArray, List.set_cons_zero, List.set_cons_succ, i64_w, i32_w]
              rfl
            refine pure_ (i := 12) (N := some 83) (v := ?_) (a' := ?_) #[true, true, true, true, true, true, true, true, true, true, false, false, true, false, false, false, false] rfl rfl (by kernel_rfl) (fun _ _ _ h => h) (Or.inl ⟨by rfl, ?_⟩) ?_ ?_
            rotate_left
            · intro w'
              go_simp
              with_reducible rfl
            rotate_left
            · simp only [Act.put, List.setIfInBounds_toArray, List.set_cons_zero, List.set_cons_succ, i64_w, i32_w]
              rfl
            refine one_ (i := 10) (N := some 81) #[true, true, true, true, true, true, true, true, true, true, true, false, true, false, false, false, false] rfl rfl (by kernel_rfl) (by decide) (fun K hK => ?_)
            refine goes_ Try.func53 (by kernel_rfl) rfl #[.pointer (some ⟨w.heap.size, 0, none⟩)] (by rfl) rfl rfl (by simp only [List.map_toArray, List.map_cons, List.map_nil]; rfl) ?_
            with_reducible refine (Row_All_calls w _ w.heap.size v bs L.length ((HW.out.step (below_drew1 (Below.refl _ _))).step (pw_below_drewN (Below.refl _ _) na)).rk hb47).mono ?_
            rintro e wb ⟨vv, rfl, hob, hbb⟩
            refine ⟨_, rfl, ?_⟩
            obtain ⟨Av, cv, rfl, hcv, hCv⟩ := Kd.R_reads hob
            have HWB := Aside0.mk (((HW.out.step (below_drew1 (Below.refl _ _))).step (pw_below_drewN (Below.refl _ _) na)).step hbb)
            have HCL := Aside0.mk (Kd.R_reads' HWB.out.lr).2.2
            have SC := Aside0.mk (fun W' (hb : Below wb.heap.size wb W') => Kd.C_string (P := Try.prog) (src := 22) (dst := 9) (c := cv) Try.underlying22 Try.underlying5 Try.underlying9 (Kd.C_below hCv hb))
            clear hob hbb hCv
            refine hK.out _ _ trivial (fun hHeld => ?_)
            clear hK K
            refine norm_ (a' := ?_) ?_ ?_
            rotate_left
            · show Act.put _ (some 81) _ = _
              simp only [Act.put, List.setIfInBounds_toArray, List.set_cons_zero, List.set_cons_succ, i64_w, i32_w]
              rfl
            refine join_ (σ := Value) 2 #[true, true, true, true, true, true, true, true, true, true, true, true, true, true, true, false, false] (fun s => [(82, .string (strOfNums bs)), (84, s), (85, .string (strOfNums bs))]) (fun s w' => Below wb.heap.size wb w') ?_ ?_
            rotate_left
            · intro hCont
              refine two_ (i := 11) (j := 13) (Ni := some 82) (Nj := some 84) #[true, true, true, true, true, true, true, true, true, true, true, true, true, false, false, false, false] #[true, true, true, true, true, true, true, true, true, true, true, false, true, true, false, false, false] rfl rfl rfl rfl (by kernel_rfl) (by decide) (by decide) (fun K hK => ?_) (fun K hK => ?_)
              · skip
                have sc := SC.out wb (Below.refl _ _)
                refine value_ (w1 := ?_) (v := ?_) (by rfl) rfl ?_ ?_
                rotate_left 2
                · go_simp
                  constructor
                  · rfl
                  · rfl
                refine hK.out _ _ trivial (fun hHeld => ?_)
                clear hK K
                refine norm_ (a' := ?_) ?_ ?_
                rotate_left
                · show Act.put _ (some 82) _ = _
                  simp only [Act.put, List.setIfInBounds_toArray, List.set_cons_zero, List.set_cons_succ, i64_w, i32_w]
                  rfl
                refine one_ (i := 13) (N := some 84) #[true, true, true, true, true, true, true, true, true, true, true, true, true, true, false, false, false] rfl rfl (by kernel_rfl) (by decide) (fun K hK => ?_)
                refine goes_ Try.func54 (by kernel_rfl) rfl #[.slice Al L.length cl] (by rfl) rfl rfl (by simp only [List.map_toArray, List.map_cons, List.map_nil]; rfl) ?_
                with_reducible refine (shunterref03_Bytes.calls 200000 Al cl L bs wb HCL.out clh HBY.out).mono ?_
                rintro e wc ⟨vc, rfl, hoc, hbc0⟩
                refine ⟨_, rfl, ?_⟩
                obtain ⟨Ac, cc, rfl, hcc, hCc⟩ := Kd.R_reads hoc
                have hbc := Aside0.mk hbc0
                have SD := Aside0.mk (Kd.C_string (P := Try.prog) (src := 22) (dst := 9) (c := cc) Try.underlying22 Try.underlying5 Try.underlying9 hCc)
                clear hoc hbc0 hCc
                refine hK.out _ _ trivial (fun hHeld => ?_)
                clear hK K
                refine norm_ (a' := ?_) ?_ ?_
                rotate_left
                · show Act.put _ (some 84) _ = _
                  simp only [Act.put, List.setIfInBounds_toArray, List.set_cons_zero, List.set_cons_succ, i64_w, i32_w]
                  rfl
                refine one_ (i := 14) (N := some 85) #[true, true, true, true, true, true, true, true, true, true, true, true, true, true, true, false, false] rfl rfl (by kernel_rfl) (by decide) (fun K hK => ?_)
                have sd := SD.out
                refine value_ (w1 := ?_) (v := ?_) (by rfl) rfl ?_ ?_
                rotate_left 2
                · go_simp
                  constructor
                  · rfl
                  · rfl
                refine hK.out _ _ trivial (fun hHeld => ?_)
                clear hK K
                refine norm_ (a' := ?_) ?_ ?_
                rotate_left
                · show Act.put _ (some 85) _ = _
                  simp only [Act.put, List.setIfInBounds_toArray, List.set_cons_zero, List.set_cons_succ, i64_w, i32_w]
                  rfl
                exact norm_ (by simp only [putAll, Act.put, List.setIfInBounds_toArray, List.set_cons_zero, List.set_cons_succ]) (hCont (.slice Ac bs.length cc) _ hbc.out)
              · skip
                refine goes_ Try.func54 (by kernel_rfl) rfl #[.slice Al L.length cl] (by rfl) rfl rfl (by simp only [List.map_toArray, List.map_cons, List.map_nil]; rfl) ?_
                with_reducible refine (shunterref03_Bytes.calls 200000 Al cl L bs wb HCL.out clh HBY.out).mono ?_
                rintro e wc ⟨vc, rfl, hoc, hbc0⟩
                refine ⟨_, rfl, ?_⟩
                obtain ⟨Ac, cc, rfl, hcc, hCc⟩ := Kd.R_reads hoc
                have hbc := Aside0.mk hbc0
                have SD := Aside0.mk (Kd.C_string (P := Try.prog) (src := 22) (dst := 9) (c := cc) Try.underlying22 Try.underlying5 Try.underlying9 hCc)
                clear hoc hbc0 hCc
                refine hK.out _ _ trivial (fun hHeld => ?_)
                clear hK K
                refine norm_ (a' := ?_) ?_ ?_
                rotate_left
                · show Act.put _ (some 84) _ = _
                  simp only [Act.put, List.setIfInBounds_toArray, List.set_cons_zero, List.set_cons_succ, i64_w, i32_w]
                  rfl
                refine two_ (i := 11) (j := 14) (Ni := some 82) (Nj := some 85) #[true, true, true, true, true, true, true, true, true, true, true, true, true, true, false, false, false] #[true, true, true, true, true, true, true, true, true, true, true, false, true, true, true, false, false] rfl rfl rfl rfl (by kernel_rfl) (by decide) (by decide) (fun K hK => ?_) (fun K hK => ?_)
                · skip
                  have sc := SC.out wc hbc.out
                  refine value_ (w1 := ?_) (v := ?_) (by rfl) rfl ?_ ?_
                  rotate_left 2
                  · go_simp
                    constructor
                    · rfl
                    · rfl
                  refine hK.out _ _ trivial (fun hHeld => ?_)
                  clear hK K
                  refine norm_ (a' := ?_) ?_ ?_
                  rotate_left
                  · show Act.put _ (some 82) _ = _
                    simp only [Act.put, List.setIfInBounds_toArray, List.set_cons_zero, List.set_cons_succ, i64_w, i32_w]
                    rfl
                  refine one_ (i := 14) (N := some 85) #[true, true, true, true, true, true, true, true, true, true, true, true, true, true, true, false, false] rfl rfl (by kernel_rfl) (by decide) (fun K hK => ?_)
                  have sd := SD.out
                  refine value_ (w1 := ?_) (v := ?_) (by rfl) rfl ?_ ?_
                  rotate_left 2
                  · go_simp
                    constructor
                    · rfl
                    · rfl
                  refine hK.out _ _ trivial (fun hHeld => ?_)
                  clear hK K
                  refine norm_ (a' := ?_) ?_ ?_
                  rotate_left
                  · show Act.put _ (some 85) _ = _
                    simp only [Act.put, List.setIfInBounds_toArray, List.set_cons_zero, List.set_cons_succ, i64_w, i32_w]
                    rfl
                  exact norm_ (by simp only [putAll, Act.put, List.setIfInBounds_toArray, List.set_cons_zero, List.set_cons_succ]) (hCont (.slice Ac bs.length cc) _ hbc.out)
                · skip
                  have sd := SD.out
                  refine value_ (w1 := ?_) (v := ?_) (by rfl) rfl ?_ ?_
                  rotate_left 2
                  · go_simp
                    constructor
                    · rfl
                    · rfl
                  refine hK.out _ _ trivial (fun hHeld => ?_)
                  clear hK K
                  refine norm_ (a' := ?_) ?_ ?_
                  rotate_left
                  · show Act.put _ (some 85) _ = _
                    simp only [Act.put, List.setIfInBounds_toArray, List.set_cons_zero, List.set_cons_succ, i64_w, i32_w]
                    rfl
                  refine one_ (i := 11) (N := some 82) #[true, true, true, true, true, true, true, true, true, true, true, true, true, true, true, false, false] rfl rfl (by kernel_rfl) (by decide) (fun K hK => ?_)
                  have sc := SC.out wc hbc.out
                  refine value_ (w1 := ?_) (v := ?_) (by rfl) rfl ?_ ?_
                  rotate_left 2
                  · go_simp
                    constructor
                    · rfl
                    · rfl
                  refine hK.out _ _ trivial (fun hHeld => ?_)
                  clear hK K
                  refine norm_ (a' := ?_) ?_ ?_
                  rotate_left
                  · show Act.put _ (some 82) _ = _
                    simp only [Act.put, List.setIfInBounds_toArray, List.set_cons_zero, List.set_cons_succ, i64_w, i32_w]
                    rfl
                  exact norm_ (by simp only [putAll, Act.put, List.setIfInBounds_toArray, List.set_cons_zero, List.set_cons_succ]) (hCont (.slice Ac bs.length cc) _ hbc.out)
            rintro sv wz hz
            have hHeld : True := trivial
            refine norm_ (a' := ?_) ?_ ?_
            rotate_left
            · simp only [putAll, Act.put, List.setIfInBounds_toArray, List.set_cons_zero, List.set_cons_succ]
              rfl
            refine pure_ (i := 15) (N := some 86) (v := ?_) (a' := ?_) #[true, true, true, true, true, true, true, true, true, true, true, true, true, true, true, true, false] rfl rfl (by kernel_rfl) (fun _ _ _ h => h) (Or.inl ⟨by rfl, ?_⟩) ?_ ?_
            rotate_left
            · intro w'
              go_simp
              with_reducible rfl
            rotate_left
            · simp only [Act.put, List.setIfInBounds_toArray, List.set_cons_zero, List.set_cons_succ, i64_w, i32_w]
              rfl
            refine pure_ (i := 16) (N := some 87) (v := ?_) (a' := ?_) #[true, true, true, true, true, true, true, true, true, true, true, true, true, true, true, true, true] rfl rfl (by kernel_rfl) (fun _ _ _ h => h) (Or.inl ⟨by rfl, ?_⟩) ?_ ?_
            rotate_left
            · intro w'
              go_simp
              with_reducible rfl
            rotate_left
            · simp only [Act.put, List.setIfInBounds_toArray, List.set_cons_zero, List.set_cons_succ, i64_w, i32_w]
              rfl
            refine done_ (by kernel_rfl) ?_
            go_wp2
            go_roundw
            case measure => simp [intOf]; omega
            case rel => exact ⟨i + 1, v, bs, L, Al, cl, hlt, hle, rfl, by go_num, HREP, ⟨HWB.out.step hz⟩⟩
      · have h2 : decide (200 < (x.f3.length : Int)) = true := by simp; omega
        go_wp2_with (go_at_call 15; with_reducible refine (shunterlaw03_lives.calls _ _ HLV.out).mono ?_; rintro e w3 ⟨rfl, hb⟩; have HB4 := Aside0.mk hb; clear hb)
        go_ret
        exact ⟨rfl, below_step HB.out.rk.below HB4.out⟩
    · have hie : i = ops.length := by omega
      subst hie
      go_wp2_with (go_at_call 15; with_reducible refine (shunterlaw03_lives.calls _ _ HLV.out).mono ?_; rintro e w3 ⟨rfl, hb⟩; have HB4 := Aside0.mk hb; clear hb)
      go_ret
      exact ⟨rfl, below_step HB.out.rk.below HB4.out⟩
set_option maxHeartbeats 400000 in
set_option maxRecDepth 100000 in
theorem BitsRows_big (A0 : Option Addr) (c0 n0 : Nat) (w : World) (h30 : (30 : Int) < n0) :
    Calls Try.prog 11 #[.slice A0 n0 c0] w fun e w' => e = .returned (.bool true) ∧ Below w.heap.size w w' := by
  have HLV := Aside0.mk lives03
  go_enter Try.func11, Try.ntmps11
  go_wp2_with (go_at_call 15; refine (shunterlaw03_lives.calls _ _ HLV.out).mono ?_; rintro e w3 ⟨rfl, hb⟩; have HB4 := Aside0.mk hb; clear hb)
  go_ret
  exact ⟨rfl, HB4.out⟩
theorem BitsRows_all (A0 : Option Addr) (c0 : Nat) (ops : List S57) (w : World) (hr0 : Kd.C k57 w A0 ops.length ops) (hc0 : ops.length ≤ c0) (hv : ∀ x ∈ ops, okOp x) :
    Calls Try.prog 11 #[.slice A0 ops.length c0] w fun e w' => e = .returned (.bool true) ∧ Below w.heap.size w w' := by
  by_cases h30 : ops.length ≤ 30
  · exact BitsRows_walk A0 c0 ops w hr0 hc0 hv h30
  · exact BitsRows_big A0 c0 ops.length w (by omega)


end Go.Proofs.Ytjbpianofkblbaa.XT
