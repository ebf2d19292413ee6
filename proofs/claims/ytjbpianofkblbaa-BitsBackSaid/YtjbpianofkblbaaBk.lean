/- The walk of BitsBack. -/
import Derived.Test.YtjbpianofkblbaaRw
import Derived.Test.YtjbpianofkblbaaLemRw
import Derived.Outline
namespace Go.Proofs.Ytjbpianofkblbaa.XT
open Go.RowKit Go.Proofs.YtjbpianofkblbaaW.PrintWords Go.Proofs.YtjbpianofkblbaaW.PrintLast Go.Proofs.YtjbpianofkblbaaW.PrintMore
attribute [local go_sem] max2_int min2_int max_two min_two max_three min_three max_four min_four   -- for this text's walks alone
set_option linter.unusedVariables false
set_option linter.unusedSimpArgs false
theorem lives03 : shunterlaw03_lives.f = some true := by decide
theorem Row_Add_rep (w0 w : World) (g : Nat) (v : Value) (bs : List Int) (L : List Bool) (a0 : Int) (X : Nat) (hX : X < 2 ^ 128) (h : RK w0 w g v bs L.length) (hR : Rep bs L) (hv : vmay a0 X = true) (hn : L.length + a0.toNat ≤ 73728) :
    Calls Try.prog 49 #[.pointer (some ⟨g, 0, none⟩), .agg #[.int .i64 a0, .int .u64 (hiW X), .int .u64 (loW X)]] w fun e w' => e = .returned (.int .i64 0) ∧ ∃ v1 r, RP w0 w w' g v v1 r (L ++ vbits a0 X).length ∧ Rep r (L ++ vbits a0 X) := by
  have hm : 1 ≤ a0 ∧ a0 ≤ 128 ∧ X < 2 ^ a0.toNat := of_decide_eq_true hv
  obtain ⟨r, h1, h2⟩ := hR.add a0 X hX hv (by omega)
  have h3 := hR.lo
  have h4 := hR.hi
  have hM := vec_May_eq a0 X hX
  rw [hv] at hM
  obtain ⟨q, rfl⟩ : ∃ q : Nat, a0 = q := ⟨a0.toNat, by omega⟩
  rw [Int.toNat_natCast] at hn h1
  refine (Row_Add_ok w0 w g v bs L.length q (hiW X) (loW X) ((L.length + q + 7) / 8 - bs.length) 200 r h hM (by omega) (by omega) (by omega) (by omega) h1).mono ?_
  rintro e w' ⟨he, v1, hp⟩
  exact ⟨he, v1, r, by rw [List.length_append, vbits_len, Int.toNat_natCast]; exact hp, h2⟩
/-- The bits of a vector that may be; none of another. -/
def one (x : S26) : List Bool := if vmay x.f0 (valW x.f1 x.f2) = true then vbits x.f0 (valW x.f1 x.f2) else []
def catB (l : List S26) : List Bool := l.flatMap one
def okV (x : S26) : Prop := 0 ≤ x.f1 ∧ x.f1 < 2 ^ 64 ∧ 0 ≤ x.f2 ∧ x.f2 < 2 ^ 64
theorem take_next (l : List S26) (i : Nat) (h : i < l.length) : l.take (i + 1) = l.take i ++ [rd_T26 l i] := by
  rw [List.take_add_one, List.getElem?_eq_getElem h]
  simp [rd_T26, List.getD_eq_getElem?_getD, h]
theorem catB_next (l : List S26) (i : Nat) (h : i < l.length) : catB (l.take (i + 1)) = catB (l.take i) ++ one (rd_T26 l i) := by
  rw [take_next l i h]
  simp [catB]
theorem catB_split (l : List S26) (i : Nat) (h : i < l.length) : catB l = catB (l.take i) ++ (one (rd_T26 l i) ++ catB (l.drop (i + 1))) := by
  rw [← List.append_assoc, ← catB_next l i h]
  conv => lhs; rw [← List.take_append_drop (i + 1) l]
  simp only [catB, List.flatMap_append]
theorem one_len (x : S26) : (one x).length ≤ 128 := by
  unfold one
  split
  · rename_i h
    have hm : 1 ≤ x.f0 ∧ x.f0 ≤ 128 ∧ valW x.f1 x.f2 < 2 ^ x.f0.toNat := of_decide_eq_true h
    rw [vbits_len]; omega
  · simp
theorem catB_le (l : List S26) : (catB l).length ≤ 128 * l.length := by
  induction l with
  | nil => simp [catB]
  | cons x l ih =>
    have h1 := one_len x
    have e : catB (x :: l) = one x ++ catB l := by simp [catB]
    rw [e, List.length_append, List.length_cons]
    omega
/-- What every round of the first loop knows. -/
structure BK (w W : World) (g : Nat) (v : Value) (bs : List Int) (L : List Bool) : Prop where
  rk : RK w W g v bs L.length
  rep : Rep bs L
theorem BK.step {w W W1 : World} {g : Nat} {v : Value} {bs : List Int} {L : List Bool} (h : BK w W g v bs L) (hb : Below W.heap.size W W1) : BK w W1 g v bs L := ⟨h.rk.step hb, h.rep⟩
/-- What every round of the second loop knows. -/
structure CK (w W : World) (g : Nat) (bs : List Int) (n : Nat) : Prop where
  tk : TK W g bs n
  below : Below w.heap.size w W
theorem CK.step {w W W1 : World} {g : Nat} {bs : List Int} {n : Nat} (h : CK w W g bs n) (hb : Below W.heap.size W W1) : CK w W1 g bs n := ⟨h.tk.below hb, below_step h.below hb⟩
set_option maxHeartbeats 1000000 in
set_option maxRecDepth 100000 in
theorem BitsBack_walk (A0 : Option Addr) (c0 : Nat) (l : List S26) (w : World) (hr0 : Kd.C k26 w A0 l.length l) (hc0 : l.length ≤ c0) (hv : ∀ x ∈ l, okV x) (h60 : l.length ≤ 60) :
    Calls Try.prog 12 #[.slice A0 l.length c0] w fun e w' => e = .returned (.bool true) ∧ Below w.heap.size w w' := by
  have HR0 := Aside0.mk hr0
  have HV := Aside0.mk hv
  have HLV := Aside0.mk lives03
  clear hr0 hv
  have hB0 : BK w (w.alloc (.cells #[.slice none 0 0, .int .i64 0] 68 (0, 0))) w.heap.size (.slice none 0 0) [] (catB (l.take 0)) := ⟨⟨blk_new _ _, Kd.R_nil _ _ _ _ _, Nat.le_refl _, below_alloc (Below.refl _ _) _⟩, Rep.nil⟩
  have HB0 := Aside0.mk hB0
  clear hB0
  go_enter Try.func12, Try.ntmps12
  go_wp2
  go_loopw [4, 5] (fun u4 u5 w' => ∃ (i : Nat) (v : Value) (bs : List Int), i ≤ l.length ∧ u4 = .int .i64 ((catB (l.take i)).length : Nat) ∧ u5 = .int .i64 i ∧ Aside0 (BK w w' w.heap.size v bs (catB (l.take i)))) (fun _ u5 _ => l.length - (intOf u5).toNat)
  case atStart => exact ⟨0, _, _, Nat.zero_le _, rfl, rfl, HB0⟩
  case round =>
    obtain ⟨i, v, bs, hi, rfl, rfl, HB⟩ := hrel
    by_cases hlt : i < l.length
    · obtain ⟨ad, hA, p0, p1, p2⟩ := at_T26 HR0.out (i : Int) (by omega) (by omega)
      subst hA
      rw [Int.toNat_natCast] at p0 p1 p2
      have q0 := (HB.out.rk.below.cell (World.block_lt_of_cell? w _ p0)).trans p0
      have q1 := (HB.out.rk.below.cell (World.block_lt_of_cell? w _ p1)).trans p1
      have q2 := (HB.out.rk.below.cell (World.block_lt_of_cell? w _ p2)).trans p2
      have hx := HV.out (rd_T26 l i) (by unfold rd_T26; simp [List.getD, hlt])
      have hcn := catB_next l i hlt
      have hle := catB_le (l.take i)
      rw [List.length_take, Nat.min_eq_left hi] at hle
      generalize hxx : rd_T26 l (i : Int) = x at *
      obtain ⟨g1, g2, g3, g4⟩ := hx
      have hX := valW_lt g1 g2 g3 g4
      by_cases hm : vmay x.f0 (valW x.f1 x.f2) = true
      · have hm2 : 1 ≤ x.f0 ∧ x.f0 ≤ 128 ∧ valW x.f1 x.f2 < 2 ^ x.f0.toNat := of_decide_eq_true hm
        have h49 := Row_Add_rep w wr w.heap.size v bs (catB (l.take i)) x.f0 (valW x.f1 x.f2) hX HB.out.rk HB.out.rep hm (by omega)
        rw [hiW_valW g1 g2 g3 g4, loW_valW g3 g4] at h49
        have H49 := Aside0.mk h49
        have hcn2 : catB (l.take (i + 1)) = catB (l.take i) ++ vbits x.f0 (valW x.f1 x.f2) := by rw [hcn, one, if_pos hm]
        have ew : IntKind.i64.wrap (((catB (l.take i)).length : Int) + x.f0) = ((catB (l.take i)).length : Int) + x.f0 := IntWalk.i64_in _ (by omega)
        have hcl : (catB (l.take (i + 1))).length = (catB (l.take i)).length + x.f0.toNat := by rw [hcn2, List.length_append, vbits_len]
        clear h49
        go_wp2_with (go_at_call 49; with_reducible refine H49.out.mono ?_; rintro e w1 ⟨rfl, v1, r, hP, hR⟩; have HN := Aside0.mk (BK.mk hP.rk hR); have r0 := (hP.rk.below.cell (World.block_lt_of_cell? w _ p0)).trans p0; clear hP hR)
        go_roundw
        case measure => simp [intOf]; omega
        case rel => exact ⟨i + 1, v1, r, hlt, by rw [hcl]; congr 1; omega, by go_num, ⟨by rw [hcn2]; exact HN.out⟩⟩
      · have hm2 : vmay x.f0 (valW x.f1 x.f2) = false := by simpa using hm
        have hM := vec_May_eq x.f0 (valW x.f1 x.f2) hX
        rw [hm2, hiW_valW g1 g2 g3 g4, loW_valW g3 g4] at hM
        have HM := Aside0.mk hM
        have hcn2 : catB (l.take (i + 1)) = catB (l.take i) := by rw [hcn, one, if_neg hm, List.append_nil]
        clear hM
        go_wp2_with (go_at_call 49; with_reducible refine (Row_Add_may w.heap.size x.f0 x.f1 x.f2 _ HM.out).mono ?_; rintro e w1 ⟨rfl, hb⟩; have HN := Aside0.mk (HB.out.step hb); clear hb)
        go_roundw
        case measure => simp [intOf]; omega
        case rel => exact ⟨i + 1, v, bs, hlt, by rw [hcn2], by go_num, ⟨by rw [hcn2]; exact HN.out⟩⟩
    · have hie : i = l.length := by omega
      subst hie
      rw [List.take_length] at *
      have hle := catB_le l
      have hl1 := HB.out.rep.lo
      have hl2 := HB.out.rep.hi
      go_wp2_with (first | (go_at_call 53; with_reducible refine (Row_All_calls w _ w.heap.size v bs _ HB.out.rk (by omega)).mono ?_; rintro e w1 ⟨v1, rfl, ho, hb⟩; obtain ⟨A, c, rfl, hc, hC⟩ := Kd.R_reads ho; have HC := Aside0.mk hC; have H1 := Aside0.mk (HB.out.step hb); clear ho hb hC) | (go_at_call 35; with_reducible refine (Take_calls A c bs _ HC.out hc (by omega)).mono ?_; rintro e w2 ⟨g, rfl, htk, hb, hg⟩; have HT := Aside0.mk htk; have H2 := Aside0.mk (H1.out.step hb); have HG := Aside0.mk (Nat.le_trans (below_size H1.out.rk.below) hg); clear htk hb hg) | (go_at_call 52; with_reducible refine (Row_Len_calls w _ w.heap.size v bs _ H2.out.rk).mono ?_; rintro e w3 ⟨rfl, ⟨n3, rfl⟩⟩))
      have HC0 := Aside0.mk (show CK w (w2.drewN n3) g bs (catB (l.take 0)).length from ⟨HT.out.below (pw_below_drewN (Below.refl _ _) n3), below_step H2.out.rk.below (pw_below_drewN (Below.refl _ _) n3)⟩)
      have HREP := Aside0.mk H2.out.rep
      have HOK := Aside0.mk H2.out.rep.ok
      clear HC H1 H2 HT HB
      go_loopw [7] (fun u7 w' => ∃ j : Nat, j ≤ l.length ∧ u7 = .int .i64 j ∧ Aside0 (CK w w' g bs (catB (l.take j)).length)) (fun u7 _ => l.length - (intOf u7).toNat)
      case atStart => exact ⟨0, Nat.zero_le _, rfl, HC0⟩
      case round =>
        clear HC0
        obtain ⟨j, hj, rfl, HC⟩ := hrel
        by_cases hlt : j < l.length
        · obtain ⟨ad, hA, p0, p1, p2⟩ := at_T26 HR0.out (j : Int) (by omega) (by omega)
          subst hA
          rw [Int.toNat_natCast] at p0 p1 p2
          have q0 := (HC.out.below.cell (World.block_lt_of_cell? w _ p0)).trans p0
          have q1 := (HC.out.below.cell (World.block_lt_of_cell? w _ p1)).trans p1
          have q2 := (HC.out.below.cell (World.block_lt_of_cell? w _ p2)).trans p2
          have hx := HV.out (rd_T26 l j) (by unfold rd_T26; simp [List.getD, hlt])
          have hcn := catB_next l j hlt
          have hsp := catB_split l j hlt
          generalize hxx : rd_T26 l (j : Int) = x at *
          obtain ⟨g1, g2, g3, g4⟩ := hx
          have hX := valW_lt g1 g2 g3 g4
          have hM := ref02_May_eq x.f0 (valW x.f1 x.f2) hX
          rw [hiW_valW g1 g2 g3 g4, loW_valW g3 g4] at hM
          by_cases hm : vmay x.f0 (valW x.f1 x.f2) = true
          · have hm2 : 1 ≤ x.f0 ∧ x.f0 ≤ 128 ∧ valW x.f1 x.f2 < 2 ^ x.f0.toNat := of_decide_eq_true hm
            rw [hm] at hM
            have HM := Aside0.mk hM
            have hone : one x = vbits x.f0 (valW x.f1 x.f2) := by rw [one, if_pos hm]
            rw [hone] at hcn hsp
            have hseen := seen_rep (bs := bs) (L := catB (l.take j)) (M := catB (l.drop (j + 1))) (by rw [← hsp]; exact HREP.out) hm
            have hcl : (catB (l.take (j + 1))).length = (catB (l.take j)).length + x.f0.toNat := by rw [hcn, List.length_append, vbits_len]
            have hcl2 : (catB l).length = (catB (l.take j)).length + (x.f0.toNat + (catB (l.drop (j + 1))).length) := by rw [hsp, List.length_append, List.length_append, vbits_len]
            obtain ⟨q, hq⟩ : ∃ q : Nat, x.f0 = q := ⟨x.f0.toNat, by omega⟩
            have HVC := Aside0.mk (fun (W : World) (hT : TK W g bs (catB (l.take j)).length) => Vec_ok g bs (catB (l.take j)).length q W hT HOK.out (by omega) (by omega) (by omega) (by omega))
            rw [hq, Int.toNat_natCast] at hseen
            rw [hseen, hiW_valW g1 g2 g3 g4, loW_valW g3 g4] at HVC
            rw [hq] at p0 q0 HM
            clear hM hxx hseen hsp hone hcl2
            go_wp2_with (first | (go_at_call 50; with_reducible refine (shunterref02_May.calls _ _ _ _ _ HM.out).mono ?_; rintro e w4 ⟨rfl, hb⟩; have H4 := Aside0.mk (HC.out.step hb); have s0 := (H4.out.below.cell (World.block_lt_of_cell? w _ p0)).trans p0; clear hb) | (go_at_call 40; with_reducible refine (HVC.out _ H4.out.tk).mono ?_; rintro e w5 ⟨rfl, htk, hob⟩; have H5 := Aside0.mk (CK.mk htk (H4.out.below.trans (hob.below.mono HG.out))); have t0 := (H5.out.below.cell (World.block_lt_of_cell? w _ p0)).trans p0; have t1 := (H5.out.below.cell (World.block_lt_of_cell? w _ p1)).trans p1; have t2 := (H5.out.below.cell (World.block_lt_of_cell? w _ p2)).trans p2; have tl := World.block_lt_of_cell? w5 _ t0; simp only [Addr.add] at tl; clear htk hob))
            have y0 := ((H5.out.step (below_alloc (Below.refl _ _) (.cells #[.int .i64 q, .int .u64 x.f1, .int .u64 x.f2] 26 (0, 0)))).below.cell (World.block_lt_of_cell? w _ p0)).trans p0
            have y1 := ((H5.out.step (below_alloc (Below.refl _ _) (.cells #[.int .i64 q, .int .u64 x.f1, .int .u64 x.f2] 26 (0, 0)))).below.cell (World.block_lt_of_cell? w _ p1)).trans p1
            have y2 := ((H5.out.step (below_alloc (Below.refl _ _) (.cells #[.int .i64 q, .int .u64 x.f1, .int .u64 x.f2] 26 (0, 0)))).below.cell (World.block_lt_of_cell? w _ p2)).trans p2
            go_region
            go_wp2
            go_roundw
            case measure => simp [intOf]; omega
            case rel => exact ⟨j + 1, hlt, by go_num, ⟨by rw [hcl, hq, Int.toNat_natCast]; exact H5.out.step (below_drew1 (below_alloc (Below.refl _ _) _))⟩⟩
          · have hm2 : vmay x.f0 (valW x.f1 x.f2) = false := by simpa using hm
            rw [hm2] at hM
            have HM := Aside0.mk hM
            have hcn2 : catB (l.take (j + 1)) = catB (l.take j) := by rw [hcn, one, if_neg hm, List.append_nil]
            clear hM hsp hcn hxx
            go_wp2_with (go_at_call 50; with_reducible refine (shunterref02_May.calls _ _ _ _ _ HM.out).mono ?_; rintro e w4 ⟨rfl, hb⟩; have H4 := Aside0.mk (HC.out.step hb); clear hb)
            go_roundw
            case measure => simp [intOf]; omega
            case rel => exact ⟨j + 1, hlt, by go_num, ⟨by rw [hcn2]; exact H4.out⟩⟩
        · have hje : j = l.length := by omega
          subst hje
          rw [List.take_length] at HC
          have HL := Aside0.mk (fun (W : World) (hT : CK w W g bs (catB l).length) => And.intro (At_calls W g bs _ hT.tk) (Left_calls W g bs _ hT.tk (by omega) (by omega)))
          have el : 8 * (bs.length : Int) - ((catB l).length : Int) < 8 := by omega
          go_wp2_with (first | (go_at_call 42; with_reducible refine (HL.out _ HC.out).2.mono ?_; rintro e w4 ⟨rfl, ⟨n4, rfl⟩⟩) | (go_at_call 41; with_reducible refine (HL.out _ (HC.out.step (pw_below_drewN (Below.refl _ _) _))).1.mono ?_; rintro e w5 ⟨rfl, ⟨n5, rfl⟩⟩) | (go_at_call 15; with_reducible refine (shunterlaw03_lives.calls _ _ HLV.out).mono ?_; rintro e w6 ⟨rfl, hb⟩; have HB := Aside0.mk hb; clear hb))
          go_ret
          exact ⟨rfl, below_step (HC.out.step (pw_below_drewN (Below.refl _ _) _)).below HB.out⟩
set_option maxHeartbeats 400000 in
set_option maxRecDepth 100000 in
theorem BitsBack_big (A0 : Option Addr) (c0 n0 : Nat) (w : World) (h60 : (60 : Int) < n0) :
    Calls Try.prog 12 #[.slice A0 n0 c0] w fun e w' => e = .returned (.bool true) ∧ Below w.heap.size w w' := by
  have HLV := Aside0.mk lives03
  go_enter Try.func12, Try.ntmps12
  go_wp2_with (go_at_call 15; refine (shunterlaw03_lives.calls _ _ HLV.out).mono ?_; rintro e w3 ⟨rfl, hb⟩; have HB4 := Aside0.mk hb; clear hb)
  go_ret
  exact ⟨rfl, HB4.out⟩
theorem BitsBack_all (A0 : Option Addr) (c0 : Nat) (l : List S26) (w : World) (hr0 : Kd.C k26 w A0 l.length l) (hc0 : l.length ≤ c0) (hv : ∀ x ∈ l, okV x) :
    Calls Try.prog 12 #[.slice A0 l.length c0] w fun e w' => e = .returned (.bool true) ∧ Below w.heap.size w w' := by
  by_cases h60 : l.length ≤ 60
  · exact BitsBack_walk A0 c0 l w hr0 hc0 hv h60
  · exact BitsBack_big A0 c0 l.length w (by omega)

end Go.Proofs.Ytjbpianofkblbaa.XT
