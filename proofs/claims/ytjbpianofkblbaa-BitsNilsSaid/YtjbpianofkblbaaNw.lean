/- The walk of BitsNils. -/
import Derived.Test.YtjbpianofkblbaaRw
import Derived.Outline
namespace Go.Proofs.Ytjbpianofkblbaa.XT
open Go.RowKit Go.Proofs.YtjbpianofkblbaaW.PrintWords Go.Proofs.YtjbpianofkblbaaW.PrintLast Go.Proofs.YtjbpianofkblbaaW.PrintMore
attribute [local go_sem] max2_int min2_int max_two min_two max_three min_three max_four min_four   -- for this text's walks alone
set_option linter.unusedVariables false
set_option linter.unusedSimpArgs false
theorem lives03 : shunterlaw03_lives.f = some true := by decide
/-- What is known while only new blocks are laid: the argument's box stands. -/
structure NB (w W : World) (o : Obj) : Prop where
  below : Below w.heap.size w W
  box : W.heap[w.heap.size]? = some o
theorem NB.start (w : World) (o : Obj) : NB w (w.alloc o) o := ⟨below_alloc (Below.refl _ _) _, blk_new w o⟩
theorem NB.step {w W W1 : World} {o : Obj} (h : NB w W o) (hb : Below W.heap.size W W1) : NB w W1 o := ⟨below_step h.below hb, blk_below h.box hb⟩
theorem rep_of {P : List Int → Prop} (h : P (List.replicate (Int.toNat 9216) 0)) : ∃ ys : List Int, ys.length = 9216 ∧ P ys := ⟨_, List.length_replicate, h⟩
theorem may1 : vec_May.f 1 0 0 = some true := by decide
set_option maxHeartbeats 400000 in
set_option maxRecDepth 100000 in
theorem BitsNils_walk (a0 a1 a2 : Int) (A1 : Option Addr) (m1 c1 : Nat) (w : World) :
    Calls Try.prog 14 #[.agg #[.int .i64 a0, .int .u64 a1, .int .u64 a2], .slice A1 m1 c1] w fun e w' => e = .returned (.bool true) ∧ Below w.heap.size w w' := by
  have H0 := Aside0.mk (NB.start w (.cells #[.int .i64 a0, .int .u64 a1, .int .u64 a2] 26 (0, 0)))
  have HLV := Aside0.mk lives03
  go_enter Try.func14, Try.ntmps14
  go_wp2_with (first | (go_at_call 40; with_reducible refine (Vec_err (.pointer none) a0 1 _ (by decide) (fun W1 _ => Look_nil 0 a0 W1)).mono ?_; rintro e w1 ⟨rfl, hb⟩; have H1 := Aside0.mk (H0.out.step hb); clear hb) | (go_at_call 37; with_reducible refine (Bytes_nil 1 _).mono ?_; rintro e w2 ⟨rfl, hb⟩; have H2 := Aside0.mk ((H1.out.step (below_alloc (Below.refl _ _) _)).step hb); clear hb) | (go_at_call 38; with_reducible refine (Look_nil 0 1 _).mono ?_; rintro e w3 ⟨rfl, hb⟩; have H3 := Aside0.mk (H2.out.step hb); have b0 := blk_cell H3.out.box 0; have b1 := blk_cell H3.out.box 1; have b2 := blk_cell H3.out.box 2; have bs := blk_lt H3.out.box; simp only [List.getElem?_toArray, List.getElem?_cons_succ, List.getElem?_cons_zero] at b0 b1 b2; clear hb) | (go_at_call 49; with_reducible refine (Row_Add_nil a0 a1 a2 _).mono ?_; rintro e w4 ⟨rfl, hb⟩; have H4 := Aside0.mk ((H3.out.step (below_alloc (Below.refl _ _) _)).step hb); clear hb) | (go_at_call 48; with_reducible refine (Row_Bytes_nil A1 m1 c1 _).mono ?_; rintro e w5 ⟨rfl, ⟨n5, rfl⟩⟩) | (go_at_call 52; with_reducible refine (Row_Len_nil _).mono ?_; rintro e w6 ⟨rfl, ⟨n6, rfl⟩⟩) | (go_at_call 53; with_reducible refine (Row_All_nil _).mono ?_; rintro e w7 ⟨rfl, ⟨n7, rfl⟩⟩) | (go_at_call 41; with_reducible refine (At_nil _).mono ?_; rintro e w8 ⟨rfl, ⟨n8, rfl⟩⟩) | (go_at_call 42; with_reducible refine (Left_nil _).mono ?_; rintro e w9 ⟨rfl, ⟨n9, rfl⟩⟩) | ((with_reducible refine gate_dst (N := 81) rfl ?_); refine Kd.R_make (Kd.int .u8) (w0 := w) w.heap.size 5 ?hg (N := 81) ?hd 22 (.const (.int .i64 9216)) (.const (.int .i64 9216)) ?ho 9216 rfl rfl Try.underlying22 (.int .u8 0) 1 info5 rfl (by decide) (by decide) 0 (ok := fun k => k ≠ w4.heap.size) (okp := fun _ => False) ?hz (fun _ hk => hk.elim) ?hf (by decide) (by decide) (below_alloc (H4.out.step (pw_below_drewN (Below.refl _ _) _)).below _) ?hs ?_; (case hd => rfl); (case hg => rfl); (case ho => rfl); (case hz => exact rfl); (case hf => simp); (case hs => have := below_size H4.out.below; simp; omega); intro v1 w10 ho hb hg hat; obtain ⟨ys, hyl, ho⟩ := rep_of (P := fun ys => Kd.R (Kd.int .u8) 5 w10 w.heap.size (fun k => k ≠ w4.heap.size) v1 ys) ho; obtain ⟨A, c, rfl⟩ := Kd.R_slice ho; have HF := Aside0.mk ho; have HFG := Aside0.mk hg; have HFB := Aside0.mk hb; clear ho hb hg hat))
  have hge := below_size H4.out.below
  have hRK : RK w w10 w4.heap.size (.slice none 0 0) [] 0 := ⟨(HFG.out.block w4.heap.size (by simp) (by simp)).trans (heap_alloc_new _ _), Kd.R_nil _ _ _ _ _, hge, HFB.out⟩
  obtain ⟨hcA, hcc, hC⟩ := Kd.R_reads' HF.out
  have h48 := Row_Bytes_ok w w10 w4.heap.size (.slice none 0 0) [] 0 A c ys hRK hC (by decide) (by decide) (by omega) (by omega) (by simp)
  rw [hyl] at h48
  refine h48.mono ?_
  clear h48 hRK hC
  rintro e w11 ⟨rfl, v2, hP⟩
  have HF2 := Aside0.mk (Kd.R_kept HF.out hP.kept (fun k hk e => e.elim hk (by simp [Value.ownBlock])))
  have HP := Aside0.mk hP
  have hc1 : 9216 ≤ c := by omega
  clear hP hcA hcc HF HFG HFB
  go_wp2_with fail
  refine (Row_Bytes_long w w11 w4.heap.size v2 _ _ _ 1 _ HP.out.rk (by decide) (by decide) (by decide) (by decide)).mono ?_
  rintro e w12 ⟨rfl, ⟨n12, rfl⟩⟩
  have HR12 := Aside0.mk (HP.out.rk.step (pw_below_drewN (Below.refl _ _) n12))
  go_wp2_with fail
  refine (Row_Add_long w (w11.drewN n12) w4.heap.size v2 _ _ 1 0 0 HR12.out may1 (by decide) (by decide)).mono ?_
  rintro e w13 ⟨rfl, hb13⟩
  have HR13 := Aside0.mk (HR12.out.step hb13)
  have HF3 := Aside0.mk (Kd.R_below (Kd.R_below HF2.out (pw_below_drewN (Below.refl _ _) n12)) hb13)
  clear hb13
  go_wp2_with fail
  have h35 := Take_calls A c ys w13 (Kd.R_reads' HF3.out).2.2 (by omega) (by omega)
  rw [hyl] at h35
  refine h35.mono ?_
  clear h35
  rintro e w14 ⟨g2, rfl, htk, hb14, hg2⟩
  have HT := Aside0.mk htk
  have HR14 := Aside0.mk (HR13.out.step hb14)
  clear htk hb14
  go_wp2_with fail
  refine (Bytes_range g2 ys 0 (-1) w14 HT.out (by decide) (by decide)).mono ?_
  rintro e w15 ⟨rfl, hb15⟩
  have HR15 := Aside0.mk (HR14.out.step hb15)
  clear hb15
  go_wp2_with fail
  refine (Row_Len_calls w w15 w4.heap.size v2 _ _ HR15.out).mono ?_
  rintro e w16 ⟨rfl, ⟨n16, rfl⟩⟩
  have HR16 := Aside0.mk (HR15.out.step (pw_below_drewN (Below.refl _ _) n16))
  go_wp2_with fail
  refine (Row_Bytes_ok w (w15.drewN n16) w4.heap.size v2 _ _ none 0 [] HR16.out ⟨rfl, by simp, fun h => absurd h (by simp)⟩ (by decide) (by decide) (by decide) (by decide) (by simp; omega)).mono ?_
  rintro e w17 ⟨rfl, v3, hP3⟩
  have HP3 := Aside0.mk hP3.rk.below
  clear hP3
  go_wp2_with (go_at_call 15; with_reducible refine (shunterlaw03_lives.calls _ _ HLV.out).mono ?_; rintro e w18 ⟨rfl, hb⟩; have HB := Aside0.mk hb; clear hb)
  go_ret
  exact ⟨rfl, below_step HP3.out HB.out⟩

end Go.Proofs.Ytjbpianofkblbaa.XT
