/- The Taker's functions keep their contracts. -/
import Derived.Test.YtjbpianofkblbaaXTx
import Derived.Outline
namespace Go.Proofs.Ytjbpianofkblbaa.XT
open Go.RowKit Go.Proofs.YtjbpianofkblbaaW.PrintWords Go.Proofs.YtjbpianofkblbaaW.PrintLast Go.Proofs.YtjbpianofkblbaaW.PrintMore
attribute [local go_sem] max2_int min2_int max_two min_two max_three min_three max_four min_four   -- for this text's walks alone
set_option linter.unusedVariables false
set_option linter.unusedSimpArgs false
/-- A taker at block g: its bytes were laid by some earlier world. -/
def TK (w : World) (g : Nat) (bs : List Int) (at_ : Nat) : Prop :=
  ∃ (A : Option Addr) (c : Nat) (w0 : World), Kd.C (Kd.int .u8) w0 A bs.length bs ∧ bs.length ≤ c ∧ Below w0.heap.size w0 w ∧ w0.heap.size ≤ g ∧ w.heap[g]? = some (.cells #[.slice A bs.length c, .int .i64 at_] 95 (0, 0))
theorem TK.below {w w1 : World} {g : Nat} {bs : List Int} {at_ : Nat} (h : TK w g bs at_) (hb : Below w.heap.size w w1) : TK w1 g bs at_ := by
  obtain ⟨A, c, w0, hC, hc, hB, hg, hk⟩ := h
  exact ⟨A, c, w0, hC, hc, below_step hB hb, hg, blk_below hk hb⟩
theorem TK.lt {w : World} {g : Nat} {bs : List Int} {at_ : Nat} (h : TK w g bs at_) : g < w.heap.size := by
  obtain ⟨A, c, w0, hC, hc, hB, hg, hk⟩ := h
  exact blk_lt hk
theorem TK.set {w : World} {g : Nat} {bs : List Int} {at_ : Nat} (h : TK w g bs at_) (n : Nat) : TK (w.setCell ⟨g, 1, none⟩ (.int .i64 n)) g bs n := by
  obtain ⟨A, c, w0, hC, hc, hB, hg, hk⟩ := h
  exact ⟨A, c, w0, hC, hc, below_set hB hg, hg, blk_put hk 1 _ rfl⟩
set_option maxHeartbeats 400000 in
set_option maxRecDepth 100000 in
theorem Take_calls (A0 : Option Addr) (c0 : Nat) (l0 : List Int) (w : World) (hr0 : Kd.C (Kd.int .u8) w A0 l0.length l0) (hc0 : l0.length ≤ c0) (hl : l0.length < 140737488355328) :
    Calls Try.prog 35 #[.slice A0 l0.length c0] w fun e w' => ∃ g : Nat, e = .returned (.pointer (some ⟨g, 0, none⟩)) ∧ TK w' g l0 0 ∧ Below w.heap.size w w' ∧ w.heap.size ≤ g := by
  have HR := Aside0.mk hr0
  have HL := Aside0.mk (show bytes_Clone.f l0 = some l0 from by unfold bytes_Clone.f; rw [if_pos hl])
  clear hr0 hl
  go_enter Try.func35, Try.ntmps35
  go_wp2_with (first | (go_at_call 67; refine (bytes_Clone.calls _ _ _ _ _ HR.out hc0 HL.out).mono ?_; rintro e w1 ⟨v0, rfl, ho, hb⟩; obtain ⟨A, c, rfl, hc1, hC1⟩ := Kd.R_reads ho; have HB1 := Aside0.mk hb; have HC1 := Aside0.mk hC1; have HO := Aside0.mk ho; clear ho hb hC1))
  go_ret
  refine ⟨w1.heap.size, rfl, ⟨A, c, w1, HC1.out, hc1, (Below.refl _ w1).alloc (Nat.le_refl _) _, Nat.le_refl _, ?_⟩, below_alloc HB1.out _, HB1.out.size⟩
  exact heap_alloc_new _ _
set_option maxHeartbeats 400000 in
set_option maxRecDepth 100000 in
theorem left_calls (w : World) (g : Nat) (bs : List Int) (at_ : Nat) (h : TK w g bs at_) (hl : bs.length < 140737488355328) (ha : at_ < 1125899906842624) :
    Calls Try.prog 69 #[.pointer (some ⟨g, 0, none⟩)] w fun e w' => e = .returned (.int .i64 (8 * (bs.length : Int) - at_)) ∧ Drawn0 w w' := by
  obtain ⟨A, c, w0, hC, hc, hB, hg, hk⟩ := h
  have c0 : w.cell? ⟨g, 0, none⟩ = some (.slice A bs.length c) := blk_cell hk 0
  have c1 : w.cell? ⟨g, 1, none⟩ = some (.int .i64 at_) := blk_cell hk 1
  clear hC hB hk hg
  go_enter Try.func69, Try.ntmps69
  go_wp2
  go_region
  go_wp2
  go_ret
  exact ⟨rfl, ⟨1, rfl⟩⟩
set_option maxHeartbeats 400000 in
set_option maxRecDepth 100000 in
theorem At_calls (w : World) (g : Nat) (bs : List Int) (at_ : Nat) (h : TK w g bs at_) :
    Calls Try.prog 41 #[.pointer (some ⟨g, 0, none⟩)] w fun e w' => e = .returned (.int .i64 at_) ∧ Drawn0 w w' := by
  obtain ⟨A, c, w0, hC, hc, hB, hg, hk⟩ := h
  have c1 : w.cell? ⟨g, 1, none⟩ = some (.int .i64 at_) := blk_cell hk 1
  clear hC hB hk hg
  go_enter Try.func41, Try.ntmps41
  go_wp2
  go_ret
  exact ⟨rfl, ⟨0, rfl⟩⟩
set_option maxHeartbeats 400000 in
set_option maxRecDepth 100000 in
theorem At_nil (w : World) : Calls Try.prog 41 #[.pointer none] w fun e w' => e = .returned (.int .i64 0) ∧ Drawn0 w w' := by
  go_enter Try.func41, Try.ntmps41
  go_wp2
  go_ret
  exact ⟨rfl, ⟨0, rfl⟩⟩
set_option maxHeartbeats 400000 in
set_option maxRecDepth 100000 in
theorem Left_calls (w : World) (g : Nat) (bs : List Int) (at_ : Nat) (h : TK w g bs at_) (hl : bs.length < 140737488355328) (ha : at_ < 1125899906842624) :
    Calls Try.prog 42 #[.pointer (some ⟨g, 0, none⟩)] w fun e w' => e = .returned (.int .i64 (8 * (bs.length : Int) - at_)) ∧ Drawn0 w w' := by
  have H := Aside0.mk h
  clear h
  go_enter Try.func42, Try.ntmps42
  go_wp2_with (go_at_call 69; refine (left_calls _ g bs at_ H.out hl ha).mono ?_; rintro e w1 ⟨rfl, ⟨n, rfl⟩⟩)
  go_ret
  exact ⟨rfl, ⟨_, rfl⟩⟩
set_option maxHeartbeats 400000 in
set_option maxRecDepth 100000 in
theorem Left_nil (w : World) : Calls Try.prog 42 #[.pointer none] w fun e w' => e = .returned (.int .i64 0) ∧ Drawn0 w w' := by
  go_enter Try.func42, Try.ntmps42
  go_wp2
  go_ret
  exact ⟨rfl, ⟨0, rfl⟩⟩
set_option maxHeartbeats 400000 in
set_option maxRecDepth 100000 in
theorem Look_nil (a wd : Int) (w : World) :
    Calls Try.prog 38 #[.pointer none, .int .i64 a, .int .i64 wd] w fun e w' => e = .returned (.tuple #[.agg #[.int .i64 0, .int .u64 0, .int .u64 0], .int .i64 1]) ∧ Below w.heap.size w w' := by
  go_enter Try.func38, Try.ntmps38
  go_wp2
  refine bodyPost_ret (v := .tuple #[.agg #[.int .i64 0, .int .u64 0, .int .u64 0], .int .i64 1]) (by simp [results, Try.results38, go_sem]) rfl ⟨rfl, ?_⟩
  exact below_alloc (Below.refl _ _) _
set_option maxHeartbeats 400000 in
set_option maxRecDepth 100000 in
theorem Look_width (g : Nat) (a wd : Int) (w : World) (h1 : ¬ (1 ≤ wd ∧ wd ≤ 128)) :
    Calls Try.prog 38 #[.pointer (some ⟨g, 0, none⟩), .int .i64 a, .int .i64 wd] w fun e w' => e = .returned (.tuple #[.agg #[.int .i64 0, .int .u64 0, .int .u64 0], .int .i64 9]) ∧ Below w.heap.size w w' := by
  have HW : Aside0 (bits_width.f wd = some false) := ⟨by unfold bits_width.f; split <;> first | rfl | rw [decide_eq_false (by omega)]⟩
  clear h1
  go_enter Try.func38, Try.ntmps38
  go_wp2_with (first | (go_at_call 57; refine (bits_width.calls _ _ _ HW.out).mono ?_; rintro e w1 ⟨rfl, ⟨n1, rfl⟩⟩))
  refine bodyPost_ret (v := .tuple #[.agg #[.int .i64 0, .int .u64 0, .int .u64 0], .int .i64 9]) (by simp [results, Try.results38, go_sem]) rfl ⟨rfl, ?_⟩
  exact below_set (below_set (below_set (pw_below_drewN (below_alloc (Below.refl _ _) _) _) (Nat.le_refl _)) (Nat.le_refl _)) (Nat.le_refl _)
set_option maxHeartbeats 400000 in
set_option maxRecDepth 100000 in
theorem Look_range (g : Nat) (a wd : Int) (w : World) (h1 : 1 ≤ wd ∧ wd ≤ 128) (h2 : a < 0) :
    Calls Try.prog 38 #[.pointer (some ⟨g, 0, none⟩), .int .i64 a, .int .i64 wd] w fun e w' => e = .returned (.tuple #[.agg #[.int .i64 0, .int .u64 0, .int .u64 0], .int .i64 7]) ∧ Below w.heap.size w w' := by
  have HW : Aside0 (bits_width.f wd = some true) := ⟨by unfold bits_width.f; rw [if_pos (by omega), decide_eq_true (by omega)]⟩
  clear h1
  go_enter Try.func38, Try.ntmps38
  go_wp2_with (first | (go_at_call 57; refine (bits_width.calls _ _ _ HW.out).mono ?_; rintro e w1 ⟨rfl, ⟨n1, rfl⟩⟩))
  refine bodyPost_ret (v := .tuple #[.agg #[.int .i64 0, .int .u64 0, .int .u64 0], .int .i64 7]) (by simp [results, Try.results38, go_sem]) rfl ⟨rfl, ?_⟩
  exact below_set (below_set (below_set (pw_below_drewN (below_alloc (Below.refl _ _) _) _) (Nat.le_refl _)) (Nat.le_refl _)) (Nat.le_refl _)
set_option maxHeartbeats 400000 in
set_option maxRecDepth 100000 in
theorem Look_end (g : Nat) (bs : List Int) (at_ a : Nat) (wd : Int) (w : World) (h : TK w g bs at_) (hl : bs.length < 1073741824) (hat : at_ ≤ 8 * bs.length) (h1 : 1 ≤ wd ∧ wd ≤ 128) (h3 : (8 * (bs.length : Int) - at_ < a) ∨ (8 * (bs.length : Int) - at_ - a < wd)) :
    Calls Try.prog 38 #[.pointer (some ⟨g, 0, none⟩), .int .i64 a, .int .i64 wd] w fun e w' => e = .returned (.tuple #[.agg #[.int .i64 0, .int .u64 0, .int .u64 0], .int .i64 3]) ∧ Below w.heap.size w w' := by
  have HW : Aside0 (bits_width.f wd = some true) := ⟨by unfold bits_width.f; rw [if_pos (by omega), decide_eq_true (by omega)]⟩
  have H := Aside0.mk (fun n => (h.below (below_alloc (Below.refl _ _) (.cells #[.int .i64 0, .int .u64 0, .int .u64 0] 26 (0, 0)))).below (pw_below_drewN (Below.refl _ _) n))
  clear h
  by_cases c1 : 8 * (bs.length : Int) - at_ < a
  · go_enter Try.func38, Try.ntmps38
    go_wp2_with (first | (go_at_call 57; refine (bits_width.calls _ _ _ HW.out).mono ?_; rintro e w1 ⟨rfl, ⟨n1, rfl⟩⟩) | (go_at_call 69; refine (left_calls _ g bs at_ (H.out _) (by omega) (by omega)).mono ?_; rintro e w2 ⟨rfl, ⟨n2, rfl⟩⟩))
    refine bodyPost_ret (v := .tuple #[.agg #[.int .i64 0, .int .u64 0, .int .u64 0], .int .i64 3]) (by simp [results, Try.results38, go_sem]) rfl ⟨rfl, ?_⟩
    exact below_set (below_set (below_set (pw_below_drewN (below_alloc (Below.refl _ _) _) _) (Nat.le_refl _)) (Nat.le_refl _)) (Nat.le_refl _)
  · have c2 : 8 * (bs.length : Int) - at_ - a < wd := by omega
    clear h3
    go_enter Try.func38, Try.ntmps38
    go_wp2_with (first | (go_at_call 57; refine (bits_width.calls _ _ _ HW.out).mono ?_; rintro e w1 ⟨rfl, ⟨n1, rfl⟩⟩) | (go_at_call 69; refine (left_calls _ g bs at_ (H.out _) (by omega) (by omega)).mono ?_; rintro e w2 ⟨rfl, ⟨n2, rfl⟩⟩))
    refine bodyPost_ret (v := .tuple #[.agg #[.int .i64 0, .int .u64 0, .int .u64 0], .int .i64 3]) (by simp [results, Try.results38, go_sem]) rfl ⟨rfl, ?_⟩
    exact below_set (below_set (below_set (pw_below_drewN (below_alloc (Below.refl _ _) _) _) (Nat.le_refl _)) (Nat.le_refl _)) (Nat.le_refl _)
def xLook.T9 : Bool × List (List Nat × List Nat) := (true, [([], []), ([0], [0]), ([1], [1]), ([2], [2]), ([3], [3]), ([], []), ([5], [5]), ([6], [6]), ([7], [7]), ([8], [8]), ([], []), ([9, 10], [9, 10]), ([], []), ([4, 11, 12], [4, 11, 12]), ([13], [13]), ([13], [13]), ([14, 13, 0, 1, 2, 3, 4, 5, 6, 7, 8, 9, 10, 11, 12, 13, 14, 15], [14]), ([15, 16, 0, 1, 2, 3, 4, 5, 6, 7, 8, 9, 10, 11, 12, 13, 14, 15, 16], [15])])
def xLook.B9 : List Nat := [0, 1, 3, 7, 15, 0, 32, 96, 224, 480, 0, 2016, 0, 8191, 16383, 16383, 65535, 131071]
theorem xLook.tab9 : rtab .any (opsOf Try.f38 9) = xLook.T9 := by kernel_rfl
theorem xLook.bits9 : waitsOk xLook.T9.2 xLook.B9 = true := by kernel_rfl
/-- What Look tells of bits that are there. -/
def seen (bs : List Int) (from_ wd : Nat) : Nat := ofB (fun i => bitOf bs (from_ + wd - 1 - i)) wd
set_option maxHeartbeats 400000 in
set_option maxRecDepth 100000 in
theorem Look_ok (g : Nat) (bs : List Int) (at_ a wd : Nat) (w : World) (h : TK w g bs at_) (hok : okBytes bs) (hl : bs.length < 1073741824) (h1 : 1 ≤ wd) (h2 : wd ≤ 128) (h3 : at_ + a + wd ≤ 8 * bs.length) :
    Calls Try.prog 38 #[.pointer (some ⟨g, 0, none⟩), .int .i64 a, .int .i64 wd] w fun e w' => e = .returned (.tuple #[.agg #[.int .i64 wd, .int .u64 (hiW (seen bs (at_ + a) wd)), .int .u64 (loW (seen bs (at_ + a) wd))], .int .i64 0]) ∧ Below w.heap.size w w' := by
  have HW : Aside0 (bits_width.f (wd : Int) = some true) := ⟨by unfold bits_width.f; rw [if_pos (by omega), decide_eq_true (by omega)]⟩
  have H := Aside0.mk (fun n => (h.below (below_alloc (Below.refl _ _) (.cells #[.int .i64 0, .int .u64 0, .int .u64 0] 26 (0, 0)))).below (pw_below_drewN (Below.refl _ _) n))
  have HG : Aside0 (bits_Get.f bs (((at_ : Int) + a)) wd = some ((wd : Int), hiW (seen bs (at_ + a) wd), loW (seen bs (at_ + a) wd), 0)) := ⟨by
    unfold bits_Get.f seen
    rw [if_pos hok, if_pos (by omega), if_pos (by omega)]
    rw [show ((at_ : Int) + a).toNat = at_ + a by omega, Int.toNat_natCast]⟩
  obtain ⟨A, c, w0, hC, hc, hB, hg, hk⟩ := h
  have HC := Aside0.mk hC
  have HB := Aside0.mk hB
  have HK := Aside0.mk (blk_alloc hk (.cells #[.int .i64 0, .int .u64 0, .int .u64 0] 26 (0, 0)))
  have HN := Aside0.mk (blk_new w (.cells #[.int .i64 0, .int .u64 0, .int .u64 0] 26 (0, 0)))
  have h0 : ∀ W : World, W.heap = (w.alloc (.cells #[.int .i64 0, .int .u64 0, .int .u64 0] 26 (0, 0))).heap → W.cell? ⟨g, 0, none⟩ = some (.slice A bs.length c) ∧ W.cell? ⟨g, 1, none⟩ = some (.int .i64 at_) := by
    intro W hW
    have hk2 : W.heap[g]? = some (.cells #[.slice A bs.length c, .int .i64 at_] 95 (0, 0)) := by rw [hW]; exact HK.out
    exact ⟨blk_cell hk2 0, blk_cell hk2 1⟩
  have H0 := Aside0.mk h0
  clear h0 hk hC hB
  have ew : IntKind.i64.wrap ((at_ : Int) + a) = (at_ : Int) + a := IntWalk.i64_in _ (by omega)
  go_enter Try.func38, Try.ntmps38
  go_wp2_with (first | (go_at_call 57; refine (bits_width.calls _ _ _ HW.out).mono ?_; rintro e w1 ⟨rfl, ⟨n1, rfl⟩⟩) | (go_at_call 69; refine (left_calls _ g bs at_ (H.out _) (by omega) (by omega)).mono ?_; rintro e w2 ⟨rfl, ⟨n2, rfl⟩⟩))
  clear H h1 h2 h3
  refine start_ (n := 18) (S := fun w' => w'.cell? ⟨g, 0, none⟩ = some (.slice A bs.length c) ∧ w'.cell? ⟨g, 1, none⟩ = some (.int .i64 at_)) (ds := [16]) #[false, false, false, false, false, false, false, false, false, false, false, false, false, false, false, false, false, false] (by kernel_rfl) rfl rfl ⟨(H0.out _ rfl).1, (H0.out _ rfl).2⟩ (fun hHeld => ?_); refine with_tabW xLook.tab9 xLook.bits9 (fun HT_ HW_ => ?_)
  refine pure_ (i := 0) (N := some 39) (v := ?_) (a' := ?_) #[true, false, false, false, false, false, false, false, false, false, false, false, false, false, false, false, false, false] rfl rfl (any_of HT_.out (by kernel_rfl)) (fun _ _ _ h => h) (Or.inl ⟨by rfl, ?_⟩) ?_ ?_
  rotate_left
  · intro w'
    go_simp
    with_reducible rfl
  rotate_left
  · simp only [Act.put, List.setIfInBounds_toArray, List.set_cons_zero, List.set_cons_succ, i64_w, i32_w]
    rfl
  refine pure_ (i := 1) (N := some 40) (v := ?_) (a' := ?_) #[true, true, false, false, false, false, false, false, false, false, false, false, false, false, false, false, false, false] rfl rfl (any_of HT_.out (by kernel_rfl)) (fun _ _ _ h => h) (Or.inl ⟨by rfl, ?_⟩) ?_ ?_
  rotate_left
  · intro w'
    go_simp
    with_reducible rfl
  rotate_left
  · simp only [Act.put, List.setIfInBounds_toArray, List.set_cons_zero, List.set_cons_succ, i64_w, i32_w]
    rfl
  refine pure_ (i := 2) (N := some 41) (v := ?_) (a' := ?_) #[true, true, true, false, false, false, false, false, false, false, false, false, false, false, false, false, false, false] rfl rfl (any_of HT_.out (by kernel_rfl)) (fun _ _ _ h => h) (Or.inl ⟨by rfl, ?_⟩) ?_ ?_
  rotate_left
  · intro w'
    go_simp
    with_reducible rfl
  rotate_left
  · simp only [Act.put, List.setIfInBounds_toArray, List.set_cons_zero, List.set_cons_succ, i64_w, i32_w]
    rfl
  refine pure_ (i := 3) (N := some 42) (v := ?_) (a' := ?_) #[true, true, true, true, false, false, false, false, false, false, false, false, false, false, false, false, false, false] rfl rfl (any_of HT_.out (by kernel_rfl)) (fun _ _ _ h => h) (Or.inl ⟨by rfl, ?_⟩) ?_ ?_
  rotate_left
  · intro w'
    go_simp
    with_reducible rfl
  rotate_left
  · simp only [Act.put, List.setIfInBounds_toArray, List.set_cons_zero, List.set_cons_succ, i64_w, i32_w]
    rfl
  refine pure_ (i := 5) (N := some 44) (v := ?_) (a' := ?_) #[true, true, true, true, false, true, false, false, false, false, false, false, false, false, false, false, false, false] rfl rfl (any_of HT_.out (by kernel_rfl)) (fun _ _ _ h => h) (Or.inl ⟨by rfl, ?_⟩) ?_ ?_
  rotate_left
  · intro w'
    go_simp
    with_reducible rfl
  rotate_left
  · simp only [Act.put, List.setIfInBounds_toArray, List.set_cons_zero, List.set_cons_succ, i64_w, i32_w]
    rfl
  refine pure_ (i := 6) (N := some 45) (v := ?_) (a' := ?_) #[true, true, true, true, false, true, true, false, false, false, false, false, false, false, false, false, false, false] rfl rfl (any_of HT_.out (by kernel_rfl)) (fun _ _ _ h => h) (Or.inl ⟨by rfl, ?_⟩) ?_ ?_
  rotate_left
  · intro w'
    go_simp
    with_reducible rfl
  rotate_left
  · simp only [Act.put, List.setIfInBounds_toArray, List.set_cons_zero, List.set_cons_succ, i64_w, i32_w]
    rfl
  refine pure_ (i := 7) (N := some 46) (v := ?_) (a' := ?_) #[true, true, true, true, false, true, true, true, false, false, false, false, false, false, false, false, false, false] rfl rfl (any_of HT_.out (by kernel_rfl)) (fun _ _ _ h => h) (Or.inl ⟨by rfl, ?_⟩) ?_ ?_
  rotate_left
  · intro w'
    go_simp
    with_reducible rfl
  rotate_left
  · simp only [Act.put, List.setIfInBounds_toArray, List.set_cons_zero, List.set_cons_succ, i64_w, i32_w]
    rfl
  refine pure_ (i := 8) (N := some 47) (v := ?_) (a' := ?_) #[true, true, true, true, false, true, true, true, true, false, false, false, false, false, false, false, false, false] rfl rfl (any_of HT_.out (by kernel_rfl)) (fun _ _ _ h => h) (Or.inl ⟨by rfl, ?_⟩) ?_ ?_
  rotate_left
  · intro w'
    go_simp
    with_reducible rfl
  rotate_left
  · simp only [Act.put, List.setIfInBounds_toArray, List.set_cons_zero, List.set_cons_succ, i64_w, i32_w]
    rfl
  refine pure_ (i := 10) (N := some 49) (v := ?_) (a' := ?_) #[true, true, true, true, false, true, true, true, true, false, true, false, false, false, false, false, false, false] rfl rfl (any_of HT_.out (by kernel_rfl)) (fun _ _ _ h => h) (Or.inl ⟨by rfl, ?_⟩) ?_ ?_
  rotate_left
  · intro w'
    go_simp
    with_reducible rfl
  rotate_left
  · simp only [Act.put, List.setIfInBounds_toArray, List.set_cons_zero, List.set_cons_succ, i64_w, i32_w]
    rfl
  refine pure_ (i := 12) (N := some 51) (v := ?_) (a' := ?_) #[true, true, true, true, false, true, true, true, true, false, true, false, true, false, false, false, false, false] rfl rfl (any_of HT_.out (by kernel_rfl)) (fun _ _ _ h => h) (Or.inl ⟨by rfl, ?_⟩) ?_ ?_
  rotate_left
  · intro w'
    go_simp
    with_reducible rfl
  rotate_left
  · simp only [Act.put, List.setIfInBounds_toArray, List.set_cons_zero, List.set_cons_succ, i64_w, i32_w]
    rfl
  refine take_ (i := 4) (N := some 43) (v := ?_) (a' := ?_) #[true, true, true, true, true, true, true, true, true, false, true, false, true, false, false, false, false, false] rfl rfl (take_ofW HT_.out HW_.out (by kernel_rfl)) (fun _ _ _ h => h) (Or.inl ⟨by rfl, ?_⟩) hHeld ?_ ?_
  rotate_left
  · rintro w' ⟨s0, s1⟩
    go_simp
    with_reducible rfl
  rotate_left
  · simp only [Act.put, List.setIfInBounds_toArray, List.set_cons_zero, List.set_cons_succ, i64_w, i32_w]
    rfl
  refine take_ (i := 9) (N := some 48) (v := ?_) (a' := ?_) #[true, true, true, true, true, true, true, true, true, true, true, false, true, false, false, false, false, false] rfl rfl (take_ofW HT_.out HW_.out (by kernel_rfl)) (fun _ _ _ h => h) (Or.inl ⟨by rfl, ?_⟩) hHeld ?_ ?_
  rotate_left
  · rintro w' ⟨s0, s1⟩
    go_simp
    with_reducible rfl
  rotate_left
  · simp only [Act.put, List.setIfInBounds_toArray, List.set_cons_zero, List.set_cons_succ, i64_w, i32_w]
    rfl
  refine pure_ (i := 11) (N := some 50) (v := ?_) (a' := ?_) #[true, true, true, true, true, true, true, true, true, true, true, true, true, false, false, false, false, false] rfl rfl (any_of HT_.out (by kernel_rfl)) (fun _ _ _ h => h) (Or.inl ⟨by rfl, ?_⟩) ?_ ?_
  rotate_left
  · intro w'
    go_simp
    with_reducible rfl
  rotate_left
  · simp only [Act.put, List.setIfInBounds_toArray, List.set_cons_zero, List.set_cons_succ, i64_w, i32_w]
    rfl
  refine one_ (i := 13) (N := some 52) #[true, true, true, true, true, true, true, true, true, true, true, true, true, true, false, false, false, false] rfl rfl (one_of HT_.out (by kernel_rfl)) (by decide) (fun K hK => ?_)
  refine goes_ Try.func16 (by kernel_rfl) rfl #[.slice A bs.length c, .int .i64 ((at_ : Int) + a), .int .i64 wd] (by rfl) rfl rfl (by simp only [List.map_toArray, List.map_cons, List.map_nil]; rfl) ?_
  with_reducible refine (bits_Get.calls _ _ _ _ _ _ _ _ _ _ (Kd.C_below HC.out (by repeat (first | (with_reducible exact HB.out) | apply below_drew1 | apply pw_below_drewN | apply below_alloc))) hc HG.out).mono ?_
  rintro e w35 ⟨rfl, hb⟩
  refine ⟨_, rfl, ?_⟩
  have HBB := Aside0.mk hb
  have K5 := Aside0.mk (blk_below (blk_drew (blk_drewN HK.out _)) hb)
  have N5 := Aside0.mk (blk_below (blk_drew (blk_drewN HN.out _)) hb)
  clear hb
  have k0 := blk_cell K5.out 0
  have k1 := blk_cell K5.out 1
  refine hK.out _ _ ⟨k0, k1⟩ (fun hHeld => ?_)
  clear hK K
  refine norm_ (a' := ?_) ?_ ?_
  rotate_left
  · show Act.put _ (some 52) _ = _
    simp only [Act.put, List.setIfInBounds_toArray, List.set_cons_zero, List.set_cons_succ, i64_w, i32_w]
    rfl
  refine pure_ (i := 14) (N := some 53) (v := ?_) (a' := ?_) #[true, true, true, true, true, true, true, true, true, true, true, true, true, true, true, false, false, false] rfl rfl (any_of HT_.out (by kernel_rfl)) (fun _ _ _ h => h) (Or.inl ⟨by rfl, ?_⟩) ?_ ?_
  rotate_left
  · intro w'
    go_simp
    with_reducible rfl
  rotate_left
  · simp only [Act.put, List.setIfInBounds_toArray, List.set_cons_zero, List.set_cons_succ, i64_w, i32_w]
    rfl
  refine pure_ (i := 15) (N := some 54) (v := ?_) (a' := ?_) #[true, true, true, true, true, true, true, true, true, true, true, true, true, true, true, true, false, false] rfl rfl (any_of HT_.out (by kernel_rfl)) (fun _ _ _ h => h) (Or.inl ⟨by rfl, ?_⟩) ?_ ?_
  rotate_left
  · intro w'
    go_simp
    with_reducible rfl
  rotate_left
  · simp only [Act.put, List.setIfInBounds_toArray, List.set_cons_zero, List.set_cons_succ, i64_w, i32_w]
    rfl
  refine last_ (i := 16) (N := none) #[true, true, true, true, true, true, true, true, true, true, true, true, true, true, true, true, true, false] rfl rfl (one_of HT_.out (by kernel_rfl)) (by decide) (fun K hK => ?_)
  have e0 : w35.cell? ⟨w.heap.size, 0, none⟩ = some (.int .i64 0) := blk_cell N5.out 0
  have e1 : w35.cell? ⟨w.heap.size, 1, none⟩ = some (.int .u64 0) := blk_cell N5.out 1
  have e2 : w35.cell? ⟨w.heap.size, 2, none⟩ = some (.int .u64 0) := blk_cell N5.out 2
  have ef : ∀ j, w35.frozen? ⟨w.heap.size, j, none⟩ = false := blk_frozen N5.out
  refine skip_ (w1 := ?_) (by rfl) rfl ?_ ?_
  rotate_left
  · go_simp
    rfl
  refine hK.out _ _ ?_
  clear hK K
  refine pure_ (i := 17) (N := some 7) (v := ?_) (a' := ?_) #[true, true, true, true, true, true, true, true, true, true, true, true, true, true, true, true, true, true] rfl rfl (any_of HT_.out (by kernel_rfl)) (fun _ _ _ h => h) (Or.inl ⟨by rfl, ?_⟩) ?_ ?_
  rotate_left
  · intro w'
    go_simp
    with_reducible rfl
  rotate_left
  · simp only [Act.put, List.setIfInBounds_toArray, List.set_cons_zero, List.set_cons_succ, i64_w, i32_w]
    rfl
  refine done_ (done_of HT_.out (by kernel_rfl)) ?_
  go_wp2
  refine bodyPost_ret (results_ct rfl _ _ w.heap.size 26 _ (0, 0) _ rfl (blk_set (blk_set (blk_set N5.out 0 _) 1 _) 2 _) Try.underlying26 rfl (by kernel_rfl)) rfl ⟨rfl, ?_⟩
  exact below_set (below_set (below_set (below_step (below_drew1 (pw_below_drewN (below_alloc (Below.refl _ _) _) _)) HBB.out) (Nat.le_refl _)) (Nat.le_refl _)) (Nat.le_refl _)
set_option maxHeartbeats 400000 in
set_option maxRecDepth 100000 in
theorem Vec_err (tp : Value) (wd r : Int) (w : World) (hr : r ≠ 0) (hL : ∀ W : World, Below w.heap.size w W → Calls Try.prog 38 #[tp, .int .i64 0, .int .i64 wd] W fun e w' => e = .returned (.tuple #[.agg #[.int .i64 0, .int .u64 0, .int .u64 0], .int .i64 r]) ∧ Below W.heap.size W w') :
    Calls Try.prog 40 #[tp, .int .i64 wd] w fun e w' => e = .returned (.tuple #[.agg #[.int .i64 0, .int .u64 0, .int .u64 0], .int .i64 r]) ∧ Below w.heap.size w w' := by
  have HL := Aside0.mk hL
  have hr2 : (r == 0) = false := by simp [hr]
  clear hL hr
  go_enter Try.func40, Try.ntmps40
  go_wp2_with (go_at_call 38; refine (HL.out _ (below_alloc (Below.refl _ _) _)).mono ?_; rintro e w1 ⟨rfl, hb⟩; have HB := Aside0.mk hb; have N1 := Aside0.mk (blk_below (blk_new w (.cells #[.int .i64 0, .int .u64 0, .int .u64 0] 26 (0, 0))) hb); have k0 : ∀ o, (w1.alloc o).cell? ⟨w.heap.size, 0, none⟩ = some (.int .i64 0) := fun o => blk_cell (blk_alloc N1.out o) 0; have k1 : ∀ o, (w1.alloc o).cell? ⟨w.heap.size, 1, none⟩ = some (.int .u64 0) := fun o => blk_cell (blk_alloc N1.out o) 1; have k2 : ∀ o, (w1.alloc o).cell? ⟨w.heap.size, 2, none⟩ = some (.int .u64 0) := fun o => blk_cell (blk_alloc N1.out o) 2; have kf : ∀ o j, (w1.alloc o).frozen? ⟨w.heap.size, j, none⟩ = false := fun o => blk_frozen (blk_alloc N1.out o); clear hb)
  refine bodyPost_ret (results_ct rfl _ _ w.heap.size 26 _ (0, 0) _ rfl (blk_set (blk_set (blk_set (blk_alloc N1.out _) 0 _) 1 _) 2 _) Try.underlying26 rfl (by kernel_rfl)) rfl ⟨rfl, ?_⟩
  exact below_set (below_set (below_set (below_alloc (below_step (below_alloc (Below.refl _ _) _) HB.out) _) (Nat.le_refl _)) (Nat.le_refl _)) (Nat.le_refl _)
/-- A call that writes into block g alone. -/
structure OnlyB (g : Nat) (w w' : World) : Prop where
  below : Below g w w'
  size : w.heap.size ≤ w'.heap.size
  block : ∀ k, k < w.heap.size → k ≠ g → w'.heap[k]? = w.heap[k]?
theorem TK.far {w : World} {g : Nat} {bs : List Int} {at_ : Nat} (h : TK w g bs at_) {p : Addr} (hp : g < p.block) (v : Value) : TK (w.setCell p v) g bs at_ := by
  obtain ⟨A, c, w0, hC, hc, hB, hg, hk⟩ := h
  exact ⟨A, c, w0, hC, hc, hB.setCell (by omega) _, hg, blk_far hk (by omega) v⟩
theorem OnlyB.of_below {g : Nat} {w w' : World} (hg : g ≤ w.heap.size) (h : Below w.heap.size w w') : OnlyB g w w' :=
  ⟨h.mono hg, h.size, fun k hk _ => h.block k hk⟩
theorem OnlyB.trans {g : Nat} {w w1 w2 : World} (h : OnlyB g w w1) (k : OnlyB g w1 w2) : OnlyB g w w2 :=
  ⟨h.below.trans k.below, Nat.le_trans h.size k.size, fun j hj hne => (k.block j (Nat.lt_of_lt_of_le hj h.size) hne).trans (h.block j hj hne)⟩
theorem OnlyB.set {g : Nat} {w w1 : World} (h : OnlyB g w w1) {p : Addr} (hg : g ≤ p.block) (hp : p.block = g ∨ w.heap.size ≤ p.block) (v : Value) : OnlyB g w (w1.setCell p v) :=
  ⟨h.below.setCell hg _, by rw [World.size_setCell]; exact h.size, fun j hj hne => (Below.heap_setCell w1 p v j (by omega)).trans (h.block j hj hne)⟩
theorem OnlyB.alloc {g : Nat} {w w1 : World} (h : OnlyB g w w1) (hg : g ≤ w.heap.size) (o : Obj) : OnlyB g w (w1.alloc o) :=
  h.trans (OnlyB.of_below (Nat.le_trans hg h.size) (below_alloc (Below.refl _ _) o))
set_option maxHeartbeats 400000 in
set_option maxRecDepth 100000 in
theorem Vec_ok (g : Nat) (bs : List Int) (at_ wd : Nat) (w : World) (h : TK w g bs at_) (hok : okBytes bs) (hl : bs.length < 1073741824) (h1 : 1 ≤ wd) (h2 : wd ≤ 128) (h3 : at_ + wd ≤ 8 * bs.length) :
    Calls Try.prog 40 #[.pointer (some ⟨g, 0, none⟩), .int .i64 wd] w fun e w' => e = .returned (.tuple #[.agg #[.int .i64 wd, .int .u64 (hiW (seen bs at_ wd)), .int .u64 (loW (seen bs at_ wd))], .int .i64 0]) ∧ TK w' g bs (at_ + wd) ∧ OnlyB g w w' := by
  have H := Aside0.mk h
  have HL : Aside0 (∀ W : World, Below w.heap.size w W → Calls Try.prog 38 #[.pointer (some ⟨g, 0, none⟩), .int .i64 0, .int .i64 wd] W fun e w' => e = .returned (.tuple #[.agg #[.int .i64 wd, .int .u64 (hiW (seen bs at_ wd)), .int .u64 (loW (seen bs at_ wd))], .int .i64 0]) ∧ Below W.heap.size W w') := ⟨fun W hW => Look_ok g bs at_ 0 wd W (H.out.below hW) hok hl h1 h2 (by omega)⟩
  have ew : IntKind.i64.wrap ((at_ : Int) + wd) = (at_ : Int) + wd := IntWalk.i64_in _ (by omega)
  have hgl := h.lt
  clear h
  go_enter Try.func40, Try.ntmps40
  go_wp2_with fail
  refine (HL.out _ (below_alloc (Below.refl _ _) _)).mono ?_
  rintro e w1 ⟨rfl, hb⟩
  have HB := Aside0.mk hb
  have N1 := Aside0.mk (blk_below (blk_new w (.cells #[.int .i64 0, .int .u64 0, .int .u64 0] 26 (0, 0))) hb)
  have K1 := Aside0.mk ((H.out.below (below_alloc (Below.refl _ _) (.cells #[.int .i64 0, .int .u64 0, .int .u64 0] 26 (0, 0)))).below hb)
  have hs1 : w.heap.size < w1.heap.size := blk_lt N1.out
  have hs2 : g < w1.heap.size := K1.out.lt
  have ne1 : w1.heap.size ≠ g := by omega
  have ne2 : w.heap.size ≠ g := by omega
  clear hb
  obtain ⟨A, c, w0, hC, hc, hB, hg, hk⟩ := K1.out
  have c1 := blk_cell hk 1
  have cf := blk_frozen hk
  have r0 := blk_cell N1.out 0
  have r1 := blk_cell N1.out 1
  have r2 := blk_cell N1.out 2
  have rf := blk_frozen N1.out
  have KK := Aside0.mk (TK.set K1.out (at_ + wd))
  have hg2 := Aside0.mk hg
  have hk2 := Aside0.mk hk
  clear hC hB hk hg
  simp only [List.getElem?_toArray, List.getElem?_cons_succ, List.getElem?_cons_zero] at r0 r1 r2 c1
  go_wp2
  refine bodyPost_ret (results_ct rfl _ _ w.heap.size 26 _ (0, 0) _ rfl (blk_alloc (blk_set (blk_set (blk_set (blk_far N1.out (p := ⟨g, 1, none⟩) ne2 _) 0 _) 1 _) 2 _) _) Try.underlying26 rfl (by kernel_rfl)) rfl ⟨rfl, ?_, ?_⟩
  · exact (((KK.out.far hgl _).far hgl _).far hgl _).below (below_alloc (Below.refl _ _) _)
  · exact (((((OnlyB.of_below (Nat.le_of_lt hgl) (below_step (below_alloc (Below.refl _ _) _) HB.out)).set (Nat.le_refl _) (Or.inl rfl) _).set (Nat.le_of_lt hgl) (Or.inr (Nat.le_refl _)) _).set (Nat.le_of_lt hgl) (Or.inr (Nat.le_refl _)) _).set (Nat.le_of_lt hgl) (Or.inr (Nat.le_refl _)) _).alloc (Nat.le_of_lt hgl) _
set_option maxHeartbeats 400000 in
set_option maxRecDepth 100000 in
theorem Bytes_nil (n : Int) (w : World) :
    Calls Try.prog 37 #[.pointer none, .int .i64 n] w fun e w' => e = .returned (.tuple #[.slice none 0 0, .int .i64 1]) ∧ Below w.heap.size w w' := by
  go_enter Try.func37, Try.ntmps37
  go_wp2
  go_ret2
  exact ⟨rfl, Below.refl _ _⟩
set_option maxHeartbeats 400000 in
set_option maxRecDepth 100000 in
theorem Bytes_state (g : Nat) (bs : List Int) (at_ : Nat) (n : Int) (w : World) (h : TK w g bs at_) (h8 : at_ % 8 ≠ 0) (ha : at_ < 1125899906842624) :
    Calls Try.prog 37 #[.pointer (some ⟨g, 0, none⟩), .int .i64 n] w fun e w' => e = .returned (.tuple #[.slice none 0 0, .int .i64 13]) ∧ Below w.heap.size w w' := by
  obtain ⟨A, c, w0, hC, hc, hB, hg, hk⟩ := h
  have c1 : w.cell? ⟨g, 1, none⟩ = some (.int .i64 at_) := blk_cell hk 1
  have e : Int.tmod (at_ : Int) 8 = ((at_ % 8 : Nat) : Int) := rfl
  have e2 : (((at_ % 8 : Nat) : Int) != 0) = true := by simp; omega
  clear hC hB hk hg
  go_enter Try.func37, Try.ntmps37
  go_wp2
  go_ret2
  exact ⟨rfl, Below.refl _ _⟩
theorem tdiv_left (len at_ : Nat) (hat : at_ ≤ 8 * len) : Int.tdiv (8 * (len : Int) - at_) 8 = (((8 * len - at_) / 8 : Nat) : Int) := by
  rw [show 8 * (len : Int) - at_ = ((8 * len - at_ : Nat) : Int) by omega]
  rfl
set_option maxHeartbeats 400000 in
set_option maxRecDepth 100000 in
theorem Bytes_range (g : Nat) (bs : List Int) (at_ : Nat) (n : Int) (w : World) (h : TK w g bs at_) (h8 : at_ % 8 = 0) (hn : n < 0) :
    Calls Try.prog 37 #[.pointer (some ⟨g, 0, none⟩), .int .i64 n] w fun e w' => e = .returned (.tuple #[.slice none 0 0, .int .i64 7]) ∧ Below w.heap.size w w' := by
  obtain ⟨A, c, w0, hC, hc, hB, hg, hk⟩ := h
  have c1 : w.cell? ⟨g, 1, none⟩ = some (.int .i64 at_) := blk_cell hk 1
  have e : Int.tmod (at_ : Int) 8 = 0 := by rw [show Int.tmod (at_ : Int) 8 = ((at_ % 8 : Nat) : Int) from rfl, h8]; rfl
  clear hC hB hk hg
  go_enter Try.func37, Try.ntmps37
  go_wp2
  go_ret2
  exact ⟨rfl, Below.refl _ _⟩
set_option maxHeartbeats 400000 in
set_option maxRecDepth 100000 in
theorem Bytes_end (g : Nat) (bs : List Int) (at_ n : Nat) (w : World) (h : TK w g bs at_) (hl : bs.length < 1073741824) (hat : at_ ≤ 8 * bs.length) (h8 : at_ % 8 = 0) (hn : (8 * bs.length - at_) / 8 < n) :
    Calls Try.prog 37 #[.pointer (some ⟨g, 0, none⟩), .int .i64 n] w fun e w' => e = .returned (.tuple #[.slice none 0 0, .int .i64 3]) ∧ Below w.heap.size w w' := by
  have H := Aside0.mk h
  obtain ⟨A, c, w0, hC, hc, hB, hg, hk⟩ := h
  have c1 : w.cell? ⟨g, 1, none⟩ = some (.int .i64 at_) := blk_cell hk 1
  have e : Int.tmod (at_ : Int) 8 = 0 := by rw [show Int.tmod (at_ : Int) 8 = ((at_ % 8 : Nat) : Int) from rfl, h8]; rfl
  have ed := tdiv_left bs.length at_ hat
  have e2 : decide ((8 * bs.length - at_) / 8 < n) = true := by simp; omega
  have e4 : (8 * bs.length - at_) / 8 < n := hn
  clear hC hB hk hg hn
  go_enter Try.func37, Try.ntmps37
  go_wp2_with (go_at_call 69; refine (left_calls _ g bs at_ H.out (by omega) (by omega)).mono ?_; rintro e w1 ⟨rfl, ⟨n1, rfl⟩⟩)
  go_ret2
  exact ⟨rfl, pw_below_drewN (Below.refl _ _) _⟩
set_option maxHeartbeats 400000 in
set_option maxRecDepth 100000 in
theorem Bytes_ok (g : Nat) (bs : List Int) (at_ n : Nat) (w : World) (h : TK w g bs at_) (hl : bs.length < 1073741824) (hat : at_ ≤ 8 * bs.length) (h8 : at_ % 8 = 0) (hn : n ≤ (8 * bs.length - at_) / 8) :
    Calls Try.prog 37 #[.pointer (some ⟨g, 0, none⟩), .int .i64 n] w fun e w' => ∃ v, e = .returned (.tuple #[v, .int .i64 0]) ∧ Kd.R (Kd.int .u8) 5 w' w.heap.size (fun _ => True) v ((bs.take (at_ / 8 + n)).drop (at_ / 8)) ∧ TK w' g bs (at_ + 8 * n) ∧ OnlyB g w w' := by
  have H := Aside0.mk h
  have hgl := h.lt
  obtain ⟨A, c, w0, hC, hc, hB, hg, hk⟩ := h
  have c1 : w.cell? ⟨g, 1, none⟩ = some (.int .i64 at_) := blk_cell hk 1
  have c0 : w.cell? ⟨g, 0, none⟩ = some (.slice A bs.length c) := blk_cell hk 0
  have cf := blk_frozen hk
  have e : Int.tmod (at_ : Int) 8 = 0 := by rw [show Int.tmod (at_ : Int) 8 = ((at_ % 8 : Nat) : Int) from rfl, h8]; rfl
  have ed := tdiv_left bs.length at_ hat
  have ed2 : Int.tdiv (at_ : Int) 8 = ((at_ / 8 : Nat) : Int) := rfl
  have e2 : decide ((8 * bs.length - at_) / 8 < n) = false := by simp; omega
  have e4 : ¬ (8 * bs.length - at_) / 8 < n := by omega
  have HC := Aside0.mk hC
  have HB := Aside0.mk hB
  have HK := Aside0.mk hk
  have hf : at_ / 8 + n ≤ bs.length := by omega
  clear hC hB hk
  have KT := Aside0.mk (fun m => TK.set (H.out.below (pw_below_drewN (Below.refl _ _) m)) (at_ + 8 * n))
  have EI := Aside0.mk (show ((at_ : Int) + 8 * (n : Int)) = ((at_ + 8 * n : Nat) : Int) from by omega)
  have BB := Aside0.mk (fun m => (pw_below_drewN HB.out m).setCell (p := ⟨g, 1, none⟩) hg (.int .i64 ((at_ + 8 * n : Nat) : Int)))
  by_cases hn0 : n = 0
  · subst hn0
    go_enter Try.func37, Try.ntmps37
    go_wp2_with (first | (go_at_call 69; refine (left_calls _ g bs at_ H.out (by omega) (by omega)).mono ?_; rintro e w1 ⟨rfl, ⟨n1, rfl⟩⟩) | fail)
    rename_i n1 _
    refine (bytes_Clone.calls A 0 [] [] _ ⟨rfl, by simp, fun h => absurd h (Nat.lt_irrefl 0)⟩ (Nat.le_refl _) (by unfold bytes_Clone.f; rw [if_pos (by simp)])).mono ?_
    rintro e w2 ⟨v0, rfl, ho, hb⟩
    have HO := Aside0.mk ho
    have HBN := Aside0.mk hb
    clear ho hb
    go_wp2
    go_ret2
    refine ⟨v0, rfl, ?_, (KT.out n1).below HBN.out, ?_⟩
    · rw [List.drop_of_length_le (by simp; omega)]
      exact Kd.R_lower HO.out (by simp)
    · exact (OnlyB.of_below (Nat.le_of_lt hgl) (pw_below_drewN (Below.refl _ _) n1)).set (Nat.le_refl _) (Or.inl rfl) _ |>.trans (OnlyB.of_below (by simpa using Nat.le_of_lt hgl) HBN.out)
  · have hcl : ¬ c = at_ / 8 := by omega
    go_enter Try.func37, Try.ntmps37
    go_wp2_with (first | (go_at_call 69; refine (left_calls _ g bs at_ H.out (by omega) (by omega)).mono ?_; rintro e w1 ⟨rfl, ⟨n1, rfl⟩⟩) | fail)
    rw [EI.out]
    have hC2 := Kd.C_mid (lo := at_ / 8) (hi := at_ / 8 + n) (Kd.C_below HC.out (BB.out n1)) (by omega) hf hc
    rw [if_neg hcl, show (fun x : Addr => x.add (at_ / 8 * (Kd.int .u8).sz)) = (fun x => x.add (at_ / 8)) from by funext x; show x.add (at_ / 8 * 1) = _; rw [Nat.mul_one]] at hC2
    have hlen : ((bs.take (at_ / 8 + n)).drop (at_ / 8)).length = n := by simp; omega
    have HL := Aside0.mk (show bytes_Clone.f ((bs.take (at_ / 8 + n)).drop (at_ / 8)) = some ((bs.take (at_ / 8 + n)).drop (at_ / 8)) from by unfold bytes_Clone.f; rw [if_pos (by rw [hlen]; omega)])
    have hcalls := bytes_Clone.calls _ ((bs.take (at_ / 8 + n)).drop (at_ / 8)).length _ _ _ hC2 (Nat.le_refl _) HL.out
    rw [hlen] at hcalls
    refine hcalls.mono ?_
    rintro e w2 ⟨v0, rfl, ho, hb⟩
    have HO := Aside0.mk ho
    have HBN := Aside0.mk hb
    clear ho hb hcalls hC2
    go_wp2
    go_ret2
    refine ⟨v0, rfl, Kd.R_lower HO.out (by simp), (KT.out n1).below HBN.out, ?_⟩
    exact (OnlyB.of_below (Nat.le_of_lt hgl) (pw_below_drewN (Below.refl _ _) n1)).set (Nat.le_refl _) (Or.inl rfl) _ |>.trans (OnlyB.of_below (by simpa using Nat.le_of_lt hgl) HBN.out)

end Go.Proofs.Ytjbpianofkblbaa.XT
