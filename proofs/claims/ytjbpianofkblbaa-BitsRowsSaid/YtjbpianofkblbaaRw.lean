/- A row's methods keep their contracts. -/
import Derived.Test.YtjbpianofkblbaaTk
import Derived.Outline
namespace Go.Proofs.Ytjbpianofkblbaa.XT
open Go.RowKit Go.Proofs.YtjbpianofkblbaaW.PrintWords Go.Proofs.YtjbpianofkblbaaW.PrintLast Go.Proofs.YtjbpianofkblbaaW.PrintMore
attribute [local go_sem] max2_int min2_int max_two min_two max_three min_three max_four min_four   -- for this text's walks alone
set_option linter.unusedVariables false
set_option linter.unusedSimpArgs false
/-- A row at block g: its bytes are a slice of its own, v; nothing below w0 was touched. -/
structure RK (w0 w : World) (g : Nat) (v : Value) (bs : List Int) (n : Nat) : Prop where
  blk : w.heap[g]? = some (.cells #[v, .int .i64 n] 68 (0, 0))
  row : Kd.R (Kd.int .u8) 5 w w0.heap.size (fun k => k ≠ g) v bs
  ge : w0.heap.size ≤ g
  below : Below w0.heap.size w0 w
theorem RK.lt {w0 w : World} {g : Nat} {v : Value} {bs : List Int} {n : Nat} (h : RK w0 w g v bs n) : g < w.heap.size := blk_lt h.blk
theorem RK.step {w0 w w1 : World} {g : Nat} {v : Value} {bs : List Int} {n : Nat} (h : RK w0 w g v bs n) (hb : Below w.heap.size w w1) : RK w0 w1 g v bs n :=
  ⟨blk_below h.blk hb, Kd.R_below h.row hb, h.ge, below_step h.below hb⟩
/-- What a call of a row's method leaves. -/
structure RP (w0 w w' : World) (g : Nat) (v v1 : Value) (bs : List Int) (n : Nat) : Prop where
  rk : RK w0 w' g v1 bs n
  kept : Kept w w' (fun k => k = g ∨ some k = v.ownBlock)
  at_ : v1.ownBlock = v.ownBlock ∨ ∃ b, v1.ownBlock = some b ∧ w.heap.size ≤ b
theorem RP.of_below {w0 w w' : World} {g : Nat} {v : Value} {bs : List Int} {n : Nat} (h : RK w0 w g v bs n) (hb : Below w.heap.size w w') : RP w0 w w' g v v bs n :=
  ⟨h.step hb, Kept.of_below hb _, .inl rfl⟩
set_option maxHeartbeats 400000 in
set_option maxRecDepth 100000 in
theorem Row_Len_calls (w0 w : World) (g : Nat) (v : Value) (bs : List Int) (n : Nat) (h : RK w0 w g v bs n) :
    Calls Try.prog 52 #[.pointer (some ⟨g, 0, none⟩)] w fun e w' => e = .returned (.int .i64 n) ∧ Drawn0 w w' := by
  have c1 : w.cell? ⟨g, 1, none⟩ = some (.int .i64 n) := blk_cell h.blk 1
  clear h
  go_enter Try.func52, Try.ntmps52
  go_wp2
  go_ret
  exact ⟨rfl, ⟨0, rfl⟩⟩
set_option maxHeartbeats 400000 in
set_option maxRecDepth 100000 in
theorem Row_Len_nil (w : World) : Calls Try.prog 52 #[.pointer none] w fun e w' => e = .returned (.int .i64 0) ∧ Drawn0 w w' := by
  go_enter Try.func52, Try.ntmps52
  go_wp2
  go_ret
  exact ⟨rfl, ⟨0, rfl⟩⟩
set_option maxHeartbeats 400000 in
set_option maxRecDepth 100000 in
theorem Row_All_nil (w : World) : Calls Try.prog 53 #[.pointer none] w fun e w' => e = .returned (.slice none 0 0) ∧ Drawn0 w w' := by
  go_enter Try.func53, Try.ntmps53
  go_wp2
  go_ret
  exact ⟨rfl, ⟨0, rfl⟩⟩
set_option maxHeartbeats 400000 in
set_option maxRecDepth 100000 in
theorem Row_All_calls (w0 w : World) (g : Nat) (v : Value) (bs : List Int) (n : Nat) (h : RK w0 w g v bs n) (hl : bs.length < 140737488355328) :
    Calls Try.prog 53 #[.pointer (some ⟨g, 0, none⟩)] w fun e w' => ∃ v1, e = .returned v1 ∧ Kd.R (Kd.int .u8) 5 w' w.heap.size (fun _ => True) v1 bs ∧ Below w.heap.size w w' := by
  obtain ⟨A, c, rfl, hc, hC⟩ := Kd.R_reads h.row
  have c0 : w.cell? ⟨g, 0, none⟩ = some (.slice A bs.length c) := blk_cell h.blk 0
  have HC := Aside0.mk hC
  have HL := Aside0.mk (show bytes_Clone.f bs = some bs from by unfold bytes_Clone.f; rw [if_pos hl])
  clear h hC
  go_enter Try.func53, Try.ntmps53
  go_wp2_with (go_at_call 67; refine (bytes_Clone.calls _ _ _ _ _ HC.out hc HL.out).mono ?_; rintro e w1 ⟨v0, rfl, ho, hb⟩; have HO := Aside0.mk ho; have HB := Aside0.mk hb; clear ho hb)
  go_ret
  exact ⟨_, rfl, HO.out, HB.out⟩
set_option maxHeartbeats 400000 in
set_option maxRecDepth 100000 in
theorem Row_Bytes_nil (A : Option Addr) (m c : Nat) (w : World) :
    Calls Try.prog 48 #[.pointer none, .slice A m c] w fun e w' => e = .returned (.int .i64 1) ∧ Drawn0 w w' := by
  go_enter Try.func48, Try.ntmps48
  go_wp2
  go_ret
  exact ⟨rfl, ⟨0, rfl⟩⟩
set_option maxHeartbeats 400000 in
set_option maxRecDepth 100000 in
theorem Row_Bytes_state (w0 w : World) (g : Nat) (v : Value) (bs : List Int) (n : Nat) (A : Option Addr) (m c : Nat) (h : RK w0 w g v bs n) (h8 : n % 8 ≠ 0) :
    Calls Try.prog 48 #[.pointer (some ⟨g, 0, none⟩), .slice A m c] w fun e w' => e = .returned (.int .i64 13) ∧ Drawn0 w w' := by
  have c1 : w.cell? ⟨g, 1, none⟩ = some (.int .i64 n) := blk_cell h.blk 1
  have em : Int.tmod (n : Int) 8 = ((n % 8 : Nat) : Int) := rfl
  have em2 : (((n % 8 : Nat) : Int) != 0) = true := by simp; omega
  clear h
  go_enter Try.func48, Try.ntmps48
  go_wp2
  go_ret
  exact ⟨rfl, ⟨0, rfl⟩⟩
set_option maxHeartbeats 400000 in
set_option maxRecDepth 100000 in
theorem Row_Bytes_long (w0 w : World) (g : Nat) (v : Value) (bs : List Int) (n : Nat) (A : Option Addr) (m c : Nat) (h : RK w0 w g v bs n) (h8 : n % 8 = 0) (hn : n ≤ 73728) (hm : m ≤ 9216) (hl : 73728 - n < 8 * m) :
    Calls Try.prog 48 #[.pointer (some ⟨g, 0, none⟩), .slice A m c] w fun e w' => e = .returned (.int .i64 2) ∧ Drawn0 w w' := by
  have c1 : w.cell? ⟨g, 1, none⟩ = some (.int .i64 n) := blk_cell h.blk 1
  have em2 : Int.tmod (n : Int) 8 = 0 := by rw [show Int.tmod (n : Int) 8 = ((n % 8 : Nat) : Int) from rfl, h8]; rfl
  have e1 : decide (9216 < (m : Int)) = false := by simp; omega
  have e2 : IntKind.i64.wrap (8 * (m : Int)) = 8 * (m : Int) := IntWalk.i64_in _ (by omega)
  have e3 : IntKind.i64.wrap (73728 - (n : Int)) = 73728 - (n : Int) := IntWalk.i64_in _ (by omega)
  have e4 : 73728 - (n : Int) < 8 * (m : Int) := by omega
  clear h
  go_enter Try.func48, Try.ntmps48
  go_wp2
  go_ret
  exact ⟨rfl, ⟨0, rfl⟩⟩
set_option maxHeartbeats 400000 in
set_option maxRecDepth 100000 in
theorem Row_Bytes_ok (w0 w : World) (g : Nat) (v : Value) (bs : List Int) (n : Nat) (A : Option Addr) (c : Nat) (ys : List Int) (h : RK w0 w g v bs n) (hC : Kd.C (Kd.int .u8) w A ys.length ys) (h8 : n % 8 = 0) (hn : n ≤ 73728) (hm : ys.length ≤ 9216) (hl : 8 * ys.length ≤ 73728 - n) (hbs : bs.length ≤ 9216) :
    Calls Try.prog 48 #[.pointer (some ⟨g, 0, none⟩), .slice A ys.length c] w fun e w' => e = .returned (.int .i64 0) ∧ ∃ v1, RP w0 w w' g v v1 (bs ++ ys) (n + 8 * ys.length) := by
  have H := Aside0.mk h
  have HC := Aside0.mk hC
  have c0 : w.cell? ⟨g, 0, none⟩ = some v := blk_cell h.blk 0
  have c1 : w.cell? ⟨g, 1, none⟩ = some (.int .i64 n) := blk_cell h.blk 1
  have em2 : Int.tmod (n : Int) 8 = 0 := by rw [show Int.tmod (n : Int) 8 = ((n % 8 : Nat) : Int) from rfl, h8]; rfl
  have e1 : decide (9216 < (ys.length : Int)) = false := by simp; omega
  have e2 : IntKind.i64.wrap (8 * (ys.length : Int)) = 8 * (ys.length : Int) := IntWalk.i64_in _ (by omega)
  have e3 : IntKind.i64.wrap (73728 - (n : Int)) = 73728 - (n : Int) := IntWalk.i64_in _ (by omega)
  have e4 : ¬ 73728 - (n : Int) < 8 * (ys.length : Int) := by omega
  have e5 : IntKind.i64.wrap ((n : Int) + 8 * (ys.length : Int)) = (n : Int) + 8 * (ys.length : Int) := IntWalk.i64_in _ (by omega)
  have hgl := h.lt
  have hge := h.ge
  have EI := Aside0.mk (show ((n : Int) + 8 * (ys.length : Int)) = ((n + 8 * ys.length : Nat) : Int) from by omega)
  clear h hC
  go_enter Try.func48, Try.ntmps48
  go_wp2_with ((with_reducible refine gate_builtin (b := .append) (xs := #[.tmp 34, .tmp 35]) rfl ?_); at_builtin; refine Kd.R_append_row (Value.int .u8) (0 : Int) (h1 := fun _ => rfl) (w0 := w0) w0.heap.size rfl (.tmp 34) (.tmp 35) 22 5 (.int .u8 0) 1 rfl Try.underlying22 info5 rfl (by decide) v bs ys A ys.length c (fun k => k ≠ g) rfl rfl ?aF H.out.row ?aR H.out.below ?aS ?aL ?_; (case aR => exact HC.out); (case aF => intro k hk; omega); (case aS => exact below_size H.out.below); (case aL => omega); intro v1 w1 ho hb hg hat; obtain ⟨A1, k1, rfl⟩ := Kd.R_slice ho; rw [List.length_append] at ho hat; have B1 := (hg.block g hgl (Kd.R_away H.out.row (fun k hk => hk))).trans H.out.blk; have d0 := blk_cell B1 0; have d1 := blk_cell B1 1; have df := blk_frozen B1; simp only [List.getElem?_toArray, List.getElem?_cons_succ, List.getElem?_cons_zero] at d0 d1; have HO := Aside0.mk ho; have HB := Aside0.mk hb; have HGR := Aside0.mk hg; have HAT := Aside0.mk hat; have HB1 := Aside0.mk B1; clear ho hb hg hat B1)
  refine bodyPost_ret (by simp [results, Try.results48, go_sem]) rfl ⟨rfl, _, ⟨?_, ?_, hge, ?_⟩, ?_, HAT.out⟩
  · rw [EI.out]
    exact blk_put (blk_set HB1.out 0 _) 1 _ rfl
  · exact Kd.R_far (Kd.R_far HO.out (p := ⟨g, 0, none⟩) (fun k hk => hk) _) (p := ⟨g, 1, none⟩) (fun k hk => hk) _
  · exact below_set (below_set HB.out hge) hge
  · exact ((Kept.of_grown HGR.out (Kept.refl _ _) (fun k hk => .inl (.inr hk.symm))).setCell (p := ⟨g, 0, none⟩) (.inl (.inl rfl)) _).setCell (p := ⟨g, 1, none⟩) (.inl (.inl rfl)) _
set_option maxHeartbeats 400000 in
set_option maxRecDepth 100000 in
theorem Row_Add_nil (a0 a1 a2 : Int) (w : World) :
    Calls Try.prog 49 #[.pointer none, .agg #[.int .i64 a0, .int .u64 a1, .int .u64 a2]] w fun e w' => e = .returned (.int .i64 1) ∧ Below w.heap.size w w' := by
  go_enter Try.func49, Try.ntmps49
  go_wp2
  go_ret
  exact ⟨rfl, below_alloc (Below.refl _ _) _⟩
set_option maxHeartbeats 400000 in
set_option maxRecDepth 100000 in
theorem Row_Add_may (g : Nat) (a0 a1 a2 : Int) (w : World) (hM : vec_May.f a0 a1 a2 = some false) :
    Calls Try.prog 49 #[.pointer (some ⟨g, 0, none⟩), .agg #[.int .i64 a0, .int .u64 a1, .int .u64 a2]] w fun e w' => e = .returned (.int .i64 1) ∧ Below w.heap.size w w' := by
  have HM := Aside0.mk hM
  clear hM
  go_enter Try.func49, Try.ntmps49
  go_wp2_with (go_at_call 66; refine (vec_May.calls _ _ _ _ _ HM.out).mono ?_; rintro e w1 ⟨rfl, hb⟩; have HB := Aside0.mk hb; clear hb)
  go_ret
  exact ⟨rfl, below_step (below_alloc (Below.refl _ _) _) HB.out⟩
set_option maxHeartbeats 400000 in
set_option maxRecDepth 100000 in
theorem Row_Add_long (w0 w : World) (g : Nat) (v : Value) (bs : List Int) (n : Nat) (a0 a1 a2 : Int) (h : RK w0 w g v bs n) (hM : vec_May.f a0 a1 a2 = some true) (hn : n ≤ 73728) (hl : 73728 - (n : Int) < a0) :
    Calls Try.prog 49 #[.pointer (some ⟨g, 0, none⟩), .agg #[.int .i64 a0, .int .u64 a1, .int .u64 a2]] w fun e w' => e = .returned (.int .i64 2) ∧ Below w.heap.size w w' := by
  have HM := Aside0.mk hM
  have H := Aside0.mk h
  have e3 : IntKind.i64.wrap (73728 - (n : Int)) = 73728 - (n : Int) := IntWalk.i64_in _ (by omega)
  clear hM h
  go_enter Try.func49, Try.ntmps49
  go_wp2_with (go_at_call 66; refine (vec_May.calls _ _ _ _ _ HM.out).mono ?_; rintro e w1 ⟨rfl, hb⟩; have HB := Aside0.mk hb; have N1 := blk_below (blk_new w _) hb; have K1 := blk_below (blk_alloc H.out.blk _) hb; have n0 := blk_cell N1 0; have c1 := blk_cell K1 1; simp only [List.getElem?_toArray, List.getElem?_cons_succ, List.getElem?_cons_zero] at n0 c1; clear hb N1 K1)
  go_region
  go_wp2
  go_ret
  exact ⟨rfl, below_drew1 (below_step (below_alloc (Below.refl _ _) _) HB.out)⟩
/-- What every round of Add's loop knows. -/
structure AR (w0 w w' : World) (g : Nat) (v v1 : Value) (bs : List Int) (n : Nat) (o : Obj) : Prop where
  rp : RP w0 w w' g v v1 bs n
  box : w'.heap[w.heap.size]? = some o
  ne : some w.heap.size ≠ v1.ownBlock
theorem AR.drew {w0 w w' : World} {g : Nat} {v v1 : Value} {bs : List Int} {n : Nat} {o : Obj} (h : AR w0 w w' g v v1 bs n o) : AR w0 w w'.drew g v v1 bs n o :=
  ⟨⟨h.rp.rk.step (below_drew1 (Below.refl _ _)), h.rp.kept.drew, h.rp.at_⟩, h.box, h.ne⟩
theorem AR.grow {w0 w w' w1 : World} {g : Nat} {v v1 v2 : Value} {bs ys : List Int} {n : Nat} {o : Obj} (h : AR w0 w w' g v v1 bs n o) (hg : g < w.heap.size)
    (ho : Kd.R (Kd.int .u8) 5 w1 w0.heap.size (fun k => k ≠ g) v2 ys) (hb : Below w0.heap.size w0 w1) (hgr : w'.grownBy w1 v1.ownBlock) (hat : v2.ownBlock = v1.ownBlock ∨ ∃ b, v2.ownBlock = some b ∧ w'.heap.size ≤ b) :
    AR w0 w (w1.setCell ⟨g, 0, none⟩ v2) g v v2 ys n o := by
  have hlt := blk_lt h.box
  have hws := h.rp.kept.1
  have hbox := (hgr.block _ hlt h.ne).trans h.box
  have hblk := (hgr.block g h.rp.rk.lt (Kd.R_away h.rp.rk.row (fun k hk => hk))).trans h.rp.rk.blk
  refine ⟨⟨⟨blk_put hblk 0 _ rfl, Kd.R_far ho (p := ⟨g, 0, none⟩) (fun k hk => hk) _, h.rp.rk.ge, below_set hb h.rp.rk.ge⟩, ?_, ?_⟩, ?_, ?_⟩
  · refine (Kept.of_grown hgr h.rp.kept (fun k hk => ?_)).setCell (p := ⟨g, 0, none⟩) (.inl (.inl rfl)) _
    rcases h.rp.at_ with e | ⟨b, e, hb'⟩
    · exact .inl (.inr (by rw [← e, hk]))
    · rw [e] at hk
      cases hk
      exact .inr hb'
  · rcases hat with e | ⟨b, e, hb'⟩
    · rw [e]
      exact h.rp.at_
    · exact .inr ⟨b, e, Nat.le_trans hws hb'⟩
  · exact (Below.heap_setCell _ _ _ _ (by show w.heap.size ≠ g; omega)).trans hbox
  · rcases hat with e | ⟨b, e, hb'⟩
    · rw [e]
      exact h.ne
    · rw [e]
      intro e2
      cases e2
      omega
theorem RP.set {w0 w w' w1 : World} {g : Nat} {v v1 : Value} {bs ys : List Int} {n : Nat} (h : RP w0 w w' g v v1 bs n) (hE : (Kd.int .u8).E = [])
    (ho : Kd.R (Kd.int .u8) 5 w1 w0.heap.size (fun k => some k = v1.ownBlock ∨ w'.heap.size ≤ k) v1 ys) (hb : Below w0.heap.size w0 w1) (hk : Kept w' w1 (fun k => some k = v1.ownBlock)) : RP w0 w w1 g v v1 ys n := by
  have hne := Kd.R_away h.rk.row (fun k hk => hk)
  refine ⟨⟨blk_kept h.rk.blk hk hne, Kd.R_mono (Kd.R_tight hE ho) (fun k e1 e2 => hne (by rw [← e2]; exact e1)), h.rk.ge, hb⟩, h.kept.then_ hk (fun k e => ?_), h.at_⟩
  rcases h.at_ with e1 | ⟨b, e1, hb'⟩
  · exact .inl (.inr (by rw [← e1]; exact e))
  · rw [e1] at e
    cases e
    exact .inr hb'
theorem RP.count {w0 w w' : World} {g : Nat} {v v1 : Value} {bs : List Int} {n : Nat} (h : RP w0 w w' g v v1 bs n) (m : Nat) : RP w0 w (w'.setCell ⟨g, 1, none⟩ (.int .i64 m)) g v v1 bs m :=
  ⟨⟨blk_put h.rk.blk 1 _ rfl, Kd.R_far h.rk.row (p := ⟨g, 1, none⟩) (fun k hk => hk) _, h.rk.ge, below_set h.rk.below h.rk.ge⟩, h.kept.setCell (p := ⟨g, 1, none⟩) (.inl (.inl rfl)) _, h.at_⟩
set_option maxHeartbeats 1000000 in
set_option maxRecDepth 100000 in
theorem Row_Add_ok (w0 w : World) (g : Nat) (v : Value) (bs : List Int) (n a0 : Nat) (a1 a2 : Int) (K k : Nat) (r : List Int) (h : RK w0 w g v bs n) (hM : vec_May.f a0 a1 a2 = some true) (hn : n + a0 ≤ 73728) (hbs : bs.length ≤ 9216)
    (hK1 : n + a0 ≤ 8 * (bs.length + K)) (hK2 : K = 0 ∨ 8 * (bs.length + K) < n + a0 + 8) (hS : bits_set.f k (bs ++ List.replicate K 0) n a0 a1 a2 = some r) :
    Calls Try.prog 49 #[.pointer (some ⟨g, 0, none⟩), .agg #[.int .i64 a0, .int .u64 a1, .int .u64 a2]] w fun e w' => e = .returned (.int .i64 0) ∧ ∃ v1, RP w0 w w' g v v1 r (n + a0) := by
  have HM := Aside0.mk hM
  have H := Aside0.mk h
  have HS := Aside0.mk hS
  have e3 : IntKind.i64.wrap (73728 - (n : Int)) = 73728 - (n : Int) := IntWalk.i64_in _ (by omega)
  have e4 : ¬ 73728 - (n : Int) < a0 := by omega
  have e5 : wrap64 ((n : Int) + a0) = (n : Int) + a0 := wrap64_id _ (by omega) (by omega)
  have hgl := h.lt
  have EI := Aside0.mk (show ((n : Int) + (a0 : Int)) = ((n + a0 : Nat) : Int) from by omega)
  clear hM h hS
  go_enter Try.func49, Try.ntmps49
  go_wp2_with (go_at_call 66; refine (vec_May.calls _ _ _ _ _ HM.out).mono ?_; rintro e w1 ⟨rfl, hb⟩; have HB := Aside0.mk hb; have N1 := blk_below (blk_new w _) hb; have K1 := blk_below (blk_alloc H.out.blk _) hb; have n0 := blk_cell N1 0; have c1 := blk_cell K1 1; simp only [List.getElem?_toArray, List.getElem?_cons_succ, List.getElem?_cons_zero] at n0 c1; have HA := Aside0.mk (AR.mk (RP.of_below H.out (below_step (below_alloc (Below.refl _ _) _) hb)) N1 (fun e => Nat.lt_irrefl _ (Kd.R_lt H.out.row _ e.symm))); clear hb N1 K1)
  go_region
  go_wp2
  go_loopg [] K (fun kq w' => ∃ (v' : Value) (j : Nat), j + kq = K ∧ Aside0 (AR w0 w w' g v v' (bs ++ List.replicate j 0) n (.cells #[.int .i64 a0, .int .u64 a1, .int .u64 a2] 26 (0, 0))))
  case atStart => exact ⟨v, 0, by omega, ⟨by simpa using HA.out.drew⟩⟩
  case round =>
    clear HA
    obtain ⟨v', j, hj, HA⟩ := hrel
    obtain ⟨A, c, rfl⟩ := Kd.R_slice HA.out.rp.rk.row
    have hlen : (bs ++ List.replicate j (0 : Int)).length = bs.length + j := by simp
    rw [hlen] at HA
    have c0 := blk_cell HA.out.rp.rk.blk 0
    have c1 := blk_cell HA.out.rp.rk.blk 1
    have b0 := blk_cell HA.out.box 0
    have b1 := blk_cell HA.out.box 1
    have b2 := blk_cell HA.out.box 2
    have cf := blk_frozen HA.out.rp.rk.blk
    have hgs : g < wr.heap.size := HA.out.rp.rk.lt
    simp only [List.getElem?_toArray, List.getElem?_cons_succ, List.getElem?_cons_zero] at c0 c1 b0 b1 b2
    have e6 : wrap64 (8 * ((bs.length : Int) + j)) = 8 * ((bs.length : Int) + j) := wrap64_id _ (by omega) (by omega)
    cases gk with
    | zero =>
      have e7 : decide (8 * ((bs.length : Int) + j) < (n : Int) + a0) = false := by simp; omega
      go_wp2
      go_region
      go_wp2
      obtain rfl : j = K := by omega
      clear e7
      refine start_ (n := 10) (S := fun w' => w'.cell? ⟨g, 0, none⟩ = some (.slice A (bs.length + j) c) ∧ w'.cell? ⟨g, 1, none⟩ = some (.int .i64 n) ∧ w'.cell? ⟨w.heap.size, 0, none⟩ = some (.int .i64 a0) ∧ w'.cell? ⟨w.heap.size, 1, none⟩ = some (.int .u64 a1) ∧ w'.cell? ⟨w.heap.size, 2, none⟩ = some (.int .u64 a2)) (ds := [9]) #[false, false, false, false, false, false, false, false, false, false] (by kernel_rfl) rfl rfl ⟨c0, c1, b0, b1, b2⟩ (fun hHeld => ?_)
      refine pure_ (i := 0) (N := some 45) (v := ?_) (a' := ?_) #[true, false, false, false, false, false, false, false, false, false] rfl rfl (by kernel_rfl) (fun _ _ _ h => h) (Or.inl ⟨by rfl, ?_⟩) ?_ ?_
      rotate_left
      · intro w'
        go_simp
        with_reducible rfl
      rotate_left
      · simp only [Act.put, List.setIfInBounds_toArray, List.set_cons_zero, List.set_cons_succ, i64_w, i32_w]
        rfl
      refine pure_ (i := 1) (N := some 46) (v := ?_) (a' := ?_) #[true, true, false, false, false, false, false, false, false, false] rfl rfl (by kernel_rfl) (fun _ _ _ h => h) (Or.inl ⟨by rfl, ?_⟩) ?_ ?_
      rotate_left
      · intro w'
        go_simp
        with_reducible rfl
      rotate_left
      · simp only [Act.put, List.setIfInBounds_toArray, List.set_cons_zero, List.set_cons_succ, i64_w, i32_w]
        rfl
      refine pure_ (i := 2) (N := some 47) (v := ?_) (a' := ?_) #[true, true, true, false, false, false, false, false, false, false] rfl rfl (by kernel_rfl) (fun _ _ _ h => h) (Or.inl ⟨by rfl, ?_⟩) ?_ ?_
      rotate_left
      · intro w'
        go_simp
        with_reducible rfl
      rotate_left
      · simp only [Act.put, List.setIfInBounds_toArray, List.set_cons_zero, List.set_cons_succ, i64_w, i32_w]
        rfl
      refine pure_ (i := 4) (N := some 49) (v := ?_) (a' := ?_) #[true, true, true, false, true, false, false, false, false, false] rfl rfl (by kernel_rfl) (fun _ _ _ h => h) (Or.inl ⟨by rfl, ?_⟩) ?_ ?_
      rotate_left
      · intro w'
        go_simp
        with_reducible rfl
      rotate_left
      · simp only [Act.put, List.setIfInBounds_toArray, List.set_cons_zero, List.set_cons_succ, i64_w, i32_w]
        rfl
      refine pure_ (i := 5) (N := some 50) (v := ?_) (a' := ?_) #[true, true, true, false, true, true, false, false, false, false] rfl rfl (by kernel_rfl) (fun _ _ _ h => h) (Or.inl ⟨by rfl, ?_⟩) ?_ ?_
      rotate_left
      · intro w'
        go_simp
        with_reducible rfl
      rotate_left
      · simp only [Act.put, List.setIfInBounds_toArray, List.set_cons_zero, List.set_cons_succ, i64_w, i32_w]
        rfl
      refine pure_ (i := 6) (N := some 51) (v := ?_) (a' := ?_) #[true, true, true, false, true, true, true, false, false, false] rfl rfl (by kernel_rfl) (fun _ _ _ h => h) (Or.inl ⟨by rfl, ?_⟩) ?_ ?_
      rotate_left
      · intro w'
        go_simp
        with_reducible rfl
      rotate_left
      · simp only [Act.put, List.setIfInBounds_toArray, List.set_cons_zero, List.set_cons_succ, i64_w, i32_w]
        rfl
      refine take_ (i := 3) (N := some 48) (v := ?_) (a' := ?_) #[true, true, true, true, true, true, true, false, false, false] rfl rfl (by kernel_rfl) (fun _ _ _ h => h) (Or.inl ⟨by rfl, ?_⟩) hHeld ?_ ?_
      rotate_left
      · rintro w' ⟨s0, s1, s2, s3, s4⟩
        go_simp
        with_reducible rfl
      rotate_left
      · simp only [Act.put, List.setIfInBounds_toArray, List.set_cons_zero, List.set_cons_succ, i64_w, i32_w]
        rfl
      refine take_ (i := 7) (N := some 52) (v := ?_) (a' := ?_) #[true, true, true, true, true, true, true, true, false, false] rfl rfl (by kernel_rfl) (fun _ _ _ h => h) (Or.inl ⟨by rfl, ?_⟩) hHeld ?_ ?_
      rotate_left
      · rintro w' ⟨s0, s1, s2, s3, s4⟩
        go_simp
        with_reducible rfl
      rotate_left
      · simp only [Act.put, List.setIfInBounds_toArray, List.set_cons_zero, List.set_cons_succ, i64_w, i32_w]
        rfl
      refine take_ (i := 8) (N := some 53) (v := ?_) (a' := ?_) #[true, true, true, true, true, true, true, true, true, false] rfl rfl (by kernel_rfl) (fun _ _ _ h => h) (Or.inl ⟨by rfl, ?_⟩) hHeld ?_ ?_
      rotate_left
      · rintro w' ⟨s0, s1, s2, s3, s4⟩
        go_simp
        with_reducible rfl
      rotate_left
      · simp only [Act.put, List.setIfInBounds_toArray, List.set_cons_zero, List.set_cons_succ, i64_w, i32_w]
        rfl
      refine last_ (i := 9) (N := some 54) #[true, true, true, true, true, true, true, true, true, true] rfl rfl (by kernel_rfl) (by decide) (fun K hK => ?_)
      refine goes_ Try.func68 (by kernel_rfl) rfl #[.slice A (bs.length + j) c, .int .i64 n, .agg #[.int .i64 a0, .int .u64 a1, .int .u64 a2]] (by rfl) rfl rfl (by simp only [List.map_toArray, List.map_cons, List.map_nil]; rfl) ?_
      with_reducible refine (bits_set.calls k (fun k_ => some k_ = (Value.slice A (bs.length + j) c).ownBlock) (.slice A (bs.length + j) c) (bs ++ List.replicate j 0) n a0 a1 a2 r w0 wr.drew.drew HA.out.drew.drew.rp.rk.below (Kd.R_tight rfl HA.out.drew.drew.rp.rk.row) HS.out).mono ?_
      rintro e w2 ⟨rfl, ho, hb, hk⟩
      refine ⟨_, rfl, ?_⟩
      have HP := Aside0.mk (HA.out.drew.drew.rp.set rfl ho hb hk)
      have x0 := blk_cell (blk_kept HA.out.drew.drew.box hk HA.out.drew.drew.ne) 0
      have x1 := blk_cell HP.out.rk.blk 1
      have xf := blk_frozen HP.out.rk.blk
      simp only [List.getElem?_toArray, List.getElem?_cons_succ, List.getElem?_cons_zero] at x0 x1
      clear ho hb hk
      refine hK.out _ _ ?_
      clear hK K
      refine norm_ (a' := ?_) ?_ ?_
      rotate_left
      · show Act.put _ (some 54) _ = _
        simp only [Act.put, List.setIfInBounds_toArray, List.set_cons_zero, List.set_cons_succ, i64_w, i32_w]
        rfl
      refine done_ (by kernel_rfl) ?_
      go_wp2
      refine start_ (n := 10) (S := fun w' => w'.cell? ⟨g, 1, none⟩ = some (.int .i64 n) ∧ w'.cell? ⟨w.heap.size, 0, none⟩ = some (.int .i64 a0)) (ds := [9]) #[false, false, false, false, false, false, false, false, false, false] (by kernel_rfl) rfl rfl ⟨x1, x0⟩ (fun hHeld => ?_)
      refine pure_ (i := 0) (N := some 55) (v := ?_) (a' := ?_) #[true, false, false, false, false, false, false, false, false, false] rfl rfl (by kernel_rfl) (fun _ _ _ h => h) (Or.inl ⟨by rfl, ?_⟩) ?_ ?_
      rotate_left
      · intro w'
        go_simp
        with_reducible rfl
      rotate_left
      · simp only [Act.put, List.setIfInBounds_toArray, List.set_cons_zero, List.set_cons_succ, i64_w, i32_w]
        rfl
      refine pure_ (i := 1) (N := some 56) (v := ?_) (a' := ?_) #[true, true, false, false, false, false, false, false, false, false] rfl rfl (by kernel_rfl) (fun _ _ _ h => h) (Or.inl ⟨by rfl, ?_⟩) ?_ ?_
      rotate_left
      · intro w'
        go_simp
        with_reducible rfl
      rotate_left
      · simp only [Act.put, List.setIfInBounds_toArray, List.set_cons_zero, List.set_cons_succ, i64_w, i32_w]
        rfl
      refine pure_ (i := 2) (N := some 57) (v := ?_) (a' := ?_) #[true, true, true, false, false, false, false, false, false, false] rfl rfl (by kernel_rfl) (fun _ _ _ h => h) (Or.inl ⟨by rfl, ?_⟩) ?_ ?_
      rotate_left
      · intro w'
        go_simp
        with_reducible rfl
      rotate_left
      · simp only [Act.put, List.setIfInBounds_toArray, List.set_cons_zero, List.set_cons_succ, i64_w, i32_w]
        rfl
      refine pure_ (i := 4) (N := some 59) (v := ?_) (a' := ?_) #[true, true, true, false, true, false, false, false, false, false] rfl rfl (by kernel_rfl) (fun _ _ _ h => h) (Or.inl ⟨by rfl, ?_⟩) ?_ ?_
      rotate_left
      · intro w'
        go_simp
        with_reducible rfl
      rotate_left
      · simp only [Act.put, List.setIfInBounds_toArray, List.set_cons_zero, List.set_cons_succ, i64_w, i32_w]
        rfl
      refine take_ (i := 3) (N := some 58) (v := ?_) (a' := ?_) #[true, true, true, true, true, false, false, false, false, false] rfl rfl (by kernel_rfl) (fun _ _ _ h => h) (Or.inl ⟨by rfl, ?_⟩) hHeld ?_ ?_
      rotate_left
      · rintro w' ⟨s0, s1⟩
        go_simp
        with_reducible rfl
      rotate_left
      · simp only [Act.put, List.setIfInBounds_toArray, List.set_cons_zero, List.set_cons_succ, i64_w, i32_w]
        rfl
      refine take_ (i := 5) (N := some 60) (v := ?_) (a' := ?_) #[true, true, true, true, true, true, false, false, false, false] rfl rfl (by kernel_rfl) (fun _ _ _ h => h) (Or.inl ⟨by rfl, ?_⟩) hHeld ?_ ?_
      rotate_left
      · rintro w' ⟨s0, s1⟩
        go_simp
        with_reducible rfl
      rotate_left
      · simp only [Act.put, List.setIfInBounds_toArray, List.set_cons_zero, List.set_cons_succ, i64_w, i32_w]
        rfl
      refine pure_ (i := 6) (N := some 61) (v := ?_) (a' := ?_) #[true, true, true, true, true, true, true, false, false, false] rfl rfl (by kernel_rfl) (fun _ _ _ h => h) (Or.inl ⟨by rfl, ?_⟩) ?_ ?_
      rotate_left
      · intro w'
        go_simp
        with_reducible rfl
      rotate_left
      · simp only [Act.put, List.setIfInBounds_toArray, List.set_cons_zero, List.set_cons_succ, i64_w, i32_w]
        rfl
      refine pure_ (i := 7) (N := some 62) (v := ?_) (a' := ?_) #[true, true, true, true, true, true, true, true, false, false] rfl rfl (by kernel_rfl) (fun _ _ _ h => h) (Or.inl ⟨by rfl, ?_⟩) ?_ ?_
      rotate_left
      · intro w'
        go_simp
        with_reducible rfl
      rotate_left
      · simp only [Act.put, List.setIfInBounds_toArray, List.set_cons_zero, List.set_cons_succ, i64_w, i32_w]
        rfl
      refine pure_ (i := 8) (N := some 63) (v := ?_) (a' := ?_) #[true, true, true, true, true, true, true, true, true, false] rfl rfl (by kernel_rfl) (fun _ _ _ h => h) (Or.inl ⟨by rfl, ?_⟩) ?_ ?_
      rotate_left
      · intro w'
        go_simp
        with_reducible rfl
      rotate_left
      · simp only [Act.put, List.setIfInBounds_toArray, List.set_cons_zero, List.set_cons_succ, i64_w, i32_w]
        rfl
      refine last_ (i := 9) (N := none) #[true, true, true, true, true, true, true, true, true, true] rfl rfl (by kernel_rfl) (by decide) (fun K hK => ?_)
      have x2 : w2.drew.cell? ⟨g, 1, none⟩ = some (.int .i64 n) := x1
      have xf2 : ∀ j, w2.drew.frozen? ⟨g, j, none⟩ = false := xf
      refine skip_ (w1 := ?_) (by rfl) rfl ?_ ?_
      rotate_left
      · go_simp
        rfl
      refine hK.out _ _ ?_
      clear hK K
      refine done_ (by kernel_rfl) ?_
      go_wp2
      refine bodyPost_ret (v := .int .i64 0) (by simp [results, Try.results49, go_sem]) rfl ⟨rfl, .slice A (bs.length + j) c, ?_⟩
      rw [EI.out]
      exact (RP.mk (HP.out.rk.step (below_drew1 (Below.refl _ _))) HP.out.kept.drew HP.out.at_).count _
    | succ k1 =>
      have e7 : decide (8 * ((bs.length : Int) + j) < (n : Int) + a0) = true := by simp; omega
      go_wp2
      go_region
      go_wp2_with ((with_reducible refine gate_builtin (b := .append) (xs := #[.tmp 40, .tmp 41]) rfl ?_); at_builtin; refine Kd.R_append (Kd.int .u8) (w0 := w0) w0.heap.size rfl (.tmp 40) (.tmp 41) 22 5 (.int .u8 0) 1 rfl Try.underlying22 info5 rfl (by decide) (by omega) (.slice A (bs.length + j) c) (bs ++ List.replicate j 0) 0 [.int .u8 0] (fun k => k ≠ g) (fun _ => False) rfl rfl ?aP (fun _ hk => hk.elim) ?aF HA.out.drew.rp.rk.row HA.out.drew.rp.rk.below ?aS ?aL ?_; (case aP => exact rfl); (case aF => intro k hk; have : wr.drew.heap.size = wr.heap.size := rfl; omega); (case aS => exact below_size HA.out.drew.rp.rk.below); (case aL => simp; omega); intro v1 w1 ho hb hg hat; obtain ⟨A1, k2, rfl⟩ := Kd.R_slice ho; have HN := Aside0.mk (HA.out.drew.grow hgl ho hb hg hat); have B1 := (hg.block g HA.out.drew.rp.rk.lt (Kd.R_away HA.out.drew.rp.rk.row (fun k hk => hk))).trans HA.out.drew.rp.rk.blk; have d0 := blk_cell B1 0; have df := blk_frozen B1; clear ho hb hg hat B1)
      have hx : bs ++ List.replicate j (0 : Int) ++ [0] = bs ++ List.replicate (j + 1) 0 := by rw [List.append_assoc, ← List.replicate_succ']
      have hl2 : (bs ++ List.replicate j (0 : Int) ++ [0]).length = bs.length + (j + 1) := by simp
      go_roundg k1
      case measure => exact Nat.lt_succ_self _
      case rel =>
        have hz := HN.out
        rw [hl2, hx] at hz
        exact ⟨_, j + 1, by omega, ⟨hz⟩⟩

end Go.Proofs.Ytjbpianofkblbaa.XT
