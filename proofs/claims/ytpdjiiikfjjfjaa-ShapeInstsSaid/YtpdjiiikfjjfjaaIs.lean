/- The reference's slots. -/
import Derived.Test.YtpdjiiikfjjfjaaLemIa
namespace Go.Proofs.Ytpdjiiikfjjfjaa.XI
open Go.RowKit Go.Proofs.YtpdjiiikfjjfjaaW.PrintWords Go.Proofs.YtpdjiiikfjjfjaaW.PrintLast Go.Proofs.YtpdjiiikfjjfjaaW.PrintMore
attribute [local go_sem] max2_int min2_int max_two min_two max_three min_three max_four min_four   -- for this text's walks alone
set_option linter.unusedVariables false
set_option linter.unusedSimpArgs false
/-- How many slots an instance of this depth has. -/
def mN (d : Int) : Nat := if 0 ≤ d ∧ d ≤ 4 then max d.toNat 1 else 0
theorem mN_le (d : Int) : mN d ≤ 4 := by unfold mN; split <;> omega
/-- Two whole numbers in a row: [2]int. -/
def kII : Kd (Int × Int) := Kd.pair (Kd.int .i64) (Kd.int .i64)
/-- The slots of some instances, the first of which is number i. -/
def slotsL : List S42 → Nat → List (Int × Int)
  | [], _ => []
  | x :: t, i => (List.range (mN x.f2)).map (fun k : Nat => ((i : Int), (k : Int))) ++ slotsL t (i + 1)
theorem slotsL_app (a b : List S42) (i : Nat) : slotsL (a ++ b) i = slotsL a i ++ slotsL b (i + a.length) := by
  induction a generalizing i with
  | nil => simp [slotsL]
  | cons x a ih => simp [slotsL, ih, Nat.add_assoc, Nat.add_comm 1]
theorem take42 (l : List S42) (i : Nat) (h : i < l.length) : l.take (i + 1) = l.take i ++ [rd_T42 l (i : Int)] := by
  rw [List.take_add_one, List.getElem?_eq_getElem h]
  simp [rd_T42, List.getD_eq_getElem?_getD, h]
theorem slotsL_nx (l : List S42) (i : Nat) (h : i < l.length) : slotsL (l.take (i + 1)) 0 = slotsL (l.take i) 0 ++ (List.range (mN (rd_T42 l (i : Int)).f2)).map (fun k : Nat => ((i : Int), (k : Int))) := by
  rw [take42 l i h, slotsL_app]
  have : (l.take i).length = i := by simp; omega
  simp [slotsL, this]
theorem slotsL_le (l : List S42) (i : Nat) : (slotsL l i).length ≤ 4 * l.length := by
  induction l generalizing i with
  | nil => simp [slotsL]
  | cons x l ih => have := ih (i + 1); have h2 := mN_le x.f2; simp only [slotsL, List.length_append, List.length_map, List.length_range, List.length_cons]; omega
theorem info53 : (Try.prog.info? 53).map (fun i => (i.zero, i.size, i.bytes)) = some (some (.agg #[.int .i64 0, .int .i64 0]), 2, 16) := by kernel_rfl
set_option maxHeartbeats 1000000 in
set_option maxRecDepth 100000 in
theorem Slots_calls (A : Option Addr) (c : Nat) (l : List S42) (w : World) (hC : Kd.C k42 w A l.length l) (hc : l.length ≤ c) (hl : l.length ≤ 40) :
    Calls Try.prog 25 #[.slice A l.length c] w fun e w' => ∃ v, e = .returned v ∧ Kd.R kII 53 w' w.heap.size (fun _ => True) v (slotsL l 0) ∧ Below w.heap.size w w' := by
  have HC := Aside0.mk hC
  clear hC
  go_enter Try.func25, Try.ntmps25
  go_wp2
  go_loopw [3, 4] (fun u3 u4 w' => ∃ i : Nat, i ≤ l.length ∧ u4 = .int .i64 i ∧ Aside0 (Kd.R kII 53 w' w.heap.size (fun _ => True) u3 (slotsL (l.take i) 0)) ∧ Aside0 (Below w.heap.size w w')) (fun _ u4 _ => l.length - (intOf u4).toNat)
  case atStart => exact ⟨0, Nat.zero_le _, rfl, ⟨Kd.R_nil _ _ _ _ _⟩, ⟨Below.refl _ _⟩⟩
  case round =>
    obtain ⟨i, hi, rfl, HR, HB⟩ := hrel
    by_cases hlt : i < l.length
    · obtain ⟨ad, hA, p0, p1, p2⟩ := at_T42 HC.out (i : Int) (by omega) (by omega)
      subst hA
      rw [Int.toNat_natCast] at p0 p1 p2
      have q2 := (HB.out.cell (World.block_lt_of_cell? w _ p2)).trans p2
      have HN := Aside0.mk (slotsL_nx l i hlt)
      have HLE := Aside0.mk (slotsL_le (l.take i) 0)
      generalize rd_T42 l (i : Int) = x at *
      have key : ∃ D : Int, (D = if x.f2 = 0 then 1 else x.f2) ∧ (∀ k : Nat, k < mN x.f2 → (k : Int) < D ∧ D ≤ 4) ∧ ¬ (((mN x.f2 : Nat) : Int) < D ∧ D ≤ 4) := by
        refine ⟨_, rfl, fun k hk => ?_, ?_⟩
        · unfold mN at hk
          split at hk
          · split <;> omega
          · omega
        · unfold mN
          split
          · split <;> omega
          · split <;> omega
      obtain ⟨D, hD, hin, hout⟩ := key
      have HIN := Aside0.mk hin
      have HOUT := Aside0.mk hout
      clear hin hout
      by_cases hz : x.f2 = 0
      · rw [if_pos hz] at hD
        rw [hz] at q2
        subst hD
        clear hz
        go_wp2
        have hm4 := mN_le x.f2
        have hll : (l.take i).length = i := by simp; omega
        go_loopw [3, 6] (fun u3' u6 w' => ∃ k : Nat, k ≤ mN x.f2 ∧ u6 = .int .i64 k ∧ Aside0 (Kd.R kII 53 w' w.heap.size (fun _ => True) u3' (slotsL (l.take i) 0 ++ (List.range k).map (fun k : Nat => ((i : Int), (k : Int))))) ∧ Aside0 (Below w.heap.size w w')) (fun _ u6 _ => mN x.f2 - (intOf u6).toNat)
        case atStart => exact ⟨0, Nat.zero_le _, rfl, ⟨by simpa using HR.out⟩, HB⟩
        case round =>
          obtain ⟨k, hk, rfl, HR2, HB2⟩ := hrel
          obtain ⟨A1, c1, rfl⟩ := Kd.R_slice HR2.out
          by_cases hkk : k < mN x.f2
          · obtain ⟨h1, h2⟩ := HIN.out k hkk
            have e1 : decide ((k : Int) < 1) = true := decide_eq_true h1
            have e2 : decide (1 ≤ (4 : Int)) = true := decide_eq_true h2
            go_wp2_with ((with_reducible refine gate_builtin (b := .append) (xs := #[.tmp 29, .tmp 33]) rfl ?_); at_builtin; refine Kd.R_append kII (w0 := w) w.heap.size rfl (.tmp 29) (.tmp 33) 48 53 (.agg #[.int .i64 0, .int .i64 0]) 16 rfl Try.underlying48 info53 rfl (by decide) (by omega) _ (slotsL (l.take i) 0 ++ (List.range k).map (fun k : Nat => ((i : Int), (k : Int)))) ((i : Int), (k : Int)) [.int .i64 i, .int .i64 k] (fun _ => True) (fun _ => False) rfl rfl ?aP (fun _ hk => hk.elim) ?aF HR2.out HB2.out ?aS ?aL ?_; (case aP => exact ⟨[.int .i64 i], [.int .i64 k], rfl, rfl, rfl⟩); (case aF => exact fun _ _ => trivial); (case aS => exact below_size HB2.out); (case aL => have := HLE.out; simp; omega); intro v5 w5 ho hb hg hat; obtain ⟨A2, c2, rfl⟩ := Kd.R_slice ho; have HO5 := Aside0.mk ho; have HB5 := Aside0.mk hb; clear ho hb hg hat)
            have hx : slotsL (l.take i) 0 ++ (List.range k).map (fun k : Nat => ((i : Int), (k : Int))) ++ [((i : Int), (k : Int))] = slotsL (l.take i) 0 ++ (List.range (k + 1)).map (fun k : Nat => ((i : Int), (k : Int))) := by rw [List.range_succ, List.map_append, List.append_assoc]; rfl
            have hy : (slotsL (l.take i) 0 ++ (List.range k).map (fun k : Nat => ((i : Int), (k : Int))) ++ [((i : Int), (k : Int))]).length = (slotsL (l.take i) 0).length + (k + 1) := by simp [Nat.add_assoc]
            have hz5 := HO5.out
            rw [hy, hx] at hz5
            go_roundw
            case measure => first | (simp [intOf]; done) | (simp [intOf]; omega)
            case rel => exact ⟨k + 1, hkk, by go_num, ⟨hz5⟩, HB5⟩
          · obtain rfl : k = mN x.f2 := by omega
            by_cases hq : ((mN x.f2 : Nat) : Int) < 1
            · exact absurd ⟨hq, by omega⟩ HOUT.out
            · have e1 : decide (((mN x.f2 : Nat) : Int) < 1) = false := decide_eq_false hq
              go_wp2
              have hy : (slotsL (l.take i) 0 ++ (List.range (mN x.f2)).map (fun k : Nat => ((i : Int), (k : Int)))).length = (slotsL (l.take i) 0).length + mN x.f2 := by simp
              have hz5 := HR2.out
              rw [hy] at hz5
              go_roundw
              case measure => first | (simp [intOf]; done) | (simp [intOf]; omega)
              case rel => exact ⟨i + 1, hlt, by go_num, ⟨by rw [HN.out]; exact HR2.out⟩, HB2⟩
      · rw [if_neg hz] at hD
        have hzb : (x.f2 == 0) = false := by simpa using hz
        subst hD
        clear hz
        go_wp2
        have hm4 := mN_le x.f2
        have hll : (l.take i).length = i := by simp; omega
        go_loopw [3, 6] (fun u3' u6 w' => ∃ k : Nat, k ≤ mN x.f2 ∧ u6 = .int .i64 k ∧ Aside0 (Kd.R kII 53 w' w.heap.size (fun _ => True) u3' (slotsL (l.take i) 0 ++ (List.range k).map (fun k : Nat => ((i : Int), (k : Int))))) ∧ Aside0 (Below w.heap.size w w')) (fun _ u6 _ => mN x.f2 - (intOf u6).toNat)
        case atStart => exact ⟨0, Nat.zero_le _, rfl, ⟨by simpa using HR.out⟩, HB⟩
        case round =>
          obtain ⟨k, hk, rfl, HR2, HB2⟩ := hrel
          obtain ⟨A1, c1, rfl⟩ := Kd.R_slice HR2.out
          by_cases hkk : k < mN x.f2
          · obtain ⟨h1, h2⟩ := HIN.out k hkk
            have e1 : decide ((k : Int) < x.f2) = true := decide_eq_true h1
            have e2 : decide (x.f2 ≤ (4 : Int)) = true := decide_eq_true h2
            go_wp2_with ((with_reducible refine gate_builtin (b := .append) (xs := #[.tmp 29, .tmp 33]) rfl ?_); at_builtin; refine Kd.R_append kII (w0 := w) w.heap.size rfl (.tmp 29) (.tmp 33) 48 53 (.agg #[.int .i64 0, .int .i64 0]) 16 rfl Try.underlying48 info53 rfl (by decide) (by omega) _ (slotsL (l.take i) 0 ++ (List.range k).map (fun k : Nat => ((i : Int), (k : Int)))) ((i : Int), (k : Int)) [.int .i64 i, .int .i64 k] (fun _ => True) (fun _ => False) rfl rfl ?aP (fun _ hk => hk.elim) ?aF HR2.out HB2.out ?aS ?aL ?_; (case aP => exact ⟨[.int .i64 i], [.int .i64 k], rfl, rfl, rfl⟩); (case aF => exact fun _ _ => trivial); (case aS => exact below_size HB2.out); (case aL => have := HLE.out; simp; omega); intro v5 w5 ho hb hg hat; obtain ⟨A2, c2, rfl⟩ := Kd.R_slice ho; have HO5 := Aside0.mk ho; have HB5 := Aside0.mk hb; clear ho hb hg hat)
            have hx : slotsL (l.take i) 0 ++ (List.range k).map (fun k : Nat => ((i : Int), (k : Int))) ++ [((i : Int), (k : Int))] = slotsL (l.take i) 0 ++ (List.range (k + 1)).map (fun k : Nat => ((i : Int), (k : Int))) := by rw [List.range_succ, List.map_append, List.append_assoc]; rfl
            have hy : (slotsL (l.take i) 0 ++ (List.range k).map (fun k : Nat => ((i : Int), (k : Int))) ++ [((i : Int), (k : Int))]).length = (slotsL (l.take i) 0).length + (k + 1) := by simp [Nat.add_assoc]
            have hz5 := HO5.out
            rw [hy, hx] at hz5
            go_roundw
            case measure => first | (simp [intOf]; done) | (simp [intOf]; omega)
            case rel => exact ⟨k + 1, hkk, by go_num, ⟨hz5⟩, HB5⟩
          · obtain rfl : k = mN x.f2 := by omega
            by_cases hq : ((mN x.f2 : Nat) : Int) < x.f2
            · have e1 : decide (((mN x.f2 : Nat) : Int) < x.f2) = true := decide_eq_true hq
              have e2 : decide (x.f2 ≤ (4 : Int)) = false := decide_eq_false (fun h => HOUT.out ⟨hq, h⟩)
              go_wp2
              have hy : (slotsL (l.take i) 0 ++ (List.range (mN x.f2)).map (fun k : Nat => ((i : Int), (k : Int)))).length = (slotsL (l.take i) 0).length + mN x.f2 := by simp
              have hz5 := HR2.out
              rw [hy] at hz5
              go_roundw
              case measure => first | (simp [intOf]; done) | (simp [intOf]; omega)
              case rel => exact ⟨i + 1, hlt, by go_num, ⟨by rw [HN.out]; exact HR2.out⟩, HB2⟩
            · have e1 : decide (((mN x.f2 : Nat) : Int) < x.f2) = false := decide_eq_false hq
              go_wp2
              have hy : (slotsL (l.take i) 0 ++ (List.range (mN x.f2)).map (fun k : Nat => ((i : Int), (k : Int)))).length = (slotsL (l.take i) 0).length + mN x.f2 := by simp
              have hz5 := HR2.out
              rw [hy] at hz5
              go_roundw
              case measure => first | (simp [intOf]; done) | (simp [intOf]; omega)
              case rel => exact ⟨i + 1, hlt, by go_num, ⟨by rw [HN.out]; exact HR2.out⟩, HB2⟩
    · have hie : i = l.length := by omega
      subst hie
      rw [List.take_length] at HR
      obtain ⟨A1, c1, rfl⟩ := Kd.R_slice HR.out
      go_wp2
      go_ret
      exact ⟨_, rfl, HR.out, HB.out⟩

end Go.Proofs.Ytpdjiiikfjjfjaa.XI
