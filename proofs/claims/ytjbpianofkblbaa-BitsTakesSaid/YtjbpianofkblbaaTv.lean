/- BitsTakes answers true for every input. -/
import Derived.Test.YtjbpianofkblbaaTw
namespace Go.Proofs.Ytjbpianofkblbaa.XT
open Go.RowKit Go.Proofs.YtjbpianofkblbaaW.PrintWords Go.Proofs.YtjbpianofkblbaaW.PrintLast Go.Proofs.YtjbpianofkblbaaW.PrintMore
attribute [local go_sem] max2_int min2_int max_two min_two max_three min_three max_four min_four   -- for this text's walks alone
set_option linter.unusedVariables false
set_option linter.unusedSimpArgs false
set_option maxHeartbeats 400000 in
set_option maxRecDepth 100000 in
theorem BitsTakes_big1 (A0 : Option Addr) (c0 : Nat) (n0 : Nat) (A1 : Option Addr) (c1 : Nat) (n1 : Nat) (w : World) (h200 : (200 : Int) < n0) :
    Calls Try.prog 8 #[.slice A0 n0 c0, .slice A1 n1 c1] w fun e w' => e = .returned (.bool true) ∧ Below w.heap.size w w' := by
  have HLV := Aside0.mk lives03
  go_enter Try.func8, Try.ntmps8
  go_wp2_with (go_at_call 15; refine (shunterlaw03_lives.calls _ _ HLV.out).mono ?_; rintro e w3 ⟨rfl, hb⟩; have HB4 := Aside0.mk hb; clear hb)
  go_ret
  exact ⟨rfl, HB4.out⟩
set_option maxHeartbeats 400000 in
set_option maxRecDepth 100000 in
theorem BitsTakes_big2 (A0 : Option Addr) (c0 : Nat) (n0 : Nat) (A1 : Option Addr) (c1 : Nat) (n1 : Nat) (w : World) (h200 : ¬ (200 : Int) < n0) (h30 : (30 : Int) < n1) :
    Calls Try.prog 8 #[.slice A0 n0 c0, .slice A1 n1 c1] w fun e w' => e = .returned (.bool true) ∧ Below w.heap.size w w' := by
  have HLV := Aside0.mk lives03
  go_enter Try.func8, Try.ntmps8
  go_wp2_with (go_at_call 15; refine (shunterlaw03_lives.calls _ _ HLV.out).mono ?_; rintro e w3 ⟨rfl, hb⟩; have HB4 := Aside0.mk hb; clear hb)
  go_ret
  exact ⟨rfl, HB4.out⟩
theorem BitsTakes_all (A0 : Option Addr) (c0 : Nat) (l0 : List Int) (A1 : Option Addr) (c1 : Nat) (ops : List S57) (w : World) (hr0 : Kd.C (Kd.int .u8) w A0 l0.length l0) (hc0 : l0.length ≤ c0) (hr1 : Kd.C k57 w A1 ops.length ops) (hc1 : ops.length ≤ c1) (hok : ∀ b ∈ l0, 0 ≤ b ∧ b < 256) (hops : ∀ x ∈ ops, opOk x) :
    Calls Try.prog 8 #[.slice A0 l0.length c0, .slice A1 ops.length c1] w fun e w' => e = .returned (.bool true) ∧ Below w.heap.size w w' := by
  by_cases h200 : l0.length ≤ 200
  · by_cases h30 : ops.length ≤ 30
    · exact BitsTakes_walk A0 c0 l0 A1 c1 ops w hr0 hc0 hr1 hc1 ⟨hok, by omega⟩ hops h200 h30
    · exact BitsTakes_big2 A0 c0 l0.length A1 c1 ops.length w (by omega) (by omega)
  · exact BitsTakes_big1 A0 c0 l0.length A1 c1 ops.length w (by omega)

end Go.Proofs.Ytjbpianofkblbaa.XT
