/- The row of the law BitsNils: what the statement asks, out of the pure law and the machine's walk; no condition. -/
import Derived.Test.YtjbpianofkblbaaRows
import Derived.Test.YtjbpianofkblbaaNw
import Derived.Test.YtjbpianofkblbaaOpen
import Derived.WalkKit
import Derived.ProofKit
import Derived.OpenShut
import Derived.ShutString
import Derived.ChangeOld
import Derived.Below
import Derived.SizedLaws
namespace Go.Proofs.Ytjbpianofkblbaa.bitsNils
open Go.ChangeShapes Go.WideShapes Go.ChangeAt Go.RowKit
open Go.ChangeMaps (open_string shut_string)
open Go.Proofs.YtjbpianofkblbaaW.PrintWords Go.Proofs.YtjbpianofkblbaaW.PrintLast Go.Proofs.YtjbpianofkblbaaW.PrintMore
set_option linter.unusedVariables false
theorem own : ownKnob Try.prog.godebug = none := by kernel_rfl
theorem laidOut : laidOutB Try.prog = true := by kernel_rfl

set_option maxRecDepth 100000 in
theorem lifted (os : Os) (started : os.Started) (H : Type) (enc : TypeId × Value → H) :
    ReturnsInHanded {} Try.checked os 14 .any (Rows.bitsNilsSpec.pre6 enc Try.prog Try.f14 Rows.bitsNilsRow.domain false) (Rows.bitsNilsSpec.post enc Try.prog Try.f14 false true false false) := by
  refine returnsInHanded_of_change_sized (C := Try.checked) own started (by kernel_rfl) Try.func14
    (ChangeSpec.witness6 (enc := enc) (C := Try.checked) false ⟨#[], #[.agg #[.int .i64 0, .int .u64 0, .int .u64 0], .slice none 0 0], []⟩ 8 (by kernel_rfl) (by kernel_rfl) (by kernel_rfl) (by kernel_rfl)) ?_
  intro W base args ds gs before hval0 hW hcnd hsz0 _
  have hval : ∀ (j : Nat) t v, Try.f14.params[j]? = some t → args[j]? = some v → Value.okWide Try.prog W .any base t v := hval0
  have hW' := hW
  obtain ⟨p, q, hA0, hV, rfl, hfz, hnd⟩ := hW
  have hA : DataW.TrodAll enc Try.prog W 0 (fun _ => true) true Try.f14.params.toList args.toList ds p := hA0
  rw [Try.params14] at hA hval
  obtain ⟨v0, vs0, d0, ds0, p0, q0, hargs, rfl, rfl, h0, r0⟩ := trodAll_cons hA
  obtain ⟨v1, vs1, d1, ds1, p1, q1, rfl, rfl, rfl, h1, r1⟩ := trodAll_cons r0
  obtain ⟨rfl, rfl, rfl⟩ := trodAll_nil r1
  obtain rfl : args = #[v0, v1] := by cases args; simp_all
  obtain ⟨rfl, rfl⟩ := trodVars_none hV
  have kk0 := h0
  have lt0 : ∀ x ∈ p0, x.block < W.heap.size := by obtain ⟨m, hm⟩ := kk0; exact DataW.trod_lt m _ _ _ hm
  obtain ⟨cs0, rfl, hz0⟩ := okWide_struct Try.underlying26 (hval 0 26 v0 rfl rfl)
  obtain ⟨fu0, hf0⟩ := h0
  obtain ⟨xs0, nn0, _, _, hcl0, hxl0, hfl0⟩ := DataW.trod_struct Try.underlying26 hf0
  obtain ⟨a0_0, k0_0, w0_0⟩ := Open.field hxl0 hfl0 0 _ rfl (Open.Opens.int Try.underlying3)
  obtain ⟨a0_1, k0_1, w0_1⟩ := Open.field hxl0 hfl0 1 _ rfl (Open.Opens.int Try.underlying24)
  obtain ⟨a0_2, k0_2, w0_2⟩ := Open.field hxl0 hfl0 2 _ rfl (Open.Opens.int Try.underlying24)
  obtain ⟨l0⟩ := cs0
  have hz0' : l0.length = 3 := hz0.trans (by kernel_rfl)
  obtain ⟨u0_0, u0_1, u0_2, rfl⟩ := Open.list3 hz0'
  obtain rfl : u0_0 = .int .i64 a0_0 := List.head_eq_of_cons_eq k0_0
  obtain rfl : u0_1 = .int .u64 a0_1 := List.head_eq_of_cons_eq k0_1
  obtain rfl : u0_2 = .int .u64 a0_2 := List.head_eq_of_cons_eq k0_2
  have kk1 := h1
  have lt1 : ∀ x ∈ p1, x.block < W.heap.size := by obtain ⟨m, hm⟩ := kk1; exact DataW.trod_lt m _ _ _ hm
  obtain ⟨A1, c1, l1, rfl, hl1, hC1, hm1, hk1⟩ := Open.open_slice Try.underlying22 (hval 1 22 v1 rfl rfl) (by kernel_rfl) (Open.Opens.int Try.underlying5) h1
  refine (XT.BitsNils_walk a0_0 a0_1 a0_2 A1 l1.length c1 W).mono fun e W' ⟨he, bel⟩ => ?_
  subst he
  exact ⟨_, rfl, _, _, _, [], _, [], hW', trodAll_mk1 (shut_bool Try.underlying4 _), (trodAll_cons_mk (Below.trod laidOut (by kernel_rfl) (of_decide_eq_true (by kernel_rfl)) kk0 bel lt0) (trodAll_cons_mk (Below.trod laidOut (by kernel_rfl) (of_decide_eq_true (by kernel_rfl)) kk1 bel lt1) trodAll_mk0)), rfl, bel.frame _, fun h => by cases h⟩
theorem over : Rows.bitsNilsRow.holds Try.pinned (OpenSpec.ofChange Rows.bitsNilsSpec) :=
  OpenClaim.holds_of_wide 14 Try.f14 rfl rfl rfl rfl rfl rfl rfl ⟨rfl, rfl, rfl, rfl, rfl⟩ rfl rfl rfl rfl rfl (by kernel_rfl) Try.func14 (by kernel_rfl)
    (of_decide_eq_true (by kernel_rfl)) (by unfold Func.isWrapper; first | (rw [if_pos (by decide +kernel)]; kernel_rfl) | (rw [if_neg (by decide +kernel)]; exact ⟨rfl, rfl⟩))
    (fun os started H enc _ => lifted os started H enc)
theorem proved : Rows.BitsNilsSaid := over
#print axioms proved
end Go.Proofs.Ytjbpianofkblbaa.bitsNils
namespace Go.Proofs.Ytjbpianofkblbaa
/-- The row, under a short name, for the claim. -/
theorem bitsNils_holds : Rows.BitsNilsSaid := bitsNils.proved
end Go.Proofs.Ytjbpianofkblbaa
