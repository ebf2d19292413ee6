/- The row of the law BitsRows: what the statement asks, out of the pure law and the machine's walk; no condition. -/
import Derived.Test.YtjbpianofkblbaaRows
import Derived.Test.YtjbpianofkblbaaRs
import Derived.Test.YtjbpianofkblbaaOpen
import Derived.WalkKit
import Derived.ProofKit
import Derived.OpenShut
import Derived.ShutString
import Derived.ChangeOld
import Derived.Below
import Derived.SizedLaws
namespace Go.Proofs.Ytjbpianofkblbaa.bitsRows
open Go.ChangeShapes Go.WideShapes Go.ChangeAt Go.RowKit
open Go.ChangeMaps (open_string shut_string)
open Go.Proofs.YtjbpianofkblbaaW.PrintWords Go.Proofs.YtjbpianofkblbaaW.PrintLast Go.Proofs.YtjbpianofkblbaaW.PrintMore
set_option linter.unusedVariables false
theorem own : ownKnob Try.prog.godebug = none := by kernel_rfl
theorem laidOut : laidOutB Try.prog = true := by kernel_rfl
theorem wf_u8 {x : Int} (h : (Lit.int .u8 x).wf = true) : 0 ≤ x ∧ x < 256 := by
  simp only [Lit.wf, Bool.and_eq_true, decide_eq_true_eq] at h
  have e1 : IntKind.u8.min = 0 := by decide
  have e2 : IntKind.u8.max = 255 := by decide
  omega
theorem wf_u64 {x : Int} (h : (Lit.int .u64 x).wf = true) : 0 ≤ x ∧ x < 2 ^ 64 := by
  simp only [Lit.wf, Bool.and_eq_true, decide_eq_true_eq] at h
  have e1 : IntKind.u64.min = 0 := by decide
  have e2 : IntKind.u64.max = 18446744073709551615 := by decide
  omega
set_option maxRecDepth 100000 in
theorem opens_k26 {W : World} : Open.Opens Try.prog W XT.k26 26 (fun x => (Lit.int .i64 x.f0).wf = true ∧ (Lit.int .u64 x.f1).wf = true ∧ (Lit.int .u64 x.f2).wf = true) := fun H enc fuel cs x hx => by
  obtain ⟨xs, nn, _, _, hcl, hxl, hfl⟩ := DataW.trod_struct Try.underlying26 hx
  obtain ⟨a0, k0, w0⟩ := Open.field hxl hfl 0 _ rfl (Open.Opens.int Try.underlying3)
  obtain ⟨a1, k1, w1⟩ := Open.field hxl hfl 1 _ rfl (Open.Opens.int Try.underlying24)
  obtain ⟨a2, k2, w2⟩ := Open.field hxl hfl 2 _ rfl (Open.Opens.int Try.underlying24)
  obtain ⟨u0, u1, u2, rfl⟩ := Open.list3 (hcl.trans (by kernel_rfl))
  obtain rfl : u0 = .int .i64 a0 := List.head_eq_of_cons_eq k0
  obtain rfl : u1 = .int .u64 a1 := List.head_eq_of_cons_eq k1
  obtain rfl : u2 = .int .u64 a2 := List.head_eq_of_cons_eq k2
  exact ⟨⟨a0, a1, a2⟩, XT.k26_mk W ⟨a0, a1, a2⟩, w0, w1, w2⟩
set_option maxRecDepth 100000 in
theorem opens_k57 {W : World} : Open.Opens Try.prog W XT.k57 57 (fun x => ((Lit.int .i64 x.f0).wf = true ∧ (Lit.int .i64 x.f1).wf = true) ∧ ((Lit.int .i64 x.f2.f0).wf = true ∧ (Lit.int .u64 x.f2.f1).wf = true ∧ (Lit.int .u64 x.f2.f2).wf = true) ∧ ∀ b ∈ x.f3, (Lit.int .u8 b).wf = true) := fun H enc fuel cs x hx => by
  obtain ⟨xs, nn, _, _, hcl, hxl, hfl⟩ := DataW.trod_struct Try.underlying57 hx
  obtain ⟨a0, k0, w0⟩ := Open.field hxl hfl 0 _ rfl (Open.Opens.int Try.underlying3)
  obtain ⟨a1, k1, w1⟩ := Open.field hxl hfl 1 _ rfl (Open.Opens.int Try.underlying3)
  obtain ⟨a2, k2, w2⟩ := Open.field hxl hfl 2 _ rfl opens_k26
  obtain ⟨a3, k3, _, w3⟩ := Open.field hxl hfl 3 _ rfl (Open.Opens.slice Try.underlying22 (by kernel_rfl) (Open.Opens.int Try.underlying5))
  obtain ⟨u0, u1, u2, u3, u4, u5, rfl⟩ := Open.list6 (hcl.trans (by kernel_rfl))
  obtain rfl : u0 = .int .i64 a0 := List.head_eq_of_cons_eq k0
  obtain rfl : u1 = .int .i64 a1 := List.head_eq_of_cons_eq k1
  have k2' := XT.k26_open k2
  obtain ⟨rfl, rfl, rfl⟩ : u2 = .int .i64 a2.f0 ∧ u3 = .int .u64 a2.f1 ∧ u4 = .int .u64 a2.f2 := by
    have e : [u2, u3, u4] = [.int .i64 a2.f0, .int .u64 a2.f1, .int .u64 a2.f2] := k2'
    simpa using e
  obtain ⟨A5, c5, k3', l5, g5⟩ := k3
  obtain rfl : u5 = .slice A5 a3.length c5 := List.head_eq_of_cons_eq k3'
  exact ⟨⟨a0, a1, a2, a3⟩, XT.k57_mk W ⟨a0, a1, a2, a3⟩ l5 g5, ⟨w0, w1⟩, w2, w3⟩
set_option maxRecDepth 100000 in
theorem lifted (os : Os) (started : os.Started) (H : Type) (enc : TypeId × Value → H) :
    ReturnsInHanded {} Try.checked os 11 .any (Rows.bitsRowsSpec.pre6 enc Try.prog Try.f11 Rows.bitsRowsRow.domain false) (Rows.bitsRowsSpec.post enc Try.prog Try.f11 false true false false) := by
  refine returnsInHanded_of_change_sized (C := Try.checked) own started (by kernel_rfl) Try.func11
    (ChangeSpec.witness6 (enc := enc) (C := Try.checked) false ⟨#[], #[.slice none 0 0], []⟩ 8 (by kernel_rfl) (by kernel_rfl) (by kernel_rfl) (by kernel_rfl)) ?_
  intro W base args ds gs before hval0 hW hcnd hsz0 _
  have hval : ∀ (j : Nat) t v, Try.f11.params[j]? = some t → args[j]? = some v → Value.okWide Try.prog W .any base t v := hval0
  have hW' := hW
  obtain ⟨p, q, hA0, hV, rfl, hfz, hnd⟩ := hW
  have hA : DataW.TrodAll enc Try.prog W 0 (fun _ => true) true Try.f11.params.toList args.toList ds p := hA0
  rw [Try.params11] at hA hval
  obtain ⟨v0, vs0, d0, ds0, p0, q0, hargs, rfl, rfl, h0, r0⟩ := trodAll_cons hA
  obtain ⟨rfl, rfl, rfl⟩ := trodAll_nil r0
  obtain rfl : args = #[v0] := by cases args; simp_all
  obtain ⟨rfl, rfl⟩ := trodVars_none hV
  have kk0 := h0
  have lt0 : ∀ x ∈ p0, x.block < W.heap.size := by obtain ⟨m, hm⟩ := kk0; exact DataW.trod_lt m _ _ _ hm
  obtain ⟨A0, c0, l0, rfl, hl0, hC0, hm0, hk0⟩ := Open.open_slice Try.underlying51 (hval 0 51 v0 rfl rfl) (by kernel_rfl) opens_k57 h0
  refine (XT.BitsRows_all A0 c0 l0 W hC0 hl0 (fun x hx => ⟨⟨(wf_u64 (hk0 x hx).2.1.2.1).1, (wf_u64 (hk0 x hx).2.1.2.1).2, (wf_u64 (hk0 x hx).2.1.2.2).1, (wf_u64 (hk0 x hx).2.1.2.2).2⟩, fun b hb => wf_u8 ((hk0 x hx).2.2 b hb)⟩)).mono fun e W' ⟨he, bel⟩ => ?_
  subst he
  exact ⟨_, rfl, _, _, _, [], _, [], hW', trodAll_mk1 (shut_bool Try.underlying4 _), (trodAll_cons_mk (Below.trod laidOut (by kernel_rfl) (of_decide_eq_true (by kernel_rfl)) kk0 bel lt0) trodAll_mk0), rfl, bel.frame _, fun h => by cases h⟩
theorem over : Rows.bitsRowsRow.holds Try.pinned (OpenSpec.ofChange Rows.bitsRowsSpec) :=
  OpenClaim.holds_of_wide 11 Try.f11 rfl rfl rfl rfl rfl rfl rfl ⟨rfl, rfl, rfl, rfl, rfl⟩ rfl rfl rfl rfl rfl (by kernel_rfl) Try.func11 (by kernel_rfl)
    (of_decide_eq_true (by kernel_rfl)) (by unfold Func.isWrapper; first | (rw [if_pos (by decide +kernel)]; kernel_rfl) | (rw [if_neg (by decide +kernel)]; exact ⟨rfl, rfl⟩))
    (fun os started H enc _ => lifted os started H enc)
theorem proved : Rows.BitsRowsSaid := over
#print axioms proved
end Go.Proofs.Ytjbpianofkblbaa.bitsRows
namespace Go.Proofs.Ytjbpianofkblbaa
/-- The row, under a short name, for the claim. -/
theorem bitsRows_holds : Rows.BitsRowsSaid := bitsRows.proved
end Go.Proofs.Ytjbpianofkblbaa
