import Derived.Test.YtfdbcnbakchcgaaWWords
import Derived.Test.YtfdbcnbakchcgaaWMore
import Derived.Test.YtfdbcnbakchcgaaWLast
namespace Go.Proofs.Ytfdbcnbakchcgaa.XT
open Go.RowKit Go.Proofs.YtfdbcnbakchcgaaW.PrintWords Go.Proofs.YtfdbcnbakchcgaaW.PrintLast Go.Proofs.YtfdbcnbakchcgaaW.PrintMore
attribute [local go_sem] max2_int min2_int max_two min_two max_three min_three max_four min_four   -- for this text's walks alone
set_option linter.unusedVariables false
set_option linter.unusedSimpArgs false
/-- A region that draws its order, by one assertion that every operation keeps, whatever has come up ahead of it. -/
theorem invL_ {P : Program} {ops : Array Oper} {Q : Exit → Act → World → Prop} {md : Region.Mode} {S : World → Prop} {ds : List Nat} (Inv : List Bool → Act → World → Prop) (hS : ∀ l a w, Inv l a w → S w)
    (step : ∀ i o, ops[i]? = some o → ∀ l a w, l.length = ops.size → Inv l a w → l.getD i true = false → (∀ e ∈ o.after, Region.binds md e = true → l.getD e.on false = true) → ∀ K : Act → World → Prop, (∀ a' w', Inv (l.set i true) a' w' → K a' w') → if Region.wanted o (yielded ops a.tmps) = true then Oper.wp P o a w K Q else K (a.put o.dst undef) w)
    (fin : ∀ l a w, l.length = ops.size → Inv l a w → Region.ready md ops l.toArray = [] → Q .normal a w) :
    ∀ n l a w, l.length = ops.size → l.count false ≤ n → Inv l a w → wpAnyLast P md ops Q S ds n l.toArray a w := by
  have gd : ∀ (l : List Bool) (i : Nat) (d : Bool), l.toArray.getD i d = l.getD i d := by
    intro l i d
    simp [Array.getD_eq_getD_getElem?, List.getD_eq_getElem?_getD]
  intro n
  induction n with
  | zero =>
    intro l a w hl hc hI
    have hr : Region.ready md ops l.toArray = [] := by
      rw [List.eq_nil_iff_forall_not_mem]
      intro i hi
      obtain ⟨h0, o, ho, _⟩ := mem_ready.1 hi
      rw [gd] at h0
      have hlt : i < l.length := by rw [hl]; exact (Array.getElem?_eq_some_iff.1 ho).1
      have hf : false ∈ l := by
        rw [List.getD_eq_getElem?_getD, List.getElem?_eq_getElem hlt, Option.getD_some] at h0
        rw [← h0]; exact List.getElem_mem hlt
      have := List.count_pos_iff.2 hf
      omega
    exact ⟨hr, fin l a w hl hI hr⟩
  | succ n ih =>
    intro l a w hl hc hI
    refine ⟨fun hr => fin l a w hl hI hr, fun i hi => ?_⟩
    obtain ⟨h0, o, ho, hall⟩ := mem_ready.1 hi
    rw [gd] at h0
    have hlt : i < l.length := by rw [hl]; exact (Array.getElem?_eq_some_iff.1 ho).1
    have h1 : l[i] = false := by rw [List.getD_eq_getElem?_getD, List.getElem?_eq_getElem hlt, Option.getD_some] at h0; exact h0
    refine wpOp_step ho (fun K' hK => step i o ho l a w hl hI h0 (fun e he hb => by rw [← gd]; exact hall e he hb) K' (fun a' w' hI' => hK a' w' ⟨fun _ _ => hS _ _ _ hI', ?_⟩))
    have hset : l.toArray.setIfInBounds i true = (l.set i true).toArray := by simp
    rw [hset]
    refine ih _ a' w' (by simpa using hl) ?_ hI'
    have hcs : (l.set i true).count false = l.count false - 1 := by
      rw [List.count_set (by exact hlt), h1]; simp
    have hpos : 0 < l.count false := List.count_pos_iff.2 (by rw [← h1]; exact List.getElem_mem hlt)
    omega
end Go.Proofs.Ytfdbcnbakchcgaa.XT
