import Derived.Test.YtfdbcnbakchcgaaRj
namespace Go.Proofs.Ytfdbcnbakchcgaa.XR
open Go.RowKit Go.Proofs.YtfdbcnbakchcgaaW.PrintWords Go.Proofs.YtfdbcnbakchcgaaW.PrintLast Go.Proofs.YtfdbcnbakchcgaaW.PrintMore
attribute [local go_sem] max2_int min2_int max_two min_two max_three min_three max_four min_four   -- for this text's walks alone
set_option linter.unusedVariables false
set_option linter.unusedSimpArgs false
/-- lives: the chapter's example. -/
theorem tlives_calls (w : World) : Calls Try.prog 17 #[] w fun e w' => e = .returned (.bool true) ∧ Below w.heap.size w w' := by
 have P1 : ∀ (w1 : World) (M : NM), KT w w1 (w.heap.size + 1) M ((8 : Nat) : Int) 4 0 → SH M [] → Calls Try.prog 28 #[.pointer (some ⟨w.heap.size + 1, 0, none⟩), .agg #[.int .i64 8, .int .u64 0, .int .u64 128], .int .i64 1, .int .i64 1] w1 fun e w' => e = .returned (.int .i64 0) ∧ ∃ M1, KT w w' (w.heap.size + 1) M1 ((8 : Nat) : Int) 4 1 ∧ SH M1 [⟨1, 1, 1⟩] := by
  intro w1 M h hs
  have hp := tPut_calls w w1 _ M [] 8 128 8 4 0 1 1 h hs (by decide) (by decide) (by decide) (by decide)
  have e1 : putEt (mayP 8 8 128 1) 4 0 [] ⟨(1 : Int).toNat, preN 8 128 (1 : Int).toNat, 1⟩ = 0 := by decide +kernel
  rw [e1, show hiW 128 = 0 from by decide +kernel, show loW 128 = 128 from by decide +kernel] at hp
  refine hp.mono ?_
  rintro e w' ⟨rfl, M1, hk, hs1, _⟩
  rw [if_pos rfl] at hk hs1
  exact ⟨rfl, M1, hk, by rw [show (⟨1, 1, 1⟩ : TI) = ⟨(1 : Int).toNat, preN 8 128 (1 : Int).toNat, 1⟩ from by rw [show preN 8 128 (1 : Int).toNat = 1 from by decide +kernel]; rfl]; exact hs1⟩
 have P2 : ∀ (w1 : World) (M : NM), KT w w1 (w.heap.size + 1) M ((8 : Nat) : Int) 4 1 → SH M [⟨1, 1, 1⟩] → Calls Try.prog 28 #[.pointer (some ⟨w.heap.size + 1, 0, none⟩), .agg #[.int .i64 8, .int .u64 0, .int .u64 192], .int .i64 2, .int .i64 2] w1 fun e w' => e = .returned (.int .i64 0) ∧ ∃ M1, KT w w' (w.heap.size + 1) M1 ((8 : Nat) : Int) 4 2 ∧ SH M1 [⟨1, 1, 1⟩, ⟨2, 3, 2⟩] := by
  intro w1 M h hs
  have hp := tPut_calls w w1 _ M [⟨1, 1, 1⟩] 8 192 8 4 1 2 2 h hs (by decide) (by decide) (by decide) (by decide)
  have e1 : putEt (mayP 8 8 192 2) 4 1 [⟨1, 1, 1⟩] ⟨(2 : Int).toNat, preN 8 192 (2 : Int).toNat, 2⟩ = 0 := by decide +kernel
  rw [e1, show hiW 192 = 0 from by decide +kernel, show loW 192 = 192 from by decide +kernel] at hp
  refine hp.mono ?_
  rintro e w' ⟨rfl, M1, hk, hs1, _⟩
  rw [if_pos rfl] at hk hs1
  exact ⟨rfl, M1, hk, by rw [show (⟨2, 3, 2⟩ : TI) = ⟨(2 : Int).toNat, preN 8 192 (2 : Int).toNat, 2⟩ from by rw [show preN 8 192 (2 : Int).toNat = 3 from by decide +kernel]; rfl]; exact hs1⟩
 have G1 : ∀ (w1 : World) (M : NM), KT w w1 (w.heap.size + 1) M ((8 : Nat) : Int) 4 2 → SH M [⟨1, 1, 1⟩, ⟨2, 3, 2⟩] → Calls Try.prog 21 #[.pointer (some ⟨w.heap.size + 1, 0, none⟩), .agg #[.int .i64 8, .int .u64 0, .int .u64 255]] w1 fun e w' => e = .returned (.tuple #[.int .i64 2, .int .i64 2, .bool true]) ∧ KT w w' (w.heap.size + 1) M ((8 : Nat) : Int) 4 2 := by
  intro w1 M h hs
  have hp := tGet_ok w w1 _ M [⟨1, 1, 1⟩, ⟨2, 3, 2⟩] 8 255 8 4 2 h hs (by decide) (by decide) (by decide) rfl
  have e1 : trip (bestTo [⟨1, 1, 1⟩, ⟨2, 3, 2⟩] 8 255 (8 + 1)) = (2, 2, true) := by decide +kernel
  rw [e1, show hiW 255 = 0 from by decide +kernel, show loW 255 = 255 from by decide +kernel] at hp
  refine hp.mono ?_
  rintro e w' ⟨rfl, hb⟩
  exact ⟨rfl, h.step hb⟩
 have G2 : ∀ (w1 : World) (M : NM), KT w w1 (w.heap.size + 1) M ((8 : Nat) : Int) 4 2 → SH M [⟨1, 1, 1⟩, ⟨2, 3, 2⟩] → Calls Try.prog 21 #[.pointer (some ⟨w.heap.size + 1, 0, none⟩), .agg #[.int .i64 8, .int .u64 0, .int .u64 1]] w1 fun e w' => e = .returned (.tuple #[.int .i64 0, .int .i64 0, .bool false]) ∧ KT w w' (w.heap.size + 1) M ((8 : Nat) : Int) 4 2 := by
  intro w1 M h hs
  have hp := tGet_ok w w1 _ M [⟨1, 1, 1⟩, ⟨2, 3, 2⟩] 8 1 8 4 2 h hs (by decide) (by decide) (by decide) rfl
  have e1 : trip (bestTo [⟨1, 1, 1⟩, ⟨2, 3, 2⟩] 8 1 (8 + 1)) = (0, 0, false) := by decide +kernel
  rw [e1, show hiW 1 = 0 from by decide +kernel, show loW 1 = 1 from by decide +kernel] at hp
  refine hp.mono ?_
  rintro e w' ⟨rfl, hb⟩
  exact ⟨rfl, h.step hb⟩
 have N1 : Calls Try.prog 16 #[.int .i64 8, .int .i64 4] w fun e w' => e = .returned (.pointer (some ⟨w.heap.size + 1, 0, none⟩)) ∧ ∃ M, KT w w' (w.heap.size + 1) M ((8 : Nat) : Int) 4 0 ∧ SH M [] := by
  refine (tNew_ok 8 4 w (by decide) (by decide) (by decide) (by decide)).mono ?_
  rintro e w' ⟨rfl, rfl⟩
  exact ⟨rfl, _, KT_new w 8 4, SH_new _⟩
 have AP1 := Aside0.mk P1
 have AP2 := Aside0.mk P2
 have AG1 := Aside0.mk G1
 have AG2 := Aside0.mk G2
 have AN1 := Aside0.mk N1
 clear P1 P2 G1 G2 N1
 go_enter Try.func17, Try.ntmps17
 go_wp2_with (first
  | (go_at_call 16; with_reducible refine AN1.out.mono ?_; rintro e w1 ⟨rfl, M0, ht, hs⟩; have HT0 := Aside0.mk ht; have HS0 := Aside0.mk hs; clear ht hs)
  | (go_at_call 28; with_reducible refine (AP1.out _ _ HT0.out HS0.out).mono ?_; rintro e w2 ⟨rfl, M1, ht, hs⟩; have HT1 := Aside0.mk ht; have HS1 := Aside0.mk hs; clear ht hs)
  | (go_at_call 28; with_reducible refine (AP2.out _ _ HT1.out HS1.out).mono ?_; rintro e w3 ⟨rfl, M2, ht, hs⟩; have HT2 := Aside0.mk ht; have HS2 := Aside0.mk hs; clear ht hs)
  | (go_at_call 21; with_reducible refine (AG1.out _ _ HT2.out HS2.out).mono ?_; rintro e w4 ⟨rfl, ht⟩; have HT3 := Aside0.mk ht; clear ht)
  | (go_at_call 21; with_reducible refine (AG2.out _ _ HT3.out HS2.out).mono ?_; rintro e w5 ⟨rfl, ht⟩; have HT4 := Aside0.mk ht; clear ht))
 go_ret
 exact ⟨rfl, HT4.out.below⟩
/-- What stands of the reference's list. -/
structure SIt (W : Nat) (x : List S45) (m : Int) : Prop where
 ap : x.Pairwise (fun a b => sameP (toTI W a) (toTI W b) = false)
 ok : ∀ y ∈ x, okP W y
 le : (x.length : Int) ≤ m
theorem SIt.apart {W : Nat} {x : List S45} {m : Int} (h : SIt W x m) : apartT (x.map (toTI W)) := by unfold apartT; rw [List.pairwise_map]; exact h.ap
/-- The list behind a step. -/
def stepQ (W : Nat) (m : Int) (x : List S45) (kd : Int) (y : S45) : List S45 :=
 if kd = 0 then rputT W m x y else if kd = 1 then rsetT W x y else if kd = 2 then rdropT W x y else x
theorem SIt.step {W : Nat} {x : List S45} {m : Int} (h : SIt W x m) (kd : Int) (y : S45) (hy : okV y.f0) : SIt W (stepQ W m x kd y) m := by
 unfold stepQ
 split
 ·unfold rputT
  split
  ·rename_i e
   have e2 := e
   unfold putEt at e
   split at e
   ·rename_i e3; exact absurd e e3
   ·rename_i e3
    split at e
    ·cases e
    ·rename_i e4
     split at e
     ·cases e
     ·rename_i e5
      have hm0 : mayS W y = 0 := by simpa using e3
      rw [any_toTI, Bool.not_eq_true, List.any_eq_false] at e4
      refine ⟨?_, fun z hz => ?_, ?_⟩
      ·rw [List.pairwise_append]
       refine ⟨h.ap, by simp, fun a ha b hb => ?_⟩
       obtain rfl := List.mem_singleton.1 hb
       simpa using e4 a ha
      ·rcases List.mem_append.1 hz with hz | hz
       ·exact h.ok z hz
       ·obtain rfl := List.mem_singleton.1 hz; exact ⟨hy, hm0⟩
      ·have := h.le
       rw [List.length_append, List.length_singleton]; omega
  ·exact h
 ·split
  ·unfold rsetT
   split
   ·have hk : ∀ z : S45, toTI W (if sameP (toTI W z) (toTI W y) = true then { z with f2 := y.f2 } else z) = { toTI W z with n := (if sameP (toTI W z) (toTI W y) = true then y.f2 else z.f2) } := by intro z; split <;> rfl
    refine ⟨?_, fun z hz => ?_, by rw [List.length_map]; exact h.le⟩
    ·rw [List.pairwise_map]
     refine h.ap.imp (fun {a b} hab => ?_)
     rw [hk, hk]
     exact hab
    ·obtain ⟨u, hu, rfl⟩ := List.mem_map.1 hz
     have := h.ok u hu
     split <;> exact this
   ·exact h
  ·split
   ·unfold rdropT
    split
    ·exact ⟨List.Pairwise.filter _ h.ap, fun z hz => h.ok z (List.mem_filter.1 hz).1, by have := List.length_filter_le (fun z => !sameP (toTI W z) (toTI W y)) x; have := h.le; omega⟩
    ·exact h
   ·exact h
theorem map_rput (W : Nat) (m : Int) (x : List S45) (y : S45) : (rputT W m x y).map (toTI W) = if putEt (mayS W y) m x.length (x.map (toTI W)) (toTI W y) = 0 then x.map (toTI W) ++ [toTI W y] else x.map (toTI W) := by
 unfold rputT; split <;> simp
theorem map_rset (W : Nat) (x : List S45) (y : S45) : (rsetT W x y).map (toTI W) = if setEt (mayS W y) (x.map (toTI W)) (toTI W y) = 0 then updT (toTI W y) (x.map (toTI W)) else x.map (toTI W) := by
 unfold rsetT
 split
 ·unfold updT
  rw [List.map_map, List.map_map]
  refine List.map_congr_left (fun z _ => ?_)
  simp only [Function.comp_apply]
  split <;> rfl
 ·rfl
theorem map_rdrop (W : Nat) (x : List S45) (y : S45) : (rdropT W x y).map (toTI W) = if setEt (mayS W y) (x.map (toTI W)) (toTI W y) = 0 then delT (toTI W y) (x.map (toTI W)) else x.map (toTI W) := by
 unfold rdropT
 split
 ·unfold delT; rw [List.filter_map]; rfl
 ·rfl
theorem len_rput (W : Nat) (m : Int) (x : List S45) (y : S45) : (if putEt (mayS W y) m x.length (x.map (toTI W)) (toTI W y) = 0 then (x.length : Int) + 1 else x.length) = ((rputT W m x y).length : Int) := by
 unfold rputT; split <;> simp
theorem len_rset (W : Nat) (x : List S45) (y : S45) : (x.length : Int) = ((rsetT W x y).length : Int) := by unfold rsetT; split <;> simp
theorem len_rdrop (W : Nat) (x : List S45) (y : S45) (hd : apartT (x.map (toTI W))) : (if setEt (mayS W y) (x.map (toTI W)) (toTI W y) = 0 then (x.length : Int) - 1 else x.length) = ((rdropT W x y).length : Int) := by
 have hm := map_rdrop W x y
 by_cases c : setEt (mayS W y) (x.map (toTI W)) (toTI W y) = 0
 ·rw [if_pos c] at hm ⊢
  have hany : (x.map (toTI W)).any (fun z => sameP z (toTI W y)) = true := by
   unfold setEt at c
   split at c
   ·rename_i e; exact absurd c e
   ·split at c
    ·rename_i e; exact e
    ·cases c
  have hl := delT_length hd _ hany
  have := congrArg List.length hm
  rw [List.length_map] at this
  rw [List.length_map] at hl
  omega
 ·unfold rdropT; rw [if_neg c, if_neg c]
set_option maxHeartbeats 1000000 in
set_option maxRecDepth 100000 in
theorem tstep_two (w0 w : World) (g : Nat) (M : NM) (vx : Value) (p x : List S45) (W : Nat) (m kd ln nn : Int) (v : S32) (h : STt w0 w g M vx p x W m) (hp : SIt W p m) (hx : SIt W x m) (h1 : 1 ≤ W) (h2 : W ≤ 128) (h3 : m ≤ 256) (hV : okV v) :
 Calls Try.prog 18 #[.pointer (some ⟨g, 0, none⟩), vx, .agg #[.int .i64 (W : Int), .int .i64 m], .agg #[.int .i64 kd, .int .i64 ln, .int .i64 nn, .int .i64 v.f0, .int .u64 v.f1, .int .u64 v.f2]] w fun e_ w' => ∃ M1 vx1 bb, e_ = .returned (.tuple #[vx1, .bool bb]) ∧ (p = x → bb = true) ∧ STt w0 w' g M1 vx1 (stepQ W m p kd ⟨v, ln, nn⟩) (stepQ W m x kd ⟨v, ln, nn⟩) W m ∧ Kept w w' (SKt g M vx) := by
 have hpl := hp.le
 have hxl := hx.le
 have hX := vV_lt hV
 have ehi := vV_hi hV
 have elo := vV_lo hV
 unfold stepQ
 rw [← ehi, ← elo]
 by_cases c0 : kd = 0
 ·subst c0
  rw [if_pos rfl, if_pos rfl]
  have hr := ref20_Put_eq W 1000 h1 h2 x (by omega) (by omega) m hxl hx.ok ⟨v, ln, nn⟩ hV
  simp only at hr
  rw [← ehi, ← elo] at hr
  refine (tstep_put w0 w g 1000 M vx p x W (vV v) m ln nn v.f0 h _ (rputT W m p ⟨v, ln, nn⟩) _ (putEt (mayS W ⟨v, ln, nn⟩) m p.length (p.map (toTI W)) (toTI W ⟨v, ln, nn⟩)) _ _ (len_rput W m p ⟨v, ln, nn⟩) hr rfl (fun w1 hk => ?_)).mono ?_
  ·refine (tPut_calls w0 w1 g M (p.map (toTI W)) W (vV v) v.f0 m p.length ln nn hk h.sh h1 h2 hX ⟨by omega, by omega⟩).mono ?_
   rintro e_ w' ⟨rfl, M1, hk1, hs1, hkp⟩
   exact ⟨rfl, M1, hk1, by rw [map_rput]; exact hs1, hkp⟩
  ·rintro e_ w' ⟨M1, vx1, rfl, ht, hkp⟩
   exact ⟨M1, vx1, _, rfl, fun e => by subst e; exact beq_self_eq_true _, ht, hkp⟩
 ·rw [if_neg c0, if_neg c0]
  by_cases c1 : kd = 1
  ·subst c1
   rw [if_pos rfl, if_pos rfl]
   have hr := ref20_Set_eq W 1000 h1 h2 x (by omega) (by omega) hx.ok hx.ap ⟨v, ln, nn⟩ hV
   simp only at hr
   rw [← ehi, ← elo] at hr
   refine (tstep_set w0 w g 1000 M vx p x W (vV v) m ln nn v.f0 h _ (rsetT W p ⟨v, ln, nn⟩) _ (setEt (mayS W ⟨v, ln, nn⟩) (p.map (toTI W)) (toTI W ⟨v, ln, nn⟩)) _ _ (len_rset W p ⟨v, ln, nn⟩) hr rfl (fun w1 hk => ?_)).mono ?_
   ·refine (tSet_calls w0 w1 g M (p.map (toTI W)) W (vV v) v.f0 m p.length ln nn hk h.sh h1 h2 hX).mono ?_
    rintro e_ w' ⟨rfl, M1, hk1, hs1, hkp⟩
    exact ⟨rfl, M1, hk1, by rw [map_rset]; exact hs1, hkp⟩
   ·rintro e_ w' ⟨M1, vx1, rfl, ht, hkp⟩
    exact ⟨M1, vx1, _, rfl, fun e => by subst e; exact beq_self_eq_true _, ht, hkp⟩
  ·rw [if_neg c1, if_neg c1]
   by_cases c2 : kd = 2
   ·subst c2
    rw [if_pos rfl, if_pos rfl]
    have hr := ref20_Drop_eq W 1000 h1 h2 x (by omega) (by omega) hx.ok hx.ap ⟨v, ln, nn⟩ hV
    simp only at hr
    rw [← ehi, ← elo] at hr
    refine (tstep_drop w0 w g 1000 M vx p x W (vV v) m ln nn v.f0 h _ (rdropT W p ⟨v, ln, nn⟩) _ (setEt (mayS W ⟨v, ln, nn⟩) (p.map (toTI W)) (toTI W ⟨v, ln, nn⟩)) _ _ (len_rdrop W p ⟨v, ln, nn⟩ hp.apart) hr rfl (fun w1 hk => ?_)).mono ?_
    ·refine (tDrop_calls w0 w1 g M (p.map (toTI W)) W (vV v) v.f0 m p.length ln nn hk h.sh h1 h2 hX ⟨by omega, by omega⟩).mono ?_
     rintro e_ w' ⟨rfl, M1, hk1, hs1, hkp⟩
     exact ⟨rfl, M1, hk1, by rw [map_rdrop]; exact hs1, hkp⟩
    ·rintro e_ w' ⟨M1, vx1, rfl, ht, hkp⟩
     exact ⟨M1, vx1, _, rfl, fun e => by subst e; exact beq_self_eq_true _, ht, hkp⟩
   ·rw [if_neg c2, if_neg c2]
    have k0 : (kd == 0) = false := by simpa using c0
    have k1 : (kd == 1) = false := by simpa using c1
    have k2 : (kd == 2) = false := by simpa using c2
    have hmy := ref02_May_eq v.f0 (vV v) hX
    by_cases d1 : vmay v.f0 (vV v) = true
    ·by_cases d2 : v.f0 = (W : Int)
     ·have hXW : vV v < 2 ^ W := by have := (vmay_lt d1).2.2; rwa [d2, Int.toNat_natCast] at this
      obtain ⟨r, hr, hb⟩ := ref20_Get_eq W 1000 h1 h2 x (by omega) (by omega) hx.ok hx.apart (vV v) hXW
      rw [d1] at hmy
      obtain ⟨t, ht0⟩ : ∃ t, trip (bestTo (p.map (toTI W)) W (vV v) (W + 1)) = t := ⟨_, rfl⟩
      obtain ⟨ga, gb, gc⟩ := t
      have hpg : ∀ w1, KT w0 w1 g M (W : Int) m (p.length : Int) → Calls Try.prog 21 #[.pointer (some ⟨g, 0, none⟩), .agg #[.int .i64 v.f0, .int .u64 (hiW (vV v)), .int .u64 (loW (vV v))]] w1 fun e_ w' => e_ = .returned (.tuple #[.int .i64 ga, .int .i64 gb, .bool gc]) ∧ Below w1.heap.size w1 w' := fun w1 hk => by
       have := tGet_ok w0 w1 g M (p.map (toTI W)) W (vV v) v.f0 m p.length hk h.sh h1 h2 hXW d2
       rw [ht0] at this
       exact this
      rcases hb with ⟨rfl, hb⟩ | ⟨j, hj, rfl, i, hi, hb⟩
      ·refine (tstep_none w0 w g 1000 M vx p x W (vV v) m kd ln nn v.f0 h k0 k1 k2 hmy d2 hr ga gb gc hpg).mono ?_
       rintro e_ w' ⟨⟨bb, rfl, hbb⟩, ht, hkp⟩
       exact ⟨M, vx, bb, rfl, fun e => by subst e; rw [hb] at ht0; injection ht0 with e1 e2; injection e2 with e2 e3; exact hbb e1.symm e2.symm e3.symm, ht, hkp⟩
      ·refine (tstep_found w0 w g 1000 M vx p x W (vV v) m kd ln nn v.f0 h k0 k1 k2 hmy d2 j hj hr ga gb gc hpg).mono ?_
       rintro e_ w' ⟨⟨bb, rfl, hbb⟩, ht, hkp⟩
       exact ⟨M, vx, bb, rfl, fun e => by subst e; rw [hb] at ht0; injection ht0 with e1 e2; injection e2 with e2 e3; exact hbb e1.symm (by rw [hi]; exact e2.symm) e3.symm, ht, hkp⟩
     ·rw [d1] at hmy
      have hne : (v.f0 != (W : Int)) = true := by simpa using d2
      refine (tstep_miss2 w0 w g 1000 M vx p x W (vV v) m kd ln nn v.f0 h k0 k1 k2 hmy (by simpa using d2) 0 0 false (fun w1 hk => tGet_bad2 w0 w1 g M (p.map (toTI W)) W (vV v) v.f0 m p.length hk hX d1 hne)).mono ?_
      rintro e_ w' ⟨⟨bb, rfl, hbb⟩, ht, hkp⟩
      exact ⟨M, vx, bb, rfl, fun _ => hbb rfl rfl rfl, ht, hkp⟩
    ·rw [Bool.not_eq_true] at d1
     rw [d1] at hmy
     refine (tstep_miss1 w0 w g 1000 M vx p x W (vV v) m kd ln nn v.f0 h k0 k1 k2 hmy 0 0 false (fun w1 hk => tGet_bad1 w0 w1 g M (p.map (toTI W)) W (vV v) v.f0 m p.length hk hX d1)).mono ?_
     rintro e_ w' ⟨⟨bb, rfl, hbb⟩, ht, hkp⟩
     exact ⟨M, vx, bb, rfl, fun _ => hbb rfl rfl rfl, ht, hkp⟩
end Go.Proofs.Ytfdbcnbakchcgaa.XR
