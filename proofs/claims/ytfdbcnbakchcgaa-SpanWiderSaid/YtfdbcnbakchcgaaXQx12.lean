import Derived.Test.YtfdbcnbakchcgaaSv
import Derived.Test.YtfdbcnbakchcgaaXQx0
import Derived.Test.YtfdbcnbakchcgaaXQx8
import Derived.Test.YtfdbcnbakchcgaaXQx10
namespace Go.Proofs.Ytfdbcnbakchcgaa.XQ
open Go.RowKit Go.Proofs.YtfdbcnbakchcgaaW.PrintWords Go.Proofs.YtfdbcnbakchcgaaW.PrintLast Go.Proofs.YtfdbcnbakchcgaaW.PrintMore
attribute [local go_sem] max2_int min2_int max_two min_two max_three min_three max_four min_four
set_option linter.unusedVariables false
set_option linter.unusedSimpArgs false
-- EXT shunter/shunterref22.May ROUNDS=0 MAKING=1 DEPS=shunter/shunterref02.May;shunter/shunterref02.Within
def rmB (x : S32) : Bool := shunterref02_May.f x.f0 x.f1 x.f2 == some true
def rmD (x : S32) : Bool := (shunterref02_May.f x.f0 x.f1 x.f2).isSome
theorem some_beq {o : Option Bool} (h : o.isSome = true) : o = some (o == some true) := by
 cases o with
 | none => cases h
 | some b => cases b <;> rfl
theorem rm_some {x : S32} (h : rmD x = true) : shunterref02_May.f x.f0 x.f1 x.f2 = some (rmB x) := some_beq h
def rwB (x y : S32) : Bool := shunterref02_Within.f x.f0 x.f1 x.f2 x.f0 x.f1 x.f2 y.f0 y.f1 y.f2 == some true
def rwD (x y : S32) : Bool := (shunterref02_Within.f x.f0 x.f1 x.f2 x.f0 x.f1 x.f2 y.f0 y.f1 y.f2).isSome
theorem rw_some {x y : S32} (h : rwD x y = true) : shunterref02_Within.f x.f0 x.f1 x.f2 x.f0 x.f1 x.f2 y.f0 y.f1 y.f2 = some (rwB x y) := some_beq h
def allTo (p : Nat → Bool) (n : Nat) : Bool := (List.range n).all p
theorem allTo_iff (p : Nat → Bool) (n : Nat) : allTo p n = true ↔ ∀ i, i < n → p i = true := by
 unfold allTo
 rw [List.all_eq_true]
 exact ⟨fun h i hi => h i (List.mem_range.2 hi), fun h i hi => h i (List.mem_range.1 hi)⟩
theorem allTo_zero (p : Nat → Bool) : allTo p 0 = true := rfl
theorem allTo_at {p : Nat → Bool} {n i : Nat} (h : allTo p n = true) (hi : i < n) : p i = true := (allTo_iff p n).1 h i hi
theorem allTo_no {p : Nat → Bool} {n i : Nat} (hi : i < n) (h : p i = false) : allTo p n = false := by
 rw [Bool.eq_false_iff]
 intro ha
 rw [allTo_at ha hi] at h
 cases h
theorem allTo_succ {p : Nat → Bool} {i : Nat} (h : allTo p i = true) (hp : p i = true) : allTo p (i + 1) = true := (allTo_iff p (i + 1)).2 (fun j hj => by
 rcases Nat.lt_or_ge j i with c | c
 ·exact allTo_at h c
 ·obtain rfl : j = i := by omega
  exact hp)
def lx (l : List S32) (i : Nat) : S32 := rd_T32 l (i : Int)
def fitR (ws : List Int) (lo hi : List S32) (i : Nat) : Bool := rmB (lx lo i) && (rmB (lx hi i) && ((lx lo i).f0 == rd ws (i : Int) && ((lx hi i).f0 == rd ws (i : Int))))
def mayR (ws : List Int) (lo hi : List S32) (pr : Int) : Int := if allTo (fitR ws lo hi) ws.length = true then (if pr < 0 then 7 else if 65535 < pr then 7 else if allTo (fun i => rwB (lx lo i) (lx hi i)) ws.length = true then 0 else 7) else 9
def donR (lo hi : List S32) (i : Nat) : Bool := rmD (lx lo i) && (rmD (lx hi i) && rwD (lx lo i) (lx hi i))
def shunterref22_May.f (l0 : List Int) (l1_0 : List (S32)) (l1_1 : List (S32)) (a1_2 : Int) (a1_3 : Int) : Option Int :=
 if l1_0.length = l0.length then (if l1_1.length = l0.length then (if allTo (donR l1_0 l1_1) l0.length = true then some (mayR l0 l1_0 l1_1 a1_2) else none) else some 2) else some 2
theorem skipW22 {c : Bool} {A B : Prop} (h : c = false) (hb : B) : if c = true then A else B := by subst h; simpa using hb
set_option maxHeartbeats 1000000 in
set_option maxRecDepth 100000 in
theorem rMay_len1 (E : Option Addr) (e : Nat) (ws : List Int) (A : Option Addr) (c : Nat) (lo : List S32) (B : Option Addr) (d : Nat) (hi : List S32) (pr nn : Int) (w : World) (h : ¬ lo.length = ws.length) :
 Calls Try.prog 144 #[.slice E ws.length e, .agg #[.slice A lo.length c, .slice B hi.length d, .int .i64 pr, .int .i64 nn]] w fun e_ w' => e_ = .returned (.int .i64 2) ∧ Below w.heap.size w w' := by
 have g1 : ((lo.length : Int) != (ws.length : Int)) = true := by simpa using (fun hh => h (by omega))
 have HB := Aside0.mk (below_alloc (Below.refl w.heap.size w) (.cells #[.slice A lo.length c, .slice B hi.length d, .int .i64 pr, .int .i64 nn] 99 (0, 0)))
 have x0 := blk_cell (blk_new w (.cells #[.slice A lo.length c, .slice B hi.length d, .int .i64 pr, .int .i64 nn] 99 (0, 0))) 0
 have x1 := blk_cell (blk_new w (.cells #[.slice A lo.length c, .slice B hi.length d, .int .i64 pr, .int .i64 nn] 99 (0, 0))) 1
 have x2 := blk_cell (blk_new w (.cells #[.slice A lo.length c, .slice B hi.length d, .int .i64 pr, .int .i64 nn] 99 (0, 0))) 2
 have x3 := blk_cell (blk_new w (.cells #[.slice A lo.length c, .slice B hi.length d, .int .i64 pr, .int .i64 nn] 99 (0, 0))) 3
 simp only [List.getElem?_toArray, List.getElem?_cons_succ, List.getElem?_cons_zero] at x0 x1 x2 x3
 clear h
 go_enter Try.func144, Try.ntmps144
 go_wp2
 go_ret
 exact ⟨rfl, HB.out⟩
set_option maxHeartbeats 1000000 in
set_option maxRecDepth 100000 in
theorem rMay_len2 (E : Option Addr) (e : Nat) (ws : List Int) (A : Option Addr) (c : Nat) (lo : List S32) (B : Option Addr) (d : Nat) (hi : List S32) (pr nn : Int) (w : World) (h : lo.length = ws.length) (h2 : ¬ hi.length = ws.length) :
 Calls Try.prog 144 #[.slice E ws.length e, .agg #[.slice A lo.length c, .slice B hi.length d, .int .i64 pr, .int .i64 nn]] w fun e_ w' => e_ = .returned (.int .i64 2) ∧ Below w.heap.size w w' := by
 have g1 : ((lo.length : Int) != (ws.length : Int)) = false := by simp [h]
 have g2 : ((hi.length : Int) != (ws.length : Int)) = true := by simpa using (fun hh => h2 (by omega))
 have HB := Aside0.mk (below_alloc (Below.refl w.heap.size w) (.cells #[.slice A lo.length c, .slice B hi.length d, .int .i64 pr, .int .i64 nn] 99 (0, 0)))
 have x0 := blk_cell (blk_new w (.cells #[.slice A lo.length c, .slice B hi.length d, .int .i64 pr, .int .i64 nn] 99 (0, 0))) 0
 have x1 := blk_cell (blk_new w (.cells #[.slice A lo.length c, .slice B hi.length d, .int .i64 pr, .int .i64 nn] 99 (0, 0))) 1
 have x2 := blk_cell (blk_new w (.cells #[.slice A lo.length c, .slice B hi.length d, .int .i64 pr, .int .i64 nn] 99 (0, 0))) 2
 have x3 := blk_cell (blk_new w (.cells #[.slice A lo.length c, .slice B hi.length d, .int .i64 pr, .int .i64 nn] 99 (0, 0))) 3
 simp only [List.getElem?_toArray, List.getElem?_cons_succ, List.getElem?_cons_zero] at x0 x1 x2 x3
 clear h h2
 go_enter Try.func144, Try.ntmps144
 go_wp2
 go_ret
 exact ⟨rfl, HB.out⟩
set_option maxHeartbeats 1000000 in
set_option maxRecDepth 100000 in
theorem rMay_go (E : Option Addr) (e : Nat) (ws : List Int) (A : Option Addr) (c : Nat) (lo : List S32) (B : Option Addr) (d : Nat) (hi : List S32) (pr nn : Int) (w : World) (h1 : lo.length = ws.length) (h2 : hi.length = ws.length) (hd : allTo (donR lo hi) ws.length = true) (hE : Kd.C (Kd.int .i64) w E ws.length ws) (hA : Kd.C k32 w A lo.length lo) (hB : Kd.C k32 w B hi.length hi) :
 Calls Try.prog 144 #[.slice E ws.length e, .agg #[.slice A lo.length c, .slice B hi.length d, .int .i64 pr, .int .i64 nn]] w fun e_ w' => e_ = .returned (.int .i64 (mayR ws lo hi pr)) ∧ Below w.heap.size w w' := by
 have HE1 := Aside0.mk h1
 have HE2 := Aside0.mk h2
 have HD := Aside0.mk hd
 have g1 : ((lo.length : Int) != (ws.length : Int)) = false := by simp [h1]
 have g2 : ((hi.length : Int) != (ws.length : Int)) = false := by simp [h2]
 have HX0 := Aside0.mk (blk_new w (.cells #[.slice A lo.length c, .slice B hi.length d, .int .i64 pr, .int .i64 nn] 99 (0, 0)))
 have HWQ := Aside0.mk (below_alloc (Below.refl w.heap.size w) (.cells #[.slice A lo.length c, .slice B hi.length d, .int .i64 pr, .int .i64 nn] 99 (0, 0)))
 have x0 := blk_cell HX0.out 0
 have x1 := blk_cell HX0.out 1
 have x2 := blk_cell HX0.out 2
 have x3 := blk_cell HX0.out 3
 simp only [List.getElem?_toArray, List.getElem?_cons_succ, List.getElem?_cons_zero] at x0 x1 x2 x3
 obtain ⟨wq, hwq⟩ : ∃ wq, wq = w.alloc (.cells #[.slice A lo.length c, .slice B hi.length d, .int .i64 pr, .int .i64 nn] 99 (0, 0)) := ⟨_, rfl⟩
 have HX := Aside0.mk (show wq.heap[w.heap.size]? = some (.cells #[.slice A lo.length c, .slice B hi.length d, .int .i64 pr, .int .i64 nn] 99 (0, 0)) from by rw [hwq]; exact HX0.out)
 have HWB := Aside0.mk (show Below w.heap.size w wq from by rw [hwq]; exact HWQ.out)
 have HWS := Aside0.mk (show Kd.C (Kd.int .i64) wq E ws.length ws from Kd.C_below hE HWB.out)
 have HLO := Aside0.mk (show Kd.C k32 wq A lo.length lo from Kd.C_below hA HWB.out)
 have HHI := Aside0.mk (show Kd.C k32 wq B hi.length hi from Kd.C_below hB HWB.out)
 clear h1 h2 hd hE hA hB
 go_enter Try.func144, Try.ntmps144
 go_wp2
 clear x0 x1 x2 x3 g1 g2
 rw [← hwq]
 clear hwq HX0 HWQ
 go_loopw [5] (fun u5 w' => ∃ i : Nat, i ≤ ws.length ∧ u5 = .int .i64 i ∧ Aside0 (allTo (fitR ws lo hi) i = true) ∧ Aside0 (Below wq.heap.size wq w')) (fun u5 _ => ws.length - (intOf u5).toNat)
 case atStart => exact ⟨0, Nat.zero_le _, rfl, ⟨allTo_zero _⟩, ⟨Below.refl _ _⟩⟩
 case round =>
  obtain ⟨i, hi_, rfl, HF, HB7⟩ := hrel
  by_cases hlt : i < ws.length
  ·have hmax := HWS.out.2.1
   have hi0 : 0 ≤ (i : Int) := by omega
   have hil : (i : Int) < (ws.length : Int) := by omega
   have hl1 := HE1.out
   have hl2 := HE2.out
   have hila : (i : Int) < (lo.length : Int) := by omega
   have hilb : (i : Int) < (hi.length : Int) := by omega
   clear hl1 hl2
   obtain ⟨da, hA, _⟩ := at_T32 HLO.out (i : Int) hi0 (by omega)
   subst hA
   obtain ⟨db, hB, _⟩ := at_T32 HHI.out (i : Int) hi0 (by omega)
   subst hB
   obtain ⟨x, hx⟩ : ∃ x, x = lx lo i := ⟨_, rfl⟩
   obtain ⟨y, hy⟩ : ∃ y, y = lx hi i := ⟨_, rfl⟩
   have HCX := Aside0.mk (show ∀ w', Below wq.heap.size wq w' → w'.cell? (da.add (i * 3)) = some (.int .i64 x.f0) ∧ w'.cell? ⟨(da.add (i * 3)).block, (da.add (i * 3)).off + 1, none⟩ = some (.int .u64 x.f1) ∧ w'.cell? ⟨(da.add (i * 3)).block, (da.add (i * 3)).off + 2, none⟩ = some (.int .u64 x.f2) from fun w' hb => by
    obtain ⟨ad2, e2, h2⟩ := at_T32 (Kd.C_below HLO.out hb) (i : Int) hi0 (by omega)
    injection e2 with e2
    subst e2
    rw [Int.toNat_natCast, show rd_T32 lo (i : Int) = x from by rw [hx]; rfl] at h2
    exact h2)
   have HCY := Aside0.mk (show ∀ w', Below wq.heap.size wq w' → w'.cell? (db.add (i * 3)) = some (.int .i64 y.f0) ∧ w'.cell? ⟨(db.add (i * 3)).block, (db.add (i * 3)).off + 1, none⟩ = some (.int .u64 y.f1) ∧ w'.cell? ⟨(db.add (i * 3)).block, (db.add (i * 3)).off + 2, none⟩ = some (.int .u64 y.f2) from fun w' hb => by
    obtain ⟨ad2, e2, h2⟩ := at_T32 (Kd.C_below HHI.out hb) (i : Int) hi0 (by omega)
    injection e2 with e2
    subst e2
    rw [Int.toNat_natCast, show rd_T32 hi (i : Int) = y from by rw [hy]; rfl] at h2
    exact h2)
   have hdn := allTo_at HD.out hlt
   unfold donR at hdn
   rw [← hx, ← hy] at hdn
   simp only [Bool.and_eq_true] at hdn
   obtain ⟨dw, hW, _⟩ := Kd.at_int HWS.out (i : Int) hi0 (by omega)
   subst hW
   obtain ⟨v, hv⟩ : ∃ v, v = rd ws (i : Int) := ⟨_, rfl⟩
   have HWI := Aside0.mk (show ∀ w', Below wq.heap.size wq w' → w'.cell? (dw.add i) = some (.int .i64 v) from fun w' hb => by
    obtain ⟨ad2, e2, h2⟩ := Kd.at_int (Kd.C_below HWS.out hb) (i : Int) hi0 (by omega)
    injection e2 with e2
    subst e2
    rw [Int.toNat_natCast, ← hv] at h2
    exact h2)
   have hfit : fitR ws lo hi i = (rmB x && (rmB y && (x.f0 == v && (y.f0 == v)))) := by unfold fitR; rw [← hx, ← hy, ← hv]
   have hmx := rm_some hdn.1
   have hmy := rm_some hdn.2.1
   have HFIT := Aside0.mk hfit
   clear hfit hdn hx hy hv
   cases e1 : rmB x with
   | false =>
    have HMX := Aside0.mk (show shunterref02_May.f x.f0 x.f1 x.f2 = some false from by rw [hmx, e1])
    have hfi : fitR ws lo hi i = false := by rw [HFIT.out, e1]; simp
    have HR := Aside0.mk (show mayR ws lo hi pr = 9 from by unfold mayR; rw [if_neg (by rw [allTo_no hlt hfi]; simp)])
    clear hfi
    clear e1 hmx hmy
    go_wp2
    refine start_ (n := 42) (S := fun w' => Below wq.heap.size wq w') (ds := []) #[false, false, false, false, false, false, false, false, false, false, false, false, false, false, false, false, false, false, false, false, false, false, false, false, false, false, false, false, false, false, false, false, false, false, false, false, false, false, false, false, false, false] (by kernel_rfl) rfl rfl (below_drew1 HB7.out) (fun hHeld => ?_)
    clear HB7
    generalize World.drew _ = w8 at hHeld ⊢
    refine pl_ [0, 2] ?_
    iterate 2 refine qP rfl rfl ?_
    refine pl0 ?_
    refine take_ (i := 1) (N := some 28) (v := ?_) (a' := ?_) #[true, true, true, false, false, false, false, false, false, false, false, false, false, false, false, false, false, false, false, false, false, false, false, false, false, false, false, false, false, false, false, false, false, false, false, false, false, false, false, false, false, false] rfl rfl (by kernel_rfl) (fun _ _ _ h => h) (Or.inl ⟨by rfl, ?_⟩) hHeld ?_ ?_
    rotate_left
    ·intro w' hs
     have b0 := blk_cell (blk_below HX.out hs) 0
     have b1 := blk_cell (blk_below HX.out hs) 1
     simp only [List.getElem?_toArray, List.getElem?_cons_succ, List.getElem?_cons_zero] at b0 b1
     go_simp
     with_reducible rfl
    rotate_left
    ·simp only [Act.put, List.setIfInBounds_toArray, List.set_cons_zero, List.set_cons_succ, i64_w, i32_w]
     rfl
    refine pl_ [3] ?_
    refine qP rfl rfl ?_
    refine pl0 ?_
    refine take_ (i := 4) (N := some 31) (v := ?_) (a' := ?_) #[true, true, true, true, true, false, false, false, false, false, false, false, false, false, false, false, false, false, false, false, false, false, false, false, false, false, false, false, false, false, false, false, false, false, false, false, false, false, false, false, false, false] rfl rfl (by kernel_rfl) (fun _ _ _ h => h) (Or.inl ⟨by rfl, ?_⟩) hHeld ?_ ?_
    rotate_left
    ·intro w' hs
     obtain ⟨s0, s1, s2⟩ := HCX.out w' hs
     go_simp
     with_reducible rfl
    rotate_left
    ·simp only [Act.put, List.setIfInBounds_toArray, List.set_cons_zero, List.set_cons_succ, i64_w, i32_w]
     rfl
    have HH := Aside0.mk hHeld
    clear hHeld
    refine one_ (i := 5) (N := some 32) #[true, true, true, true, true, true, false, false, false, false, false, false, false, false, false, false, false, false, false, false, false, false, false, false, false, false, false, false, false, false, false, false, false, false, false, false, false, false, false, false, false, false] rfl rfl (by kernel_rfl) (by decide) (fun K hK => ?_)
    refine goes_ Try.func20 (by kernel_rfl) rfl #[.agg #[.int .i64 x.f0, .int .u64 x.f1, .int .u64 x.f2]] (by rfl) rfl rfl (by simp only [List.map_toArray, List.map_cons, List.map_nil]; rfl) ?_
    with_reducible refine (shunterref02_May.calls x.f0 x.f1 x.f2 false _ HMX.out).mono ?_
    rintro e_ w1 ⟨rfl, hb⟩
    refine ⟨_, rfl, ?_⟩
    have HB8 := Aside0.mk (below_step HH.out hb)
    clear hb HH
    refine hK.out _ _ HB8.out (fun hHeld => ?_)
    clear hK K
    refine norm_ (a' := ?_) ?_ ?_
    rotate_left
    ·show Act.put _ (some 32) _ = _
     simp only [Act.put, List.setIfInBounds_toArray, List.set_cons_zero, List.set_cons_succ, i64_w, i32_w]
     rfl
    refine pl_ [6, 7, 8, 9, 10, 11, 12] ?_
    iterate 2 refine qP rfl rfl ?_
    iterate 5 refine qU rfl rfl ?_
    refine pl0 ?_
    refine one_ (i := 13) (N := some 40) #[true, true, true, true, true, true, true, true, true, true, true, true, true, true, false, false, false, false, false, false, false, false, false, false, false, false, false, false, false, false, false, false, false, false, false, false, false, false, false, false, false, false] rfl rfl (by kernel_rfl) (by decide) (fun K hK => ?_)
    refine skipW22 (by rfl) ?_
    refine hK.out _ _ hHeld (fun hHeld => ?_)
    clear hK K
    refine norm_ (a' := ?_) ?_ ?_
    rotate_left
    ·show Act.put _ (some 40) _ = _
     simp only [Act.put, List.setIfInBounds_toArray, List.set_cons_zero, List.set_cons_succ, i64_w, i32_w]
     rfl
    refine pl_ [14, 15, 16, 17, 18, 19, 20, 21, 22, 23, 24, 25, 26, 27, 28, 29, 30, 31, 32, 33, 34, 35, 36, 37, 38, 39, 40, 41] ?_
    refine qU rfl rfl ?_
    iterate 2 refine qP rfl rfl ?_
    iterate 11 refine qU rfl rfl ?_
    iterate 2 refine qP rfl rfl ?_
    iterate 11 refine qU rfl rfl ?_
    refine qP rfl rfl ?_
    refine pl0 ?_
    refine done_ (by kernel_rfl) ?_
    have HBC := Aside0.mk hHeld
    clear hHeld
    go_wp2
    go_ret
    exact ⟨by rw [HR.out]; rfl, below_step HWB.out HBC.out⟩
   | true =>
    cases e2 : rmB y with
    | false =>
     have HMX := Aside0.mk (show shunterref02_May.f x.f0 x.f1 x.f2 = some true from by rw [hmx, e1])
     have HMY := Aside0.mk (show shunterref02_May.f y.f0 y.f1 y.f2 = some false from by rw [hmy, e2])
     have hfi : fitR ws lo hi i = false := by rw [HFIT.out, e2]; simp
     have HR := Aside0.mk (show mayR ws lo hi pr = 9 from by unfold mayR; rw [if_neg (by rw [allTo_no hlt hfi]; simp)])
     clear hfi
     clear e1 e2 hmx hmy
     go_wp2
     refine start_ (n := 42) (S := fun w' => Below wq.heap.size wq w') (ds := []) #[false, false, false, false, false, false, false, false, false, false, false, false, false, false, false, false, false, false, false, false, false, false, false, false, false, false, false, false, false, false, false, false, false, false, false, false, false, false, false, false, false, false] (by kernel_rfl) rfl rfl (below_drew1 HB7.out) (fun hHeld => ?_)
     clear HB7
     generalize World.drew _ = w8 at hHeld ⊢
     refine pl_ [0, 2] ?_
     iterate 2 refine qP rfl rfl ?_
     refine pl0 ?_
     refine take_ (i := 1) (N := some 28) (v := ?_) (a' := ?_) #[true, true, true, false, false, false, false, false, false, false, false, false, false, false, false, false, false, false, false, false, false, false, false, false, false, false, false, false, false, false, false, false, false, false, false, false, false, false, false, false, false, false] rfl rfl (by kernel_rfl) (fun _ _ _ h => h) (Or.inl ⟨by rfl, ?_⟩) hHeld ?_ ?_
     rotate_left
     ·intro w' hs
      have b0 := blk_cell (blk_below HX.out hs) 0
      have b1 := blk_cell (blk_below HX.out hs) 1
      simp only [List.getElem?_toArray, List.getElem?_cons_succ, List.getElem?_cons_zero] at b0 b1
      go_simp
      with_reducible rfl
     rotate_left
     ·simp only [Act.put, List.setIfInBounds_toArray, List.set_cons_zero, List.set_cons_succ, i64_w, i32_w]
      rfl
     refine pl_ [3] ?_
     refine qP rfl rfl ?_
     refine pl0 ?_
     refine take_ (i := 4) (N := some 31) (v := ?_) (a' := ?_) #[true, true, true, true, true, false, false, false, false, false, false, false, false, false, false, false, false, false, false, false, false, false, false, false, false, false, false, false, false, false, false, false, false, false, false, false, false, false, false, false, false, false] rfl rfl (by kernel_rfl) (fun _ _ _ h => h) (Or.inl ⟨by rfl, ?_⟩) hHeld ?_ ?_
     rotate_left
     ·intro w' hs
      obtain ⟨s0, s1, s2⟩ := HCX.out w' hs
      go_simp
      with_reducible rfl
     rotate_left
     ·simp only [Act.put, List.setIfInBounds_toArray, List.set_cons_zero, List.set_cons_succ, i64_w, i32_w]
      rfl
     have HH := Aside0.mk hHeld
     clear hHeld
     refine one_ (i := 5) (N := some 32) #[true, true, true, true, true, true, false, false, false, false, false, false, false, false, false, false, false, false, false, false, false, false, false, false, false, false, false, false, false, false, false, false, false, false, false, false, false, false, false, false, false, false] rfl rfl (by kernel_rfl) (by decide) (fun K hK => ?_)
     refine goes_ Try.func20 (by kernel_rfl) rfl #[.agg #[.int .i64 x.f0, .int .u64 x.f1, .int .u64 x.f2]] (by rfl) rfl rfl (by simp only [List.map_toArray, List.map_cons, List.map_nil]; rfl) ?_
     with_reducible refine (shunterref02_May.calls x.f0 x.f1 x.f2 true _ HMX.out).mono ?_
     rintro e_ w1 ⟨rfl, hb⟩
     refine ⟨_, rfl, ?_⟩
     have HB8 := Aside0.mk (below_step HH.out hb)
     clear hb HH
     refine hK.out _ _ HB8.out (fun hHeld => ?_)
     clear hK K
     refine norm_ (a' := ?_) ?_ ?_
     rotate_left
     ·show Act.put _ (some 32) _ = _
      simp only [Act.put, List.setIfInBounds_toArray, List.set_cons_zero, List.set_cons_succ, i64_w, i32_w]
      rfl
     refine pl_ [6, 7, 8, 10] ?_
     iterate 4 refine qP rfl rfl ?_
     refine pl0 ?_
     refine take_ (i := 9) (N := some 36) (v := ?_) (a' := ?_) #[true, true, true, true, true, true, true, true, true, true, true, false, false, false, false, false, false, false, false, false, false, false, false, false, false, false, false, false, false, false, false, false, false, false, false, false, false, false, false, false, false, false] rfl rfl (by kernel_rfl) (fun _ _ _ h => h) (Or.inl ⟨by rfl, ?_⟩) hHeld ?_ ?_
     rotate_left
     ·intro w' hs
      have b0 := blk_cell (blk_below HX.out hs) 0
      have b1 := blk_cell (blk_below HX.out hs) 1
      simp only [List.getElem?_toArray, List.getElem?_cons_succ, List.getElem?_cons_zero] at b0 b1
      go_simp
      with_reducible rfl
     rotate_left
     ·simp only [Act.put, List.setIfInBounds_toArray, List.set_cons_zero, List.set_cons_succ, i64_w, i32_w]
      rfl
     refine pl_ [11] ?_
     refine qP rfl rfl ?_
     refine pl0 ?_
     refine take_ (i := 12) (N := some 39) (v := ?_) (a' := ?_) #[true, true, true, true, true, true, true, true, true, true, true, true, true, false, false, false, false, false, false, false, false, false, false, false, false, false, false, false, false, false, false, false, false, false, false, false, false, false, false, false, false, false] rfl rfl (by kernel_rfl) (fun _ _ _ h => h) (Or.inl ⟨by rfl, ?_⟩) hHeld ?_ ?_
     rotate_left
     ·intro w' hs
      obtain ⟨s0, s1, s2⟩ := HCY.out w' hs
      go_simp
      with_reducible rfl
     rotate_left
     ·simp only [Act.put, List.setIfInBounds_toArray, List.set_cons_zero, List.set_cons_succ, i64_w, i32_w]
      rfl
     have HH := Aside0.mk hHeld
     clear hHeld
     refine one_ (i := 13) (N := some 40) #[true, true, true, true, true, true, true, true, true, true, true, true, true, true, false, false, false, false, false, false, false, false, false, false, false, false, false, false, false, false, false, false, false, false, false, false, false, false, false, false, false, false] rfl rfl (by kernel_rfl) (by decide) (fun K hK => ?_)
     refine goes_ Try.func20 (by kernel_rfl) rfl #[.agg #[.int .i64 y.f0, .int .u64 y.f1, .int .u64 y.f2]] (by rfl) rfl rfl (by simp only [List.map_toArray, List.map_cons, List.map_nil]; rfl) ?_
     with_reducible refine (shunterref02_May.calls y.f0 y.f1 y.f2 false _ HMY.out).mono ?_
     rintro e_ w1 ⟨rfl, hb⟩
     refine ⟨_, rfl, ?_⟩
     have HB9 := Aside0.mk (below_step HH.out hb)
     clear hb HH
     refine hK.out _ _ HB9.out (fun hHeld => ?_)
     clear hK K
     refine norm_ (a' := ?_) ?_ ?_
     rotate_left
     ·show Act.put _ (some 40) _ = _
      simp only [Act.put, List.setIfInBounds_toArray, List.set_cons_zero, List.set_cons_succ, i64_w, i32_w]
      rfl
     refine pl_ [14, 15, 16, 17, 18, 19, 20, 21, 22, 23, 24, 25, 26, 27, 28, 29, 30, 31, 32, 33, 34, 35, 36, 37, 38, 39, 40, 41] ?_
     iterate 3 refine qP rfl rfl ?_
     iterate 11 refine qU rfl rfl ?_
     iterate 2 refine qP rfl rfl ?_
     iterate 11 refine qU rfl rfl ?_
     refine qP rfl rfl ?_
     refine pl0 ?_
     refine done_ (by kernel_rfl) ?_
     have HBC := Aside0.mk hHeld
     clear hHeld
     go_wp2
     go_ret
     exact ⟨by rw [HR.out]; rfl, below_step HWB.out HBC.out⟩
    | true =>
     cases e3 : (x.f0 == v) with
     | false =>
      have HMX := Aside0.mk (show shunterref02_May.f x.f0 x.f1 x.f2 = some true from by rw [hmx, e1])
      have HMY := Aside0.mk (show shunterref02_May.f y.f0 y.f1 y.f2 = some true from by rw [hmy, e2])
      have hfi : fitR ws lo hi i = false := by rw [HFIT.out, e3]; simp
      have HR := Aside0.mk (show mayR ws lo hi pr = 9 from by unfold mayR; rw [if_neg (by rw [allTo_no hlt hfi]; simp)])
      clear hfi
      have e4 : (x.f0 != v) = true := by simpa using e3
      clear e1 e2 hmx hmy
      go_wp2
      refine start_ (n := 42) (S := fun w' => Below wq.heap.size wq w') (ds := []) #[false, false, false, false, false, false, false, false, false, false, false, false, false, false, false, false, false, false, false, false, false, false, false, false, false, false, false, false, false, false, false, false, false, false, false, false, false, false, false, false, false, false] (by kernel_rfl) rfl rfl (below_drew1 HB7.out) (fun hHeld => ?_)
      clear HB7
      generalize World.drew _ = w8 at hHeld ⊢
      refine pl_ [0, 2] ?_
      iterate 2 refine qP rfl rfl ?_
      refine pl0 ?_
      refine take_ (i := 1) (N := some 28) (v := ?_) (a' := ?_) #[true, true, true, false, false, false, false, false, false, false, false, false, false, false, false, false, false, false, false, false, false, false, false, false, false, false, false, false, false, false, false, false, false, false, false, false, false, false, false, false, false, false] rfl rfl (by kernel_rfl) (fun _ _ _ h => h) (Or.inl ⟨by rfl, ?_⟩) hHeld ?_ ?_
      rotate_left
      ·intro w' hs
       have b0 := blk_cell (blk_below HX.out hs) 0
       have b1 := blk_cell (blk_below HX.out hs) 1
       simp only [List.getElem?_toArray, List.getElem?_cons_succ, List.getElem?_cons_zero] at b0 b1
       go_simp
       with_reducible rfl
      rotate_left
      ·simp only [Act.put, List.setIfInBounds_toArray, List.set_cons_zero, List.set_cons_succ, i64_w, i32_w]
       rfl
      refine pl_ [3] ?_
      refine qP rfl rfl ?_
      refine pl0 ?_
      refine take_ (i := 4) (N := some 31) (v := ?_) (a' := ?_) #[true, true, true, true, true, false, false, false, false, false, false, false, false, false, false, false, false, false, false, false, false, false, false, false, false, false, false, false, false, false, false, false, false, false, false, false, false, false, false, false, false, false] rfl rfl (by kernel_rfl) (fun _ _ _ h => h) (Or.inl ⟨by rfl, ?_⟩) hHeld ?_ ?_
      rotate_left
      ·intro w' hs
       obtain ⟨s0, s1, s2⟩ := HCX.out w' hs
       go_simp
       with_reducible rfl
      rotate_left
      ·simp only [Act.put, List.setIfInBounds_toArray, List.set_cons_zero, List.set_cons_succ, i64_w, i32_w]
       rfl
      have HH := Aside0.mk hHeld
      clear hHeld
      refine one_ (i := 5) (N := some 32) #[true, true, true, true, true, true, false, false, false, false, false, false, false, false, false, false, false, false, false, false, false, false, false, false, false, false, false, false, false, false, false, false, false, false, false, false, false, false, false, false, false, false] rfl rfl (by kernel_rfl) (by decide) (fun K hK => ?_)
      refine goes_ Try.func20 (by kernel_rfl) rfl #[.agg #[.int .i64 x.f0, .int .u64 x.f1, .int .u64 x.f2]] (by rfl) rfl rfl (by simp only [List.map_toArray, List.map_cons, List.map_nil]; rfl) ?_
      with_reducible refine (shunterref02_May.calls x.f0 x.f1 x.f2 true _ HMX.out).mono ?_
      rintro e_ w1 ⟨rfl, hb⟩
      refine ⟨_, rfl, ?_⟩
      have HB8 := Aside0.mk (below_step HH.out hb)
      clear hb HH
      refine hK.out _ _ HB8.out (fun hHeld => ?_)
      clear hK K
      refine norm_ (a' := ?_) ?_ ?_
      rotate_left
      ·show Act.put _ (some 32) _ = _
       simp only [Act.put, List.setIfInBounds_toArray, List.set_cons_zero, List.set_cons_succ, i64_w, i32_w]
       rfl
      refine pl_ [6, 7, 8, 10] ?_
      iterate 4 refine qP rfl rfl ?_
      refine pl0 ?_
      refine take_ (i := 9) (N := some 36) (v := ?_) (a' := ?_) #[true, true, true, true, true, true, true, true, true, true, true, false, false, false, false, false, false, false, false, false, false, false, false, false, false, false, false, false, false, false, false, false, false, false, false, false, false, false, false, false, false, false] rfl rfl (by kernel_rfl) (fun _ _ _ h => h) (Or.inl ⟨by rfl, ?_⟩) hHeld ?_ ?_
      rotate_left
      ·intro w' hs
       have b0 := blk_cell (blk_below HX.out hs) 0
       have b1 := blk_cell (blk_below HX.out hs) 1
       simp only [List.getElem?_toArray, List.getElem?_cons_succ, List.getElem?_cons_zero] at b0 b1
       go_simp
       with_reducible rfl
      rotate_left
      ·simp only [Act.put, List.setIfInBounds_toArray, List.set_cons_zero, List.set_cons_succ, i64_w, i32_w]
       rfl
      refine pl_ [11] ?_
      refine qP rfl rfl ?_
      refine pl0 ?_
      refine take_ (i := 12) (N := some 39) (v := ?_) (a' := ?_) #[true, true, true, true, true, true, true, true, true, true, true, true, true, false, false, false, false, false, false, false, false, false, false, false, false, false, false, false, false, false, false, false, false, false, false, false, false, false, false, false, false, false] rfl rfl (by kernel_rfl) (fun _ _ _ h => h) (Or.inl ⟨by rfl, ?_⟩) hHeld ?_ ?_
      rotate_left
      ·intro w' hs
       obtain ⟨s0, s1, s2⟩ := HCY.out w' hs
       go_simp
       with_reducible rfl
      rotate_left
      ·simp only [Act.put, List.setIfInBounds_toArray, List.set_cons_zero, List.set_cons_succ, i64_w, i32_w]
       rfl
      have HH := Aside0.mk hHeld
      clear hHeld
      refine one_ (i := 13) (N := some 40) #[true, true, true, true, true, true, true, true, true, true, true, true, true, true, false, false, false, false, false, false, false, false, false, false, false, false, false, false, false, false, false, false, false, false, false, false, false, false, false, false, false, false] rfl rfl (by kernel_rfl) (by decide) (fun K hK => ?_)
      refine goes_ Try.func20 (by kernel_rfl) rfl #[.agg #[.int .i64 y.f0, .int .u64 y.f1, .int .u64 y.f2]] (by rfl) rfl rfl (by simp only [List.map_toArray, List.map_cons, List.map_nil]; rfl) ?_
      with_reducible refine (shunterref02_May.calls y.f0 y.f1 y.f2 true _ HMY.out).mono ?_
      rintro e_ w1 ⟨rfl, hb⟩
      refine ⟨_, rfl, ?_⟩
      have HB9 := Aside0.mk (below_step HH.out hb)
      clear hb HH
      refine hK.out _ _ HB9.out (fun hHeld => ?_)
      clear hK K
      refine norm_ (a' := ?_) ?_ ?_
      rotate_left
      ·show Act.put _ (some 40) _ = _
       simp only [Act.put, List.setIfInBounds_toArray, List.set_cons_zero, List.set_cons_succ, i64_w, i32_w]
       rfl
      refine pl_ [14, 15, 16, 17, 19, 23, 24] ?_
      iterate 7 refine qP rfl rfl ?_
      refine pl0 ?_
      refine take_ (i := 18) (N := some 45) (v := ?_) (a' := ?_) #[true, true, true, true, true, true, true, true, true, true, true, true, true, true, true, true, true, true, true, true, false, false, false, true, true, false, false, false, false, false, false, false, false, false, false, false, false, false, false, false, false, false] rfl rfl (by kernel_rfl) (fun _ _ _ h => h) (Or.inl ⟨by rfl, ?_⟩) hHeld ?_ ?_
      rotate_left
      ·intro w' hs
       have b0 := blk_cell (blk_below HX.out hs) 0
       have b1 := blk_cell (blk_below HX.out hs) 1
       simp only [List.getElem?_toArray, List.getElem?_cons_succ, List.getElem?_cons_zero] at b0 b1
       go_simp
       with_reducible rfl
      rotate_left
      ·simp only [Act.put, List.setIfInBounds_toArray, List.set_cons_zero, List.set_cons_succ, i64_w, i32_w]
       rfl
      refine pl_ [20, 21] ?_
      iterate 2 refine qP rfl rfl ?_
      refine pl0 ?_
      refine take_ (i := 22) (N := some 49) (v := ?_) (a' := ?_) #[true, true, true, true, true, true, true, true, true, true, true, true, true, true, true, true, true, true, true, true, true, true, true, true, true, false, false, false, false, false, false, false, false, false, false, false, false, false, false, false, false, false] rfl rfl (by kernel_rfl) (fun _ _ _ h => h) (Or.inl ⟨by rfl, ?_⟩) hHeld ?_ ?_
      rotate_left
      ·intro w' hs
       obtain ⟨s0, s1, s2⟩ := HCX.out w' hs
       go_simp
       with_reducible rfl
      rotate_left
      ·simp only [Act.put, List.setIfInBounds_toArray, List.set_cons_zero, List.set_cons_succ, i64_w, i32_w]
       rfl
      refine pl_ [25] ?_
      refine qP rfl rfl ?_
      refine pl0 ?_
      refine take_ (i := 26) (N := some 53) (v := ?_) (a' := ?_) #[true, true, true, true, true, true, true, true, true, true, true, true, true, true, true, true, true, true, true, true, true, true, true, true, true, true, true, false, false, false, false, false, false, false, false, false, false, false, false, false, false, false] rfl rfl (by kernel_rfl) (fun _ _ _ h => h) (Or.inl ⟨by rfl, ?_⟩) hHeld ?_ ?_
      rotate_left
      ·intro w' hs
       have s0 := HWI.out w' hs
       go_simp
       with_reducible rfl
      rotate_left
      ·simp only [Act.put, List.setIfInBounds_toArray, List.set_cons_zero, List.set_cons_succ, i64_w, i32_w]
       rfl
      refine pl_ [27, 28, 29, 30, 31, 32, 33, 34, 35, 36, 37, 38, 39, 40, 41] ?_
      iterate 3 refine qP rfl rfl ?_
      iterate 11 refine qU rfl rfl ?_
      refine qP rfl rfl ?_
      refine pl0 ?_
      refine done_ (by kernel_rfl) ?_
      have HBC := Aside0.mk hHeld
      clear hHeld
      go_wp2
      go_ret
      exact ⟨by rw [HR.out]; rfl, below_step HWB.out HBC.out⟩
     | true =>
      cases e5 : (y.f0 == v) with
      | false =>
       have HMX := Aside0.mk (show shunterref02_May.f x.f0 x.f1 x.f2 = some true from by rw [hmx, e1])
       have HMY := Aside0.mk (show shunterref02_May.f y.f0 y.f1 y.f2 = some true from by rw [hmy, e2])
       have hfi : fitR ws lo hi i = false := by rw [HFIT.out, e5]; simp
       have HR := Aside0.mk (show mayR ws lo hi pr = 9 from by unfold mayR; rw [if_neg (by rw [allTo_no hlt hfi]; simp)])
       clear hfi
       have e4 : (x.f0 != v) = false := by simpa using e3
       have e6 : (y.f0 != v) = true := by simpa using e5
       clear e1 e2 hmx hmy
       go_wp2
       refine start_ (n := 42) (S := fun w' => Below wq.heap.size wq w') (ds := []) #[false, false, false, false, false, false, false, false, false, false, false, false, false, false, false, false, false, false, false, false, false, false, false, false, false, false, false, false, false, false, false, false, false, false, false, false, false, false, false, false, false, false] (by kernel_rfl) rfl rfl (below_drew1 HB7.out) (fun hHeld => ?_)
       clear HB7
       generalize World.drew _ = w8 at hHeld ⊢
       refine pl_ [0, 2] ?_
       iterate 2 refine qP rfl rfl ?_
       refine pl0 ?_
       refine take_ (i := 1) (N := some 28) (v := ?_) (a' := ?_) #[true, true, true, false, false, false, false, false, false, false, false, false, false, false, false, false, false, false, false, false, false, false, false, false, false, false, false, false, false, false, false, false, false, false, false, false, false, false, false, false, false, false] rfl rfl (by kernel_rfl) (fun _ _ _ h => h) (Or.inl ⟨by rfl, ?_⟩) hHeld ?_ ?_
       rotate_left
       ·intro w' hs
        have b0 := blk_cell (blk_below HX.out hs) 0
        have b1 := blk_cell (blk_below HX.out hs) 1
        simp only [List.getElem?_toArray, List.getElem?_cons_succ, List.getElem?_cons_zero] at b0 b1
        go_simp
        with_reducible rfl
       rotate_left
       ·simp only [Act.put, List.setIfInBounds_toArray, List.set_cons_zero, List.set_cons_succ, i64_w, i32_w]
        rfl
       refine pl_ [3] ?_
       refine qP rfl rfl ?_
       refine pl0 ?_
       refine take_ (i := 4) (N := some 31) (v := ?_) (a' := ?_) #[true, true, true, true, true, false, false, false, false, false, false, false, false, false, false, false, false, false, false, false, false, false, false, false, false, false, false, false, false, false, false, false, false, false, false, false, false, false, false, false, false, false] rfl rfl (by kernel_rfl) (fun _ _ _ h => h) (Or.inl ⟨by rfl, ?_⟩) hHeld ?_ ?_
       rotate_left
       ·intro w' hs
        obtain ⟨s0, s1, s2⟩ := HCX.out w' hs
        go_simp
        with_reducible rfl
       rotate_left
       ·simp only [Act.put, List.setIfInBounds_toArray, List.set_cons_zero, List.set_cons_succ, i64_w, i32_w]
        rfl
       have HH := Aside0.mk hHeld
       clear hHeld
       refine one_ (i := 5) (N := some 32) #[true, true, true, true, true, true, false, false, false, false, false, false, false, false, false, false, false, false, false, false, false, false, false, false, false, false, false, false, false, false, false, false, false, false, false, false, false, false, false, false, false, false] rfl rfl (by kernel_rfl) (by decide) (fun K hK => ?_)
       refine goes_ Try.func20 (by kernel_rfl) rfl #[.agg #[.int .i64 x.f0, .int .u64 x.f1, .int .u64 x.f2]] (by rfl) rfl rfl (by simp only [List.map_toArray, List.map_cons, List.map_nil]; rfl) ?_
       with_reducible refine (shunterref02_May.calls x.f0 x.f1 x.f2 true _ HMX.out).mono ?_
       rintro e_ w1 ⟨rfl, hb⟩
       refine ⟨_, rfl, ?_⟩
       have HB8 := Aside0.mk (below_step HH.out hb)
       clear hb HH
       refine hK.out _ _ HB8.out (fun hHeld => ?_)
       clear hK K
       refine norm_ (a' := ?_) ?_ ?_
       rotate_left
       ·show Act.put _ (some 32) _ = _
        simp only [Act.put, List.setIfInBounds_toArray, List.set_cons_zero, List.set_cons_succ, i64_w, i32_w]
        rfl
       refine pl_ [6, 7, 8, 10] ?_
       iterate 4 refine qP rfl rfl ?_
       refine pl0 ?_
       refine take_ (i := 9) (N := some 36) (v := ?_) (a' := ?_) #[true, true, true, true, true, true, true, true, true, true, true, false, false, false, false, false, false, false, false, false, false, false, false, false, false, false, false, false, false, false, false, false, false, false, false, false, false, false, false, false, false, false] rfl rfl (by kernel_rfl) (fun _ _ _ h => h) (Or.inl ⟨by rfl, ?_⟩) hHeld ?_ ?_
       rotate_left
       ·intro w' hs
        have b0 := blk_cell (blk_below HX.out hs) 0
        have b1 := blk_cell (blk_below HX.out hs) 1
        simp only [List.getElem?_toArray, List.getElem?_cons_succ, List.getElem?_cons_zero] at b0 b1
        go_simp
        with_reducible rfl
       rotate_left
       ·simp only [Act.put, List.setIfInBounds_toArray, List.set_cons_zero, List.set_cons_succ, i64_w, i32_w]
        rfl
       refine pl_ [11] ?_
       refine qP rfl rfl ?_
       refine pl0 ?_
       refine take_ (i := 12) (N := some 39) (v := ?_) (a' := ?_) #[true, true, true, true, true, true, true, true, true, true, true, true, true, false, false, false, false, false, false, false, false, false, false, false, false, false, false, false, false, false, false, false, false, false, false, false, false, false, false, false, false, false] rfl rfl (by kernel_rfl) (fun _ _ _ h => h) (Or.inl ⟨by rfl, ?_⟩) hHeld ?_ ?_
       rotate_left
       ·intro w' hs
        obtain ⟨s0, s1, s2⟩ := HCY.out w' hs
        go_simp
        with_reducible rfl
       rotate_left
       ·simp only [Act.put, List.setIfInBounds_toArray, List.set_cons_zero, List.set_cons_succ, i64_w, i32_w]
        rfl
       have HH := Aside0.mk hHeld
       clear hHeld
       refine one_ (i := 13) (N := some 40) #[true, true, true, true, true, true, true, true, true, true, true, true, true, true, false, false, false, false, false, false, false, false, false, false, false, false, false, false, false, false, false, false, false, false, false, false, false, false, false, false, false, false] rfl rfl (by kernel_rfl) (by decide) (fun K hK => ?_)
       refine goes_ Try.func20 (by kernel_rfl) rfl #[.agg #[.int .i64 y.f0, .int .u64 y.f1, .int .u64 y.f2]] (by rfl) rfl rfl (by simp only [List.map_toArray, List.map_cons, List.map_nil]; rfl) ?_
       with_reducible refine (shunterref02_May.calls y.f0 y.f1 y.f2 true _ HMY.out).mono ?_
       rintro e_ w1 ⟨rfl, hb⟩
       refine ⟨_, rfl, ?_⟩
       have HB9 := Aside0.mk (below_step HH.out hb)
       clear hb HH
       refine hK.out _ _ HB9.out (fun hHeld => ?_)
       clear hK K
       refine norm_ (a' := ?_) ?_ ?_
       rotate_left
       ·show Act.put _ (some 40) _ = _
        simp only [Act.put, List.setIfInBounds_toArray, List.set_cons_zero, List.set_cons_succ, i64_w, i32_w]
        rfl
       refine pl_ [14, 15, 16, 17, 19, 23, 24] ?_
       iterate 7 refine qP rfl rfl ?_
       refine pl0 ?_
       refine take_ (i := 18) (N := some 45) (v := ?_) (a' := ?_) #[true, true, true, true, true, true, true, true, true, true, true, true, true, true, true, true, true, true, true, true, false, false, false, true, true, false, false, false, false, false, false, false, false, false, false, false, false, false, false, false, false, false] rfl rfl (by kernel_rfl) (fun _ _ _ h => h) (Or.inl ⟨by rfl, ?_⟩) hHeld ?_ ?_
       rotate_left
       ·intro w' hs
        have b0 := blk_cell (blk_below HX.out hs) 0
        have b1 := blk_cell (blk_below HX.out hs) 1
        simp only [List.getElem?_toArray, List.getElem?_cons_succ, List.getElem?_cons_zero] at b0 b1
        go_simp
        with_reducible rfl
       rotate_left
       ·simp only [Act.put, List.setIfInBounds_toArray, List.set_cons_zero, List.set_cons_succ, i64_w, i32_w]
        rfl
       refine pl_ [20, 21] ?_
       iterate 2 refine qP rfl rfl ?_
       refine pl0 ?_
       refine take_ (i := 22) (N := some 49) (v := ?_) (a' := ?_) #[true, true, true, true, true, true, true, true, true, true, true, true, true, true, true, true, true, true, true, true, true, true, true, true, true, false, false, false, false, false, false, false, false, false, false, false, false, false, false, false, false, false] rfl rfl (by kernel_rfl) (fun _ _ _ h => h) (Or.inl ⟨by rfl, ?_⟩) hHeld ?_ ?_
       rotate_left
       ·intro w' hs
        obtain ⟨s0, s1, s2⟩ := HCX.out w' hs
        go_simp
        with_reducible rfl
       rotate_left
       ·simp only [Act.put, List.setIfInBounds_toArray, List.set_cons_zero, List.set_cons_succ, i64_w, i32_w]
        rfl
       refine pl_ [25] ?_
       refine qP rfl rfl ?_
       refine pl0 ?_
       refine take_ (i := 26) (N := some 53) (v := ?_) (a' := ?_) #[true, true, true, true, true, true, true, true, true, true, true, true, true, true, true, true, true, true, true, true, true, true, true, true, true, true, true, false, false, false, false, false, false, false, false, false, false, false, false, false, false, false] rfl rfl (by kernel_rfl) (fun _ _ _ h => h) (Or.inl ⟨by rfl, ?_⟩) hHeld ?_ ?_
       rotate_left
       ·intro w' hs
        have s0 := HWI.out w' hs
        go_simp
        with_reducible rfl
       rotate_left
       ·simp only [Act.put, List.setIfInBounds_toArray, List.set_cons_zero, List.set_cons_succ, i64_w, i32_w]
        rfl
       refine pl_ [27, 28, 29, 30, 32, 36, 37] ?_
       iterate 7 refine qP rfl rfl ?_
       refine pl0 ?_
       refine take_ (i := 31) (N := some 58) (v := ?_) (a' := ?_) #[true, true, true, true, true, true, true, true, true, true, true, true, true, true, true, true, true, true, true, true, true, true, true, true, true, true, true, true, true, true, true, true, true, false, false, false, true, true, false, false, false, false] rfl rfl (by kernel_rfl) (fun _ _ _ h => h) (Or.inl ⟨by rfl, ?_⟩) hHeld ?_ ?_
       rotate_left
       ·intro w' hs
        have b0 := blk_cell (blk_below HX.out hs) 0
        have b1 := blk_cell (blk_below HX.out hs) 1
        simp only [List.getElem?_toArray, List.getElem?_cons_succ, List.getElem?_cons_zero] at b0 b1
        go_simp
        with_reducible rfl
       rotate_left
       ·simp only [Act.put, List.setIfInBounds_toArray, List.set_cons_zero, List.set_cons_succ, i64_w, i32_w]
        rfl
       refine pl_ [33, 34] ?_
       iterate 2 refine qP rfl rfl ?_
       refine pl0 ?_
       refine take_ (i := 35) (N := some 62) (v := ?_) (a' := ?_) #[true, true, true, true, true, true, true, true, true, true, true, true, true, true, true, true, true, true, true, true, true, true, true, true, true, true, true, true, true, true, true, true, true, true, true, true, true, true, false, false, false, false] rfl rfl (by kernel_rfl) (fun _ _ _ h => h) (Or.inl ⟨by rfl, ?_⟩) hHeld ?_ ?_
       rotate_left
       ·intro w' hs
        obtain ⟨s0, s1, s2⟩ := HCY.out w' hs
        go_simp
        with_reducible rfl
       rotate_left
       ·simp only [Act.put, List.setIfInBounds_toArray, List.set_cons_zero, List.set_cons_succ, i64_w, i32_w]
        rfl
       refine pl_ [38] ?_
       refine qP rfl rfl ?_
       refine pl0 ?_
       refine take_ (i := 39) (N := some 66) (v := ?_) (a' := ?_) #[true, true, true, true, true, true, true, true, true, true, true, true, true, true, true, true, true, true, true, true, true, true, true, true, true, true, true, true, true, true, true, true, true, true, true, true, true, true, true, true, false, false] rfl rfl (by kernel_rfl) (fun _ _ _ h => h) (Or.inl ⟨by rfl, ?_⟩) hHeld ?_ ?_
       rotate_left
       ·intro w' hs
        have s0 := HWI.out w' hs
        go_simp
        with_reducible rfl
       rotate_left
       ·simp only [Act.put, List.setIfInBounds_toArray, List.set_cons_zero, List.set_cons_succ, i64_w, i32_w]
        rfl
       refine pl_ [40, 41] ?_
       iterate 2 refine qP rfl rfl ?_
       refine pl0 ?_
       refine done_ (by kernel_rfl) ?_
       have HBC := Aside0.mk hHeld
       clear hHeld
       go_wp2
       go_ret
       exact ⟨by rw [HR.out]; rfl, below_step HWB.out HBC.out⟩
      | true =>
       have HMX := Aside0.mk (show shunterref02_May.f x.f0 x.f1 x.f2 = some true from by rw [hmx, e1])
       have HMY := Aside0.mk (show shunterref02_May.f y.f0 y.f1 y.f2 = some true from by rw [hmy, e2])
       have hfi : fitR ws lo hi i = true := by rw [HFIT.out, e1, e2, e3, e5]; rfl
       have HF2 := Aside0.mk (allTo_succ HF.out hfi)
       have e4 : (x.f0 != v) = false := by simpa using e3
       have e6 : (y.f0 != v) = false := by simpa using e5
       clear e1 e2 hmx hmy hfi
       go_wp2
       refine start_ (n := 42) (S := fun w' => Below wq.heap.size wq w') (ds := []) #[false, false, false, false, false, false, false, false, false, false, false, false, false, false, false, false, false, false, false, false, false, false, false, false, false, false, false, false, false, false, false, false, false, false, false, false, false, false, false, false, false, false] (by kernel_rfl) rfl rfl (below_drew1 HB7.out) (fun hHeld => ?_)
       clear HB7
       generalize World.drew _ = w8 at hHeld ⊢
       refine pl_ [0, 2] ?_
       iterate 2 refine qP rfl rfl ?_
       refine pl0 ?_
       refine take_ (i := 1) (N := some 28) (v := ?_) (a' := ?_) #[true, true, true, false, false, false, false, false, false, false, false, false, false, false, false, false, false, false, false, false, false, false, false, false, false, false, false, false, false, false, false, false, false, false, false, false, false, false, false, false, false, false] rfl rfl (by kernel_rfl) (fun _ _ _ h => h) (Or.inl ⟨by rfl, ?_⟩) hHeld ?_ ?_
       rotate_left
       ·intro w' hs
        have b0 := blk_cell (blk_below HX.out hs) 0
        have b1 := blk_cell (blk_below HX.out hs) 1
        simp only [List.getElem?_toArray, List.getElem?_cons_succ, List.getElem?_cons_zero] at b0 b1
        go_simp
        with_reducible rfl
       rotate_left
       ·simp only [Act.put, List.setIfInBounds_toArray, List.set_cons_zero, List.set_cons_succ, i64_w, i32_w]
        rfl
       refine pl_ [3] ?_
       refine qP rfl rfl ?_
       refine pl0 ?_
       refine take_ (i := 4) (N := some 31) (v := ?_) (a' := ?_) #[true, true, true, true, true, false, false, false, false, false, false, false, false, false, false, false, false, false, false, false, false, false, false, false, false, false, false, false, false, false, false, false, false, false, false, false, false, false, false, false, false, false] rfl rfl (by kernel_rfl) (fun _ _ _ h => h) (Or.inl ⟨by rfl, ?_⟩) hHeld ?_ ?_
       rotate_left
       ·intro w' hs
        obtain ⟨s0, s1, s2⟩ := HCX.out w' hs
        go_simp
        with_reducible rfl
       rotate_left
       ·simp only [Act.put, List.setIfInBounds_toArray, List.set_cons_zero, List.set_cons_succ, i64_w, i32_w]
        rfl
       have HH := Aside0.mk hHeld
       clear hHeld
       refine one_ (i := 5) (N := some 32) #[true, true, true, true, true, true, false, false, false, false, false, false, false, false, false, false, false, false, false, false, false, false, false, false, false, false, false, false, false, false, false, false, false, false, false, false, false, false, false, false, false, false] rfl rfl (by kernel_rfl) (by decide) (fun K hK => ?_)
       refine goes_ Try.func20 (by kernel_rfl) rfl #[.agg #[.int .i64 x.f0, .int .u64 x.f1, .int .u64 x.f2]] (by rfl) rfl rfl (by simp only [List.map_toArray, List.map_cons, List.map_nil]; rfl) ?_
       with_reducible refine (shunterref02_May.calls x.f0 x.f1 x.f2 true _ HMX.out).mono ?_
       rintro e_ w1 ⟨rfl, hb⟩
       refine ⟨_, rfl, ?_⟩
       have HB8 := Aside0.mk (below_step HH.out hb)
       clear hb HH
       refine hK.out _ _ HB8.out (fun hHeld => ?_)
       clear hK K
       refine norm_ (a' := ?_) ?_ ?_
       rotate_left
       ·show Act.put _ (some 32) _ = _
        simp only [Act.put, List.setIfInBounds_toArray, List.set_cons_zero, List.set_cons_succ, i64_w, i32_w]
        rfl
       refine pl_ [6, 7, 8, 10] ?_
       iterate 4 refine qP rfl rfl ?_
       refine pl0 ?_
       refine take_ (i := 9) (N := some 36) (v := ?_) (a' := ?_) #[true, true, true, true, true, true, true, true, true, true, true, false, false, false, false, false, false, false, false, false, false, false, false, false, false, false, false, false, false, false, false, false, false, false, false, false, false, false, false, false, false, false] rfl rfl (by kernel_rfl) (fun _ _ _ h => h) (Or.inl ⟨by rfl, ?_⟩) hHeld ?_ ?_
       rotate_left
       ·intro w' hs
        have b0 := blk_cell (blk_below HX.out hs) 0
        have b1 := blk_cell (blk_below HX.out hs) 1
        simp only [List.getElem?_toArray, List.getElem?_cons_succ, List.getElem?_cons_zero] at b0 b1
        go_simp
        with_reducible rfl
       rotate_left
       ·simp only [Act.put, List.setIfInBounds_toArray, List.set_cons_zero, List.set_cons_succ, i64_w, i32_w]
        rfl
       refine pl_ [11] ?_
       refine qP rfl rfl ?_
       refine pl0 ?_
       refine take_ (i := 12) (N := some 39) (v := ?_) (a' := ?_) #[true, true, true, true, true, true, true, true, true, true, true, true, true, false, false, false, false, false, false, false, false, false, false, false, false, false, false, false, false, false, false, false, false, false, false, false, false, false, false, false, false, false] rfl rfl (by kernel_rfl) (fun _ _ _ h => h) (Or.inl ⟨by rfl, ?_⟩) hHeld ?_ ?_
       rotate_left
       ·intro w' hs
        obtain ⟨s0, s1, s2⟩ := HCY.out w' hs
        go_simp
        with_reducible rfl
       rotate_left
       ·simp only [Act.put, List.setIfInBounds_toArray, List.set_cons_zero, List.set_cons_succ, i64_w, i32_w]
        rfl
       have HH := Aside0.mk hHeld
       clear hHeld
       refine one_ (i := 13) (N := some 40) #[true, true, true, true, true, true, true, true, true, true, true, true, true, true, false, false, false, false, false, false, false, false, false, false, false, false, false, false, false, false, false, false, false, false, false, false, false, false, false, false, false, false] rfl rfl (by kernel_rfl) (by decide) (fun K hK => ?_)
       refine goes_ Try.func20 (by kernel_rfl) rfl #[.agg #[.int .i64 y.f0, .int .u64 y.f1, .int .u64 y.f2]] (by rfl) rfl rfl (by simp only [List.map_toArray, List.map_cons, List.map_nil]; rfl) ?_
       with_reducible refine (shunterref02_May.calls y.f0 y.f1 y.f2 true _ HMY.out).mono ?_
       rintro e_ w1 ⟨rfl, hb⟩
       refine ⟨_, rfl, ?_⟩
       have HB9 := Aside0.mk (below_step HH.out hb)
       clear hb HH
       refine hK.out _ _ HB9.out (fun hHeld => ?_)
       clear hK K
       refine norm_ (a' := ?_) ?_ ?_
       rotate_left
       ·show Act.put _ (some 40) _ = _
        simp only [Act.put, List.setIfInBounds_toArray, List.set_cons_zero, List.set_cons_succ, i64_w, i32_w]
        rfl
       refine pl_ [14, 15, 16, 17, 19, 23, 24] ?_
       iterate 7 refine qP rfl rfl ?_
       refine pl0 ?_
       refine take_ (i := 18) (N := some 45) (v := ?_) (a' := ?_) #[true, true, true, true, true, true, true, true, true, true, true, true, true, true, true, true, true, true, true, true, false, false, false, true, true, false, false, false, false, false, false, false, false, false, false, false, false, false, false, false, false, false] rfl rfl (by kernel_rfl) (fun _ _ _ h => h) (Or.inl ⟨by rfl, ?_⟩) hHeld ?_ ?_
       rotate_left
       ·intro w' hs
        have b0 := blk_cell (blk_below HX.out hs) 0
        have b1 := blk_cell (blk_below HX.out hs) 1
        simp only [List.getElem?_toArray, List.getElem?_cons_succ, List.getElem?_cons_zero] at b0 b1
        go_simp
        with_reducible rfl
       rotate_left
       ·simp only [Act.put, List.setIfInBounds_toArray, List.set_cons_zero, List.set_cons_succ, i64_w, i32_w]
        rfl
       refine pl_ [20, 21] ?_
       iterate 2 refine qP rfl rfl ?_
       refine pl0 ?_
       refine take_ (i := 22) (N := some 49) (v := ?_) (a' := ?_) #[true, true, true, true, true, true, true, true, true, true, true, true, true, true, true, true, true, true, true, true, true, true, true, true, true, false, false, false, false, false, false, false, false, false, false, false, false, false, false, false, false, false] rfl rfl (by kernel_rfl) (fun _ _ _ h => h) (Or.inl ⟨by rfl, ?_⟩) hHeld ?_ ?_
       rotate_left
       ·intro w' hs
        obtain ⟨s0, s1, s2⟩ := HCX.out w' hs
        go_simp
        with_reducible rfl
       rotate_left
       ·simp only [Act.put, List.setIfInBounds_toArray, List.set_cons_zero, List.set_cons_succ, i64_w, i32_w]
        rfl
       refine pl_ [25] ?_
       refine qP rfl rfl ?_
       refine pl0 ?_
       refine take_ (i := 26) (N := some 53) (v := ?_) (a' := ?_) #[true, true, true, true, true, true, true, true, true, true, true, true, true, true, true, true, true, true, true, true, true, true, true, true, true, true, true, false, false, false, false, false, false, false, false, false, false, false, false, false, false, false] rfl rfl (by kernel_rfl) (fun _ _ _ h => h) (Or.inl ⟨by rfl, ?_⟩) hHeld ?_ ?_
       rotate_left
       ·intro w' hs
        have s0 := HWI.out w' hs
        go_simp
        with_reducible rfl
       rotate_left
       ·simp only [Act.put, List.setIfInBounds_toArray, List.set_cons_zero, List.set_cons_succ, i64_w, i32_w]
        rfl
       refine pl_ [27, 28, 29, 30, 32, 36, 37] ?_
       iterate 7 refine qP rfl rfl ?_
       refine pl0 ?_
       refine take_ (i := 31) (N := some 58) (v := ?_) (a' := ?_) #[true, true, true, true, true, true, true, true, true, true, true, true, true, true, true, true, true, true, true, true, true, true, true, true, true, true, true, true, true, true, true, true, true, false, false, false, true, true, false, false, false, false] rfl rfl (by kernel_rfl) (fun _ _ _ h => h) (Or.inl ⟨by rfl, ?_⟩) hHeld ?_ ?_
       rotate_left
       ·intro w' hs
        have b0 := blk_cell (blk_below HX.out hs) 0
        have b1 := blk_cell (blk_below HX.out hs) 1
        simp only [List.getElem?_toArray, List.getElem?_cons_succ, List.getElem?_cons_zero] at b0 b1
        go_simp
        with_reducible rfl
       rotate_left
       ·simp only [Act.put, List.setIfInBounds_toArray, List.set_cons_zero, List.set_cons_succ, i64_w, i32_w]
        rfl
       refine pl_ [33, 34] ?_
       iterate 2 refine qP rfl rfl ?_
       refine pl0 ?_
       refine take_ (i := 35) (N := some 62) (v := ?_) (a' := ?_) #[true, true, true, true, true, true, true, true, true, true, true, true, true, true, true, true, true, true, true, true, true, true, true, true, true, true, true, true, true, true, true, true, true, true, true, true, true, true, false, false, false, false] rfl rfl (by kernel_rfl) (fun _ _ _ h => h) (Or.inl ⟨by rfl, ?_⟩) hHeld ?_ ?_
       rotate_left
       ·intro w' hs
        obtain ⟨s0, s1, s2⟩ := HCY.out w' hs
        go_simp
        with_reducible rfl
       rotate_left
       ·simp only [Act.put, List.setIfInBounds_toArray, List.set_cons_zero, List.set_cons_succ, i64_w, i32_w]
        rfl
       refine pl_ [38] ?_
       refine qP rfl rfl ?_
       refine pl0 ?_
       refine take_ (i := 39) (N := some 66) (v := ?_) (a' := ?_) #[true, true, true, true, true, true, true, true, true, true, true, true, true, true, true, true, true, true, true, true, true, true, true, true, true, true, true, true, true, true, true, true, true, true, true, true, true, true, true, true, false, false] rfl rfl (by kernel_rfl) (fun _ _ _ h => h) (Or.inl ⟨by rfl, ?_⟩) hHeld ?_ ?_
       rotate_left
       ·intro w' hs
        have s0 := HWI.out w' hs
        go_simp
        with_reducible rfl
       rotate_left
       ·simp only [Act.put, List.setIfInBounds_toArray, List.set_cons_zero, List.set_cons_succ, i64_w, i32_w]
        rfl
       refine pl_ [40, 41] ?_
       iterate 2 refine qP rfl rfl ?_
       refine pl0 ?_
       refine done_ (by kernel_rfl) ?_
       have HBC := Aside0.mk hHeld
       clear hHeld
       go_wp2
       go_roundw
       case measure => first | (simp [intOf]; done) | (simp [intOf]; omega)
       case rel => exact ⟨i + 1, hlt, by go_num, HF2, HBC⟩
  ·have hie : i = ws.length := by omega
   have HFA := Aside0.mk (show allTo (fitR ws lo hi) ws.length = true from by rw [← hie]; exact HF.out)
   clear HF hie
   have b2 := blk_cell (blk_below HX.out HB7.out) 2
   simp only [List.getElem?_toArray, List.getElem?_cons_succ, List.getElem?_cons_zero] at b2
   by_cases p1 : pr < 0
   ·have HR := Aside0.mk (show mayR ws lo hi pr = 7 from by unfold mayR; rw [if_pos HFA.out]; first | rw [if_pos p1] | rw [if_neg p1, if_pos p2])
    have p3 : decide (pr < 0) = true := decide_eq_true p1
    clear p1
    go_wp2
    go_ret
    exact ⟨by rw [HR.out]; rfl, below_step HWB.out HB7.out⟩
   ·by_cases p2 : 65535 < pr
    ·have HR := Aside0.mk (show mayR ws lo hi pr = 7 from by unfold mayR; rw [if_pos HFA.out]; first | rw [if_pos p1] | rw [if_neg p1, if_pos p2])
     have p3 : decide (pr < 0) = false := decide_eq_false p1
     have p4 : decide (65535 < pr) = true := decide_eq_true p2
     clear p1 p2
     go_wp2
     go_ret
     exact ⟨by rw [HR.out]; rfl, below_step HWB.out HB7.out⟩
    ·have HMR := Aside0.mk (show mayR ws lo hi pr = if allTo (fun i => rwB (lx lo i) (lx hi i)) ws.length = true then 0 else 7 from by unfold mayR; rw [if_pos HFA.out, if_neg p1, if_neg p2])
     have p3 : decide (pr < 0) = false := decide_eq_false p1
     have p4 : decide (65535 < pr) = false := decide_eq_false p2
     clear p1 p2 HFA
     go_wp2
     clear b2 p3 p4
     go_loopw [6] (fun u6 w' => ∃ i : Nat, i ≤ ws.length ∧ u6 = .int .i64 i ∧ Aside0 (allTo (fun i => rwB (lx lo i) (lx hi i)) i = true) ∧ Aside0 (Below wq.heap.size wq w')) (fun u6 _ => ws.length - (intOf u6).toNat)
     case atStart => exact ⟨0, Nat.zero_le _, rfl, ⟨allTo_zero _⟩, HB7⟩
     case round =>
      clear hlt
      obtain ⟨i, hi_, rfl, HF, HB7⟩ := hrel
      by_cases hlt : i < ws.length
      ·have hmax := HWS.out.2.1
       have hi0 : 0 ≤ (i : Int) := by omega
       have hil : (i : Int) < (ws.length : Int) := by omega
       have hl1 := HE1.out
       have hl2 := HE2.out
       have hila : (i : Int) < (lo.length : Int) := by omega
       have hilb : (i : Int) < (hi.length : Int) := by omega
       clear hl1 hl2
       obtain ⟨da, hA, _⟩ := at_T32 HLO.out (i : Int) hi0 (by omega)
       subst hA
       obtain ⟨db, hB, _⟩ := at_T32 HHI.out (i : Int) hi0 (by omega)
       subst hB
       obtain ⟨x, hx⟩ : ∃ x, x = lx lo i := ⟨_, rfl⟩
       obtain ⟨y, hy⟩ : ∃ y, y = lx hi i := ⟨_, rfl⟩
       have HCX := Aside0.mk (show ∀ w', Below wq.heap.size wq w' → w'.cell? (da.add (i * 3)) = some (.int .i64 x.f0) ∧ w'.cell? ⟨(da.add (i * 3)).block, (da.add (i * 3)).off + 1, none⟩ = some (.int .u64 x.f1) ∧ w'.cell? ⟨(da.add (i * 3)).block, (da.add (i * 3)).off + 2, none⟩ = some (.int .u64 x.f2) from fun w' hb => by
        obtain ⟨ad2, e2, h2⟩ := at_T32 (Kd.C_below HLO.out hb) (i : Int) hi0 (by omega)
        injection e2 with e2
        subst e2
        rw [Int.toNat_natCast, show rd_T32 lo (i : Int) = x from by rw [hx]; rfl] at h2
        exact h2)
       have HCY := Aside0.mk (show ∀ w', Below wq.heap.size wq w' → w'.cell? (db.add (i * 3)) = some (.int .i64 y.f0) ∧ w'.cell? ⟨(db.add (i * 3)).block, (db.add (i * 3)).off + 1, none⟩ = some (.int .u64 y.f1) ∧ w'.cell? ⟨(db.add (i * 3)).block, (db.add (i * 3)).off + 2, none⟩ = some (.int .u64 y.f2) from fun w' hb => by
        obtain ⟨ad2, e2, h2⟩ := at_T32 (Kd.C_below HHI.out hb) (i : Int) hi0 (by omega)
        injection e2 with e2
        subst e2
        rw [Int.toNat_natCast, show rd_T32 hi (i : Int) = y from by rw [hy]; rfl] at h2
        exact h2)
       have hdn := allTo_at HD.out hlt
       unfold donR at hdn
       rw [← hx, ← hy] at hdn
       simp only [Bool.and_eq_true] at hdn
       have hrw := rw_some hdn.2.2
       have hpi : (fun i => rwB (lx lo i) (lx hi i)) i = rwB x y := by simp only; rw [← hx, ← hy]
       have HPI := Aside0.mk hpi
       clear hpi hdn hx hy
       cases e1 : rwB x y with
       | false =>
        have HWN := Aside0.mk (show shunterref02_Within.f x.f0 x.f1 x.f2 x.f0 x.f1 x.f2 y.f0 y.f1 y.f2 = some false from by rw [hrw, e1])
        have HR := Aside0.mk (show mayR ws lo hi pr = 7 from by rw [HMR.out, if_neg (by rw [allTo_no hlt (HPI.out.trans e1)]; simp)])
        clear e1 hrw
        go_wp2
        refine start_ (n := 17) (S := fun w' => Below wq.heap.size wq w') (ds := []) #[false, false, false, false, false, false, false, false, false, false, false, false, false, false, false, false, false] (by kernel_rfl) rfl rfl (below_drew1 HB7.out) (fun hHeld => ?_)
        clear HB7
        generalize World.drew _ = w8 at hHeld ⊢
        refine pl_ [0, 2, 5, 7, 10, 12] ?_
        iterate 6 refine qP rfl rfl ?_
        refine pl0 ?_
        refine take_ (i := 1) (N := some 84) (v := ?_) (a' := ?_) #[true, true, true, false, false, true, false, true, false, false, true, false, true, false, false, false, false] rfl rfl (by kernel_rfl) (fun _ _ _ h => h) (Or.inl ⟨by rfl, ?_⟩) hHeld ?_ ?_
        rotate_left
        ·intro w' hs
         have b0 := blk_cell (blk_below HX.out hs) 0
         have b1 := blk_cell (blk_below HX.out hs) 1
         simp only [List.getElem?_toArray, List.getElem?_cons_succ, List.getElem?_cons_zero] at b0 b1
         go_simp
         with_reducible rfl
        rotate_left
        ·simp only [Act.put, List.setIfInBounds_toArray, List.set_cons_zero, List.set_cons_succ, i64_w, i32_w]
         rfl
        refine pl_ [3] ?_
        refine qP rfl rfl ?_
        refine pl0 ?_
        refine take_ (i := 4) (N := some 87) (v := ?_) (a' := ?_) #[true, true, true, true, true, true, false, true, false, false, true, false, true, false, false, false, false] rfl rfl (by kernel_rfl) (fun _ _ _ h => h) (Or.inl ⟨by rfl, ?_⟩) hHeld ?_ ?_
        rotate_left
        ·intro w' hs
         obtain ⟨s0, s1, s2⟩ := HCX.out w' hs
         go_simp
         with_reducible rfl
        rotate_left
        ·simp only [Act.put, List.setIfInBounds_toArray, List.set_cons_zero, List.set_cons_succ, i64_w, i32_w]
         rfl
        refine take_ (i := 6) (N := some 89) (v := ?_) (a' := ?_) #[true, true, true, true, true, true, true, true, false, false, true, false, true, false, false, false, false] rfl rfl (by kernel_rfl) (fun _ _ _ h => h) (Or.inl ⟨by rfl, ?_⟩) hHeld ?_ ?_
        rotate_left
        ·intro w' hs
         have b0 := blk_cell (blk_below HX.out hs) 0
         have b1 := blk_cell (blk_below HX.out hs) 1
         simp only [List.getElem?_toArray, List.getElem?_cons_succ, List.getElem?_cons_zero] at b0 b1
         go_simp
         with_reducible rfl
        rotate_left
        ·simp only [Act.put, List.setIfInBounds_toArray, List.set_cons_zero, List.set_cons_succ, i64_w, i32_w]
         rfl
        refine pl_ [8] ?_
        refine qP rfl rfl ?_
        refine pl0 ?_
        refine take_ (i := 9) (N := some 92) (v := ?_) (a' := ?_) #[true, true, true, true, true, true, true, true, true, true, true, false, true, false, false, false, false] rfl rfl (by kernel_rfl) (fun _ _ _ h => h) (Or.inl ⟨by rfl, ?_⟩) hHeld ?_ ?_
        rotate_left
        ·intro w' hs
         obtain ⟨s0, s1, s2⟩ := HCX.out w' hs
         go_simp
         with_reducible rfl
        rotate_left
        ·simp only [Act.put, List.setIfInBounds_toArray, List.set_cons_zero, List.set_cons_succ, i64_w, i32_w]
         rfl
        refine take_ (i := 11) (N := some 94) (v := ?_) (a' := ?_) #[true, true, true, true, true, true, true, true, true, true, true, true, true, false, false, false, false] rfl rfl (by kernel_rfl) (fun _ _ _ h => h) (Or.inl ⟨by rfl, ?_⟩) hHeld ?_ ?_
        rotate_left
        ·intro w' hs
         have b0 := blk_cell (blk_below HX.out hs) 0
         have b1 := blk_cell (blk_below HX.out hs) 1
         simp only [List.getElem?_toArray, List.getElem?_cons_succ, List.getElem?_cons_zero] at b0 b1
         go_simp
         with_reducible rfl
        rotate_left
        ·simp only [Act.put, List.setIfInBounds_toArray, List.set_cons_zero, List.set_cons_succ, i64_w, i32_w]
         rfl
        refine pl_ [13] ?_
        refine qP rfl rfl ?_
        refine pl0 ?_
        refine take_ (i := 14) (N := some 97) (v := ?_) (a' := ?_) #[true, true, true, true, true, true, true, true, true, true, true, true, true, true, true, false, false] rfl rfl (by kernel_rfl) (fun _ _ _ h => h) (Or.inl ⟨by rfl, ?_⟩) hHeld ?_ ?_
        rotate_left
        ·intro w' hs
         obtain ⟨s0, s1, s2⟩ := HCY.out w' hs
         go_simp
         with_reducible rfl
        rotate_left
        ·simp only [Act.put, List.setIfInBounds_toArray, List.set_cons_zero, List.set_cons_succ, i64_w, i32_w]
         rfl
        have HH := Aside0.mk hHeld
        clear hHeld
        refine one_ (i := 15) (N := some 98) #[true, true, true, true, true, true, true, true, true, true, true, true, true, true, true, true, false] rfl rfl (by kernel_rfl) (by decide) (fun K hK => ?_)
        refine goes_ Try.func113 (by kernel_rfl) rfl #[.agg #[.int .i64 x.f0, .int .u64 x.f1, .int .u64 x.f2], .agg #[.int .i64 x.f0, .int .u64 x.f1, .int .u64 x.f2], .agg #[.int .i64 y.f0, .int .u64 y.f1, .int .u64 y.f2]] (by rfl) rfl rfl (by simp only [List.map_toArray, List.map_cons, List.map_nil]; rfl) ?_
        with_reducible refine (shunterref02_Within.calls x.f0 x.f1 x.f2 x.f0 x.f1 x.f2 y.f0 y.f1 y.f2 false _ HWN.out).mono ?_
        rintro e_ w1 ⟨rfl, hb⟩
        refine ⟨_, rfl, ?_⟩
        have HB8 := Aside0.mk (below_step HH.out hb)
        clear hb HH
        refine hK.out _ _ HB8.out (fun hHeld => ?_)
        clear hK K
        refine norm_ (a' := ?_) ?_ ?_
        rotate_left
        ·show Act.put _ (some 98) _ = _
         simp only [Act.put, List.setIfInBounds_toArray, List.set_cons_zero, List.set_cons_succ, i64_w, i32_w]
         rfl
        refine pl_ [16] ?_
        refine qP rfl rfl ?_
        refine pl0 ?_
        refine done_ (by kernel_rfl) ?_
        have HBC := Aside0.mk hHeld
        clear hHeld
        go_wp2
        go_ret
        exact ⟨by rw [HR.out]; rfl, below_step HWB.out HBC.out⟩
       | true =>
        have HWN := Aside0.mk (show shunterref02_Within.f x.f0 x.f1 x.f2 x.f0 x.f1 x.f2 y.f0 y.f1 y.f2 = some true from by rw [hrw, e1])
        have HF2 := Aside0.mk (allTo_succ HF.out (HPI.out.trans e1))
        clear e1 hrw
        go_wp2
        refine start_ (n := 17) (S := fun w' => Below wq.heap.size wq w') (ds := []) #[false, false, false, false, false, false, false, false, false, false, false, false, false, false, false, false, false] (by kernel_rfl) rfl rfl (below_drew1 HB7.out) (fun hHeld => ?_)
        clear HB7
        generalize World.drew _ = w8 at hHeld ⊢
        refine pl_ [0, 2, 5, 7, 10, 12] ?_
        iterate 6 refine qP rfl rfl ?_
        refine pl0 ?_
        refine take_ (i := 1) (N := some 84) (v := ?_) (a' := ?_) #[true, true, true, false, false, true, false, true, false, false, true, false, true, false, false, false, false] rfl rfl (by kernel_rfl) (fun _ _ _ h => h) (Or.inl ⟨by rfl, ?_⟩) hHeld ?_ ?_
        rotate_left
        ·intro w' hs
         have b0 := blk_cell (blk_below HX.out hs) 0
         have b1 := blk_cell (blk_below HX.out hs) 1
         simp only [List.getElem?_toArray, List.getElem?_cons_succ, List.getElem?_cons_zero] at b0 b1
         go_simp
         with_reducible rfl
        rotate_left
        ·simp only [Act.put, List.setIfInBounds_toArray, List.set_cons_zero, List.set_cons_succ, i64_w, i32_w]
         rfl
        refine pl_ [3] ?_
        refine qP rfl rfl ?_
        refine pl0 ?_
        refine take_ (i := 4) (N := some 87) (v := ?_) (a' := ?_) #[true, true, true, true, true, true, false, true, false, false, true, false, true, false, false, false, false] rfl rfl (by kernel_rfl) (fun _ _ _ h => h) (Or.inl ⟨by rfl, ?_⟩) hHeld ?_ ?_
        rotate_left
        ·intro w' hs
         obtain ⟨s0, s1, s2⟩ := HCX.out w' hs
         go_simp
         with_reducible rfl
        rotate_left
        ·simp only [Act.put, List.setIfInBounds_toArray, List.set_cons_zero, List.set_cons_succ, i64_w, i32_w]
         rfl
        refine take_ (i := 6) (N := some 89) (v := ?_) (a' := ?_) #[true, true, true, true, true, true, true, true, false, false, true, false, true, false, false, false, false] rfl rfl (by kernel_rfl) (fun _ _ _ h => h) (Or.inl ⟨by rfl, ?_⟩) hHeld ?_ ?_
        rotate_left
        ·intro w' hs
         have b0 := blk_cell (blk_below HX.out hs) 0
         have b1 := blk_cell (blk_below HX.out hs) 1
         simp only [List.getElem?_toArray, List.getElem?_cons_succ, List.getElem?_cons_zero] at b0 b1
         go_simp
         with_reducible rfl
        rotate_left
        ·simp only [Act.put, List.setIfInBounds_toArray, List.set_cons_zero, List.set_cons_succ, i64_w, i32_w]
         rfl
        refine pl_ [8] ?_
        refine qP rfl rfl ?_
        refine pl0 ?_
        refine take_ (i := 9) (N := some 92) (v := ?_) (a' := ?_) #[true, true, true, true, true, true, true, true, true, true, true, false, true, false, false, false, false] rfl rfl (by kernel_rfl) (fun _ _ _ h => h) (Or.inl ⟨by rfl, ?_⟩) hHeld ?_ ?_
        rotate_left
        ·intro w' hs
         obtain ⟨s0, s1, s2⟩ := HCX.out w' hs
         go_simp
         with_reducible rfl
        rotate_left
        ·simp only [Act.put, List.setIfInBounds_toArray, List.set_cons_zero, List.set_cons_succ, i64_w, i32_w]
         rfl
        refine take_ (i := 11) (N := some 94) (v := ?_) (a' := ?_) #[true, true, true, true, true, true, true, true, true, true, true, true, true, false, false, false, false] rfl rfl (by kernel_rfl) (fun _ _ _ h => h) (Or.inl ⟨by rfl, ?_⟩) hHeld ?_ ?_
        rotate_left
        ·intro w' hs
         have b0 := blk_cell (blk_below HX.out hs) 0
         have b1 := blk_cell (blk_below HX.out hs) 1
         simp only [List.getElem?_toArray, List.getElem?_cons_succ, List.getElem?_cons_zero] at b0 b1
         go_simp
         with_reducible rfl
        rotate_left
        ·simp only [Act.put, List.setIfInBounds_toArray, List.set_cons_zero, List.set_cons_succ, i64_w, i32_w]
         rfl
        refine pl_ [13] ?_
        refine qP rfl rfl ?_
        refine pl0 ?_
        refine take_ (i := 14) (N := some 97) (v := ?_) (a' := ?_) #[true, true, true, true, true, true, true, true, true, true, true, true, true, true, true, false, false] rfl rfl (by kernel_rfl) (fun _ _ _ h => h) (Or.inl ⟨by rfl, ?_⟩) hHeld ?_ ?_
        rotate_left
        ·intro w' hs
         obtain ⟨s0, s1, s2⟩ := HCY.out w' hs
         go_simp
         with_reducible rfl
        rotate_left
        ·simp only [Act.put, List.setIfInBounds_toArray, List.set_cons_zero, List.set_cons_succ, i64_w, i32_w]
         rfl
        have HH := Aside0.mk hHeld
        clear hHeld
        refine one_ (i := 15) (N := some 98) #[true, true, true, true, true, true, true, true, true, true, true, true, true, true, true, true, false] rfl rfl (by kernel_rfl) (by decide) (fun K hK => ?_)
        refine goes_ Try.func113 (by kernel_rfl) rfl #[.agg #[.int .i64 x.f0, .int .u64 x.f1, .int .u64 x.f2], .agg #[.int .i64 x.f0, .int .u64 x.f1, .int .u64 x.f2], .agg #[.int .i64 y.f0, .int .u64 y.f1, .int .u64 y.f2]] (by rfl) rfl rfl (by simp only [List.map_toArray, List.map_cons, List.map_nil]; rfl) ?_
        with_reducible refine (shunterref02_Within.calls x.f0 x.f1 x.f2 x.f0 x.f1 x.f2 y.f0 y.f1 y.f2 true _ HWN.out).mono ?_
        rintro e_ w1 ⟨rfl, hb⟩
        refine ⟨_, rfl, ?_⟩
        have HB8 := Aside0.mk (below_step HH.out hb)
        clear hb HH
        refine hK.out _ _ HB8.out (fun hHeld => ?_)
        clear hK K
        refine norm_ (a' := ?_) ?_ ?_
        rotate_left
        ·show Act.put _ (some 98) _ = _
         simp only [Act.put, List.setIfInBounds_toArray, List.set_cons_zero, List.set_cons_succ, i64_w, i32_w]
         rfl
        refine pl_ [16] ?_
        refine qP rfl rfl ?_
        refine pl0 ?_
        refine done_ (by kernel_rfl) ?_
        have HBC := Aside0.mk hHeld
        clear hHeld
        go_wp2
        go_roundw
        case measure => first | (simp [intOf]; done) | (simp [intOf]; omega)
        case rel => exact ⟨i + 1, hlt, by go_num, HF2, HBC⟩
      ·have hie : i = ws.length := by omega
       have HR := Aside0.mk (show mayR ws lo hi pr = 0 from by rw [HMR.out, if_pos (by rw [← hie]; exact HF.out)])
       clear hie
       go_wp2
       go_ret
       exact ⟨by rw [HR.out]; rfl, below_step HWB.out HB7.out⟩
theorem shunterref22_May.calls (A0 : Option Addr) (c0 : Nat) (l0 : List Int) (A1_0 : Option Addr) (c1_0 : Nat) (l1_0 : List (S32)) (A1_1 : Option Addr) (c1_1 : Nat) (l1_1 : List (S32)) (a1_2 : Int) (a1_3 : Int) (r : Int) (w : World) (hr0 : Kd.C (Kd.int .i64) w A0 l0.length l0) (hc0 : l0.length ≤ c0) (hr1_0 : Kd.C k32 w A1_0 l1_0.length l1_0) (hc1_0 : l1_0.length ≤ c1_0) (hr1_1 : Kd.C k32 w A1_1 l1_1.length l1_1) (hc1_1 : l1_1.length ≤ c1_1) (h : shunterref22_May.f l0 l1_0 l1_1 a1_2 a1_3 = some r) :
 Calls Try.prog 144 #[.slice A0 l0.length c0, .agg #[.slice A1_0 l1_0.length c1_0, .slice A1_1 l1_1.length c1_1, .int .i64 a1_2, .int .i64 a1_3]] w fun e w' => e = .returned (.int .i64 r) ∧ Below w.heap.size w w' := by
 unfold shunterref22_May.f at h
 by_cases h1 : l1_0.length = l0.length
 ·rw [if_pos h1] at h
  by_cases h2 : l1_1.length = l0.length
  ·rw [if_pos h2] at h
   by_cases hd : allTo (donR l1_0 l1_1) l0.length = true
   ·rw [if_pos hd] at h
    injection h with h
    rw [← h]
    exact rMay_go A0 c0 l0 A1_0 c1_0 l1_0 A1_1 c1_1 l1_1 a1_2 a1_3 w h1 h2 hd hr0 hr1_0 hr1_1
   ·rw [if_neg hd] at h; cases h
  ·rw [if_neg h2] at h
   injection h with h
   rw [← h]
   exact rMay_len2 A0 c0 l0 A1_0 c1_0 l1_0 A1_1 c1_1 l1_1 a1_2 a1_3 w h1 h2
 ·rw [if_neg h1] at h
  injection h with h
  rw [← h]
  exact rMay_len1 A0 c0 l0 A1_0 c1_0 l1_0 A1_1 c1_1 l1_1 a1_2 a1_3 w h1
end Go.Proofs.Ytfdbcnbakchcgaa.XQ
