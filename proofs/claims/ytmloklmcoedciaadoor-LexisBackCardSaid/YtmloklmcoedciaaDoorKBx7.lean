-- Written by a program (kp.py, wip/tools) for this claim, out of the translation.
import Derived.Test.YtmloklmcoedciaaDoorKBx0
import Derived.Test.YtmloklmcoedciaaDoorKBx6
namespace Go.Proofs.YtmloklmcoedciaaDoor.KB
open Go.RowKit Go.Proofs.YtmloklmcoedciaaDoorW.PrintWords Go.Proofs.YtmloklmcoedciaaDoorW.PrintLast Go.Proofs.YtmloklmcoedciaaDoorW.PrintMore
attribute [local go_sem] max2_int min2_int max_two min_two max_three min_three max_four min_four   -- for this text's walks alone
set_option linter.unusedVariables false
set_option linter.unusedSimpArgs false

/-! ### keystonelaw12_same: function 16 -/
def keystonelaw12_same.l0 : Nat → List (S35) → List (S35) → Int → Int → Option (Bool)
  | 0, _, _, _, _ => none
  | k + 1, x0, x1, x12, x13 => if x13 < x12 then (if 0 ≤ x13 then (if x13 < (x0.length : Int) then (if x13 < (x1.length : Int) then ((keystonelaw12_sameToken.f ((rd_T35 x0 x13).f0) ((rd_T35 x0 x13).f1) ((rd_T35 x0 x13).f2.f0) ((rd_T35 x0 x13).f2.f1) ((rd_T35 x0 x13).f2.f2) ((rd_T35 x0 x13).f2.f3) ((rd_T35 x0 x13).f2.f4) ((rd_T35 x0 x13).f3) ((rd_T35 x1 x13).f0) ((rd_T35 x1 x13).f1) ((rd_T35 x1 x13).f2.f0) ((rd_T35 x1 x13).f2.f1) ((rd_T35 x1 x13).f2.f2) ((rd_T35 x1 x13).f2.f3) ((rd_T35 x1 x13).f2.f4) ((rd_T35 x1 x13).f3)).bind fun t223 => (if t223 = true then (keystonelaw12_same.l0 k x0 x1 x12 (wrap64 (x13 + 1))) else (some false))) else (none)) else (none)) else (none)) else (some true)
def keystonelaw12_same.f (k : Nat) (l0 : List (S35)) (l1 : List (S35)) : Option (Bool) := if (l0.length : Int) = (l1.length : Int) then (keystonelaw12_same.l0 k l0 l1 (l0.length : Int) 0) else (some false)
theorem keystonelaw12_same.mono_l : ∀ k, (∀ y0 y1 y2 y3, LeO (keystonelaw12_same.l0 k y0 y1 y2 y3) (keystonelaw12_same.l0 (k + 1) y0 y1 y2 y3))
  | 0 => fun _ _ _ _ r h => by simp [keystonelaw12_same.l0] at h
  | k + 1 => by
    have ih0 := keystonelaw12_same.mono_l k
    · intro y0 y1 y2 y3
      unfold keystonelaw12_same.l0
      repeat' first
      | (with_reducible exact ih0 _ _ _ _)
      | (with_reducible exact LeO.refl _)
      | (with_reducible exact LeO.none _)
      | (with_reducible refine LeO.ite ?_ ?_)
      | (with_reducible refine LeO.bind ?_ (fun _ => ?_))
      | exact ih0 _ _ _ _
      | exact LeO.none _
      | refine LeO.ite ?_ ?_
      | refine LeO.bind ?_ (fun _ => ?_)
theorem keystonelaw12_same.mono : ∀ a0 a1 k, LeO (keystonelaw12_same.f k a0 a1) (keystonelaw12_same.f (k + 1) a0 a1) := by
  intro a0 a1 k
  have ih0 := keystonelaw12_same.mono_l k
  unfold keystonelaw12_same.f
  repeat' first
      | (with_reducible exact ih0 _ _ _ _)
      | (with_reducible exact LeO.refl _)
      | (with_reducible exact LeO.none _)
      | (with_reducible refine LeO.ite ?_ ?_)
      | (with_reducible refine LeO.bind ?_ (fun _ => ?_))
      | exact ih0 _ _ _ _
      | exact LeO.none _
      | refine LeO.ite ?_ ?_
      | refine LeO.bind ?_ (fun _ => ?_)
def keystonelaw12_same.T6 : Bool × List (List Nat × List Nat) := (true, [([], []), ([], []), ([0, 1], [0, 1]), ([2], [2]), ([], []), ([], []), ([4, 5], [4, 5]), ([6], [6]), ([3, 7], [3, 7]), ([8], [8])])
def keystonelaw12_same.B6 : List Nat := [0, 0, 3, 7, 0, 0, 48, 112, 255, 511]
theorem keystonelaw12_same.tab6 : rtab .any (opsOf Tryd.f16 6) = keystonelaw12_same.T6 := by kernel_rfl
theorem keystonelaw12_same.bits6 : waitsOk keystonelaw12_same.T6.2 keystonelaw12_same.B6 = true := by kernel_rfl
set_option maxHeartbeats 4000000 in
set_option maxRecDepth 100000 in
theorem keystonelaw12_same.calls (k : Nat) (A0 : Option Addr) (c0 : Nat) (l0 : List (S35)) (A1 : Option Addr) (c1 : Nat) (l1 : List (S35)) (r : Bool) (w : World) (hr0 : Kd.C k35 w A0 l0.length l0) (hc0 : l0.length ≤ c0) (hr1 : Kd.C k35 w A1 l1.length l1) (hc1 : l1.length ≤ c1) (h : keystonelaw12_same.f k l0 l1 = some r) :
    Calls Tryd.prog 16 #[.slice A0 l0.length c0, .slice A1 l1.length c1] w fun e w' => e = .returned (.bool r) ∧ Below w.heap.size w w' := by
  have hu35 := Tryd.underlying35
  have HR0 := Aside0.mk hr0
  have HC0 := Aside0.mk hc0
  clear hr0 hc0
  have HR1 := Aside0.mk hr1
  have HC1 := Aside0.mk hc1
  clear hr1 hc1
  have HB := Aside0.mk (Below.refl w.heap.size w)
  have H : (if (l0.length : Int) = (l1.length : Int) then (keystonelaw12_same.l0 k l0 l1 (l0.length : Int) 0) else (some false)) = some r := h
  clear h
  by_cases c3 : (l0.length : Int) = (l1.length : Int)
  rotate_left
  · rw [if_neg c3] at H
    have c3b0 : ((l0.length : Int) == (l1.length : Int)) = false := beq_eq_false_iff_ne.mpr c3
    have c3b1 : ((l0.length : Int) != (l1.length : Int)) = true := bne_iff_ne.mpr c3
    have c3b2 : (l0.length == l1.length) = false := by first | simpa using c3 | (simp at c3 ⊢; omega)
    obtain rfl := Option.some.inj H
    go_enter Tryd.func16, Tryd.ntmps16
    go_wp2
    go_ret
    exact ⟨by first | rfl | (simp [errW_none, errW_some] <;> rfl) | (simp [*, errW_none, errW_some] <;> rfl), by repeat (first | (with_reducible first | exact HB.out | apply below_alloc | apply pw_below_drewN | apply below_drew1) | exact HB.out)⟩
  rw [if_pos c3] at H
  have c3b0 : ((l0.length : Int) == (l1.length : Int)) = true := beq_iff_eq.mpr c3
  have c3b1 : ((l0.length : Int) != (l1.length : Int)) = false := bne_eq_false_iff_eq.mpr c3
  have c3b2 : (l0.length == l1.length) = true := by first | simpa using c3 | (simp at c3 ⊢; omega)
  clear c3
  have H' := Aside0.mk H
  clear H
  go_enter Tryd.func16, Tryd.ntmps16
  go_wp2
  go_loopg [13] k (fun kq v13 w' => ∃ (x13_1 : Int), v13 = .int .i64 x13_1 ∧ Aside0 (keystonelaw12_same.l0 kq l0 l1 (l0.length : Int) x13_1 = some r) ∧ Aside0 (kq ≤ k) ∧ Aside0 (Below w.heap.size w w'))
  case atStart => exact ⟨(0), (by first | rfl | (simp; done) | (simp [*]; done)), H', ⟨Nat.le_refl _⟩, ⟨by repeat (first | (with_reducible first | exact HB.out | apply below_alloc | apply pw_below_drewN | apply below_drew1) | exact HB.out)⟩⟩
  case round =>
    clear H'
    try clear c1
    try clear p2
    try clear c3
    try clear c3b0
    try clear c3b1
    try clear c3b2
    obtain ⟨x13_1, rfl, HA, HK1, HB⟩ := hrel
    cases gk with
    | zero => exact absurd HA.out (by simp [keystonelaw12_same.l0])
    | succ k1 =>
      have H := HA.out
      clear HA
      simp only [keystonelaw12_same.l0] at H
      by_cases c4 : x13_1 < (l0.length : Int)
      rotate_left
      · rw [if_neg c4] at H
        have c4b0 : decide (x13_1 < (l0.length : Int)) = false := decide_eq_false c4
        clear c4
        obtain rfl := Option.some.inj H
        go_wp2
        go_ret
        exact ⟨by first | rfl | (simp [errW_none, errW_some] <;> rfl) | (simp [*, errW_none, errW_some] <;> rfl), by repeat (first | (with_reducible first | exact HB.out | apply below_alloc | apply pw_below_drewN | apply below_drew1) | exact HB.out)⟩
      rw [if_pos c4] at H
      have c4b0 : decide (x13_1 < (l0.length : Int)) = true := decide_eq_true c4
      clear c4
      by_cases c5 : 0 ≤ x13_1
      rotate_left
      · rw [if_neg c5] at H
        exact absurd H (by simp)
      rw [if_pos c5] at H
      have c5b0 : decide (0 ≤ x13_1) = true := decide_eq_true c5
      clear c5
      by_cases c6 : x13_1 < (l0.length : Int)
      rotate_left
      · rw [if_neg c6] at H
        exact absurd H (by simp)
      rw [if_pos c6] at H
      have c6b0 : decide (x13_1 < (l0.length : Int)) = true := decide_eq_true c6
      clear c6
      by_cases c7 : x13_1 < (l1.length : Int)
      rotate_left
      · rw [if_neg c7] at H
        exact absurd H (by simp)
      rw [if_pos c7] at H
      have c7b0 : decide (x13_1 < (l1.length : Int)) = true := decide_eq_true c7
      clear c7
      replace H := Option.bind_eq_some_iff.mp H
      obtain ⟨t223, A80, H⟩ := H
      replace H : (if t223 = true then (keystonelaw12_same.l0 k1 l0 l1 (l0.length : Int) (wrap64 (x13_1 + 1))) else (some false)) = some r := H
      have A8 := Aside0.mk A80
      clear A80
      by_cases c9 : t223 = true
      rotate_left
      · replace c9 := Bool.eq_false_iff.mpr c9
        subst c9
        have H1 : (some false) = some r := by rw [if_neg (show ¬ (false = true) by decide)] at H; exact H
        clear H
        have H := H1
        clear H1
        obtain rfl := Option.some.inj H
        try go_wp2
        have n0_ := Aside0.mk (below_drew1 HB.out)
        clear HB
        have HB := n0_
        clear n0_
        have p221 : 0 ≤ (x13_1 : Int) := of_decide_eq_true (by first | (with_reducible assumption) | assumption)
        have q221 : x13_1 < (l0.length : Int) := of_decide_eq_true (by first | (with_reducible assumption) | assumption)
        obtain ⟨ad221, e221, hx221_0, hx221_1, hx221_2, hx221_3, hx221_4, hx221_5, hx221_6, hx221_7⟩ := at_T35 HR0.out x13_1 p221 q221
        have hw221_7 := hx221_7
        have hw221_6 := hx221_6
        have hw221_5 := hx221_5
        have hw221_4 := hx221_4
        have hw221_3 := hx221_3
        have hw221_2 := hx221_2
        have hw221_1 := hx221_1
        have hw221_0 := hx221_0
        cases e221
        replace hx221_0 := (HB.out.cell (World.block_lt_of_cell? w _ hx221_0)).trans hx221_0
        replace hx221_1 := (HB.out.cell (World.block_lt_of_cell? w _ hx221_1)).trans hx221_1
        replace hx221_2 := (HB.out.cell (World.block_lt_of_cell? w _ hx221_2)).trans hx221_2
        replace hx221_3 := (HB.out.cell (World.block_lt_of_cell? w _ hx221_3)).trans hx221_3
        replace hx221_4 := (HB.out.cell (World.block_lt_of_cell? w _ hx221_4)).trans hx221_4
        replace hx221_5 := (HB.out.cell (World.block_lt_of_cell? w _ hx221_5)).trans hx221_5
        replace hx221_6 := (HB.out.cell (World.block_lt_of_cell? w _ hx221_6)).trans hx221_6
        replace hx221_7 := (HB.out.cell (World.block_lt_of_cell? w _ hx221_7)).trans hx221_7
        replace p221 := eq_true p221
        replace q221 := eq_true q221
        have p222 : 0 ≤ (x13_1 : Int) := of_decide_eq_true (by first | (with_reducible assumption) | assumption)
        have q222 : x13_1 < (l1.length : Int) := of_decide_eq_true (by first | (with_reducible assumption) | assumption)
        obtain ⟨ad222, e222, hx222_0, hx222_1, hx222_2, hx222_3, hx222_4, hx222_5, hx222_6, hx222_7⟩ := at_T35 HR1.out x13_1 p222 q222
        have hw222_7 := hx222_7
        have hw222_6 := hx222_6
        have hw222_5 := hx222_5
        have hw222_4 := hx222_4
        have hw222_3 := hx222_3
        have hw222_2 := hx222_2
        have hw222_1 := hx222_1
        have hw222_0 := hx222_0
        cases e222
        replace hx222_0 := (HB.out.cell (World.block_lt_of_cell? w _ hx222_0)).trans hx222_0
        replace hx222_1 := (HB.out.cell (World.block_lt_of_cell? w _ hx222_1)).trans hx222_1
        replace hx222_2 := (HB.out.cell (World.block_lt_of_cell? w _ hx222_2)).trans hx222_2
        replace hx222_3 := (HB.out.cell (World.block_lt_of_cell? w _ hx222_3)).trans hx222_3
        replace hx222_4 := (HB.out.cell (World.block_lt_of_cell? w _ hx222_4)).trans hx222_4
        replace hx222_5 := (HB.out.cell (World.block_lt_of_cell? w _ hx222_5)).trans hx222_5
        replace hx222_6 := (HB.out.cell (World.block_lt_of_cell? w _ hx222_6)).trans hx222_6
        replace hx222_7 := (HB.out.cell (World.block_lt_of_cell? w _ hx222_7)).trans hx222_7
        replace p222 := eq_true p222
        replace q222 := eq_true q222
        refine start_ (n := 10) (S := fun w' => w'.cell? (ad221.add ((x13_1).toNat * 8)) = some (.int .i64 ((rd_T35 l0 x13_1).f0)) ∧ w'.cell? ⟨(ad221.add ((x13_1).toNat * 8)).block, (ad221.add ((x13_1).toNat * 8)).off + 1, none⟩ = some (.string ((rd_T35 l0 x13_1).f1)) ∧ w'.cell? ⟨(ad221.add ((x13_1).toNat * 8)).block, (ad221.add ((x13_1).toNat * 8)).off + 2, none⟩ = some (.int .i64 ((rd_T35 l0 x13_1).f2.f0)) ∧ w'.cell? ⟨(ad221.add ((x13_1).toNat * 8)).block, (ad221.add ((x13_1).toNat * 8)).off + 3, none⟩ = some (.int .i64 ((rd_T35 l0 x13_1).f2.f1)) ∧ w'.cell? ⟨(ad221.add ((x13_1).toNat * 8)).block, (ad221.add ((x13_1).toNat * 8)).off + 4, none⟩ = some (.bool ((rd_T35 l0 x13_1).f2.f2)) ∧ w'.cell? ⟨(ad221.add ((x13_1).toNat * 8)).block, (ad221.add ((x13_1).toNat * 8)).off + 5, none⟩ = some (.string ((rd_T35 l0 x13_1).f2.f3)) ∧ w'.cell? ⟨(ad221.add ((x13_1).toNat * 8)).block, (ad221.add ((x13_1).toNat * 8)).off + 6, none⟩ = some (.complex .f64 (((rd_T35 l0 x13_1).f2.f4).re) (((rd_T35 l0 x13_1).f2.f4).im)) ∧ w'.cell? ⟨(ad221.add ((x13_1).toNat * 8)).block, (ad221.add ((x13_1).toNat * 8)).off + 7, none⟩ = some (.int .i64 ((rd_T35 l0 x13_1).f3)) ∧ w'.cell? (ad222.add ((x13_1).toNat * 8)) = some (.int .i64 ((rd_T35 l1 x13_1).f0)) ∧ w'.cell? ⟨(ad222.add ((x13_1).toNat * 8)).block, (ad222.add ((x13_1).toNat * 8)).off + 1, none⟩ = some (.string ((rd_T35 l1 x13_1).f1)) ∧ w'.cell? ⟨(ad222.add ((x13_1).toNat * 8)).block, (ad222.add ((x13_1).toNat * 8)).off + 2, none⟩ = some (.int .i64 ((rd_T35 l1 x13_1).f2.f0)) ∧ w'.cell? ⟨(ad222.add ((x13_1).toNat * 8)).block, (ad222.add ((x13_1).toNat * 8)).off + 3, none⟩ = some (.int .i64 ((rd_T35 l1 x13_1).f2.f1)) ∧ w'.cell? ⟨(ad222.add ((x13_1).toNat * 8)).block, (ad222.add ((x13_1).toNat * 8)).off + 4, none⟩ = some (.bool ((rd_T35 l1 x13_1).f2.f2)) ∧ w'.cell? ⟨(ad222.add ((x13_1).toNat * 8)).block, (ad222.add ((x13_1).toNat * 8)).off + 5, none⟩ = some (.string ((rd_T35 l1 x13_1).f2.f3)) ∧ w'.cell? ⟨(ad222.add ((x13_1).toNat * 8)).block, (ad222.add ((x13_1).toNat * 8)).off + 6, none⟩ = some (.complex .f64 (((rd_T35 l1 x13_1).f2.f4).re) (((rd_T35 l1 x13_1).f2.f4).im)) ∧ w'.cell? ⟨(ad222.add ((x13_1).toNat * 8)).block, (ad222.add ((x13_1).toNat * 8)).off + 7, none⟩ = some (.int .i64 ((rd_T35 l1 x13_1).f3))) (ds := []) (bb_ 0 10) (by kernel_rfl) rfl rfl ⟨((HB.out.cell (World.block_lt_of_cell? w _ hw221_0)).trans hw221_0), ((HB.out.cell (World.block_lt_of_cell? w _ hw221_1)).trans hw221_1), ((HB.out.cell (World.block_lt_of_cell? w _ hw221_2)).trans hw221_2), ((HB.out.cell (World.block_lt_of_cell? w _ hw221_3)).trans hw221_3), ((HB.out.cell (World.block_lt_of_cell? w _ hw221_4)).trans hw221_4), ((HB.out.cell (World.block_lt_of_cell? w _ hw221_5)).trans hw221_5), ((HB.out.cell (World.block_lt_of_cell? w _ hw221_6)).trans hw221_6), ((HB.out.cell (World.block_lt_of_cell? w _ hw221_7)).trans hw221_7), ((HB.out.cell (World.block_lt_of_cell? w _ hw222_0)).trans hw222_0), ((HB.out.cell (World.block_lt_of_cell? w _ hw222_1)).trans hw222_1), ((HB.out.cell (World.block_lt_of_cell? w _ hw222_2)).trans hw222_2), ((HB.out.cell (World.block_lt_of_cell? w _ hw222_3)).trans hw222_3), ((HB.out.cell (World.block_lt_of_cell? w _ hw222_4)).trans hw222_4), ((HB.out.cell (World.block_lt_of_cell? w _ hw222_5)).trans hw222_5), ((HB.out.cell (World.block_lt_of_cell? w _ hw222_6)).trans hw222_6), ((HB.out.cell (World.block_lt_of_cell? w _ hw222_7)).trans hw222_7)⟩ (fun hHeld => ?_); refine with_tabW keystonelaw12_same.tab6 keystonelaw12_same.bits6 (fun HT_ HW_ => ?_)
        generalize wr.drew = w12 at HB hx221_0 hx221_1 hx221_2 hx221_3 hx221_4 hx221_5 hx221_6 hx221_7 hx222_0 hx222_1 hx222_2 hx222_3 hx222_4 hx222_5 hx222_6 hx222_7 hHeld ⊢
        refine pure_ (i := 0) (N := some 16) (v := ?_) (a' := ?_) (bb_ 1 9) rfl rfl (any_of HT_.out (by kernel_rfl)) (fun _ _ _ h => h) (Or.inl ⟨by rfl, ?_⟩) ?_ ?_; rotate_left; (· intro w'; go_simp; with_reducible rfl); rotate_left; (· simp only [Act.put, List.setIfInBounds_toArray, List.set_cons_zero, List.set_cons_succ, i64_w, i32_w]; rfl)
        refine pure_ (i := 1) (N := some 17) (v := ?_) (a' := ?_) (bb_ 2 8) rfl rfl (any_of HT_.out (by kernel_rfl)) (fun _ _ _ h => h) (Or.inl ⟨by rfl, ?_⟩) ?_ ?_; rotate_left; (· intro w'; go_simp; with_reducible rfl); rotate_left; (· simp only [Act.put, List.setIfInBounds_toArray, List.set_cons_zero, List.set_cons_succ, i64_w, i32_w]; rfl)
        refine pure_ (i := 2) (N := some 18) (v := ?_) (a' := ?_) (bb_ 3 7) rfl rfl (any_of HT_.out (by kernel_rfl)) (fun _ _ _ h => h) (Or.inl ⟨by rfl, ?_⟩) ?_ ?_; rotate_left; (· intro w'; go_simp; with_reducible rfl); rotate_left; (· simp only [Act.put, List.setIfInBounds_toArray, List.set_cons_zero, List.set_cons_succ, i64_w, i32_w]; rfl)
        refine pure_ (i := 4) (N := some 20) (v := ?_) (a' := ?_) #[true, true, true, false, true, false, false, false, false, false] rfl rfl (any_of HT_.out (by kernel_rfl)) (fun _ _ _ h => h) (Or.inl ⟨by rfl, ?_⟩) ?_ ?_; rotate_left; (· intro w'; go_simp; with_reducible rfl); rotate_left; (· simp only [Act.put, List.setIfInBounds_toArray, List.set_cons_zero, List.set_cons_succ, i64_w, i32_w]; rfl)
        refine pure_ (i := 5) (N := some 21) (v := ?_) (a' := ?_) #[true, true, true, false, true, true, false, false, false, false] rfl rfl (any_of HT_.out (by kernel_rfl)) (fun _ _ _ h => h) (Or.inl ⟨by rfl, ?_⟩) ?_ ?_; rotate_left; (· intro w'; go_simp; with_reducible rfl); rotate_left; (· simp only [Act.put, List.setIfInBounds_toArray, List.set_cons_zero, List.set_cons_succ, i64_w, i32_w]; rfl)
        refine pure_ (i := 6) (N := some 22) (v := ?_) (a' := ?_) #[true, true, true, false, true, true, true, false, false, false] rfl rfl (any_of HT_.out (by kernel_rfl)) (fun _ _ _ h => h) (Or.inl ⟨by rfl, ?_⟩) ?_ ?_; rotate_left; (· intro w'; go_simp; with_reducible rfl); rotate_left; (· simp only [Act.put, List.setIfInBounds_toArray, List.set_cons_zero, List.set_cons_succ, i64_w, i32_w]; rfl)
        refine take_ (i := 3) (N := some 19) (v := ?_) (a' := ?_) (bb_ 7 3) rfl rfl (take_ofW HT_.out HW_.out (by kernel_rfl)) (fun _ _ _ h => h) (Or.inl ⟨by rfl, ?_⟩) hHeld ?_ ?_; rotate_left; (· rintro w' ⟨s0, s1, s2, s3, s4, s5, s6, s7, s8, s9, s10, s11, s12, s13, s14, s15⟩; go_simp; with_reducible rfl); rotate_left; (· simp only [Act.put, List.setIfInBounds_toArray, List.set_cons_zero, List.set_cons_succ, i64_w, i32_w]; rfl)
        refine take_ (i := 7) (N := some 23) (v := ?_) (a' := ?_) (bb_ 8 2) rfl rfl (take_ofW HT_.out HW_.out (by kernel_rfl)) (fun _ _ _ h => h) (Or.inl ⟨by rfl, ?_⟩) hHeld ?_ ?_; rotate_left; (· rintro w' ⟨s0, s1, s2, s3, s4, s5, s6, s7, s8, s9, s10, s11, s12, s13, s14, s15⟩; go_simp; with_reducible rfl); rotate_left; (· simp only [Act.put, List.setIfInBounds_toArray, List.set_cons_zero, List.set_cons_succ, i64_w, i32_w]; rfl)
        refine one_ (i := 8) (N := some 24) (bb_ 9 1) rfl rfl (one_of HT_.out (by kernel_rfl)) (by decide) (fun K hK => ?_)
        refine goes_ Tryd.func21 (by kernel_rfl) rfl #[.agg #[.int .i64 ((rd_T35 l0 x13_1).f0), .string ((rd_T35 l0 x13_1).f1), .int .i64 ((rd_T35 l0 x13_1).f2.f0), .int .i64 ((rd_T35 l0 x13_1).f2.f1), .bool ((rd_T35 l0 x13_1).f2.f2), .string ((rd_T35 l0 x13_1).f2.f3), .complex .f64 (((rd_T35 l0 x13_1).f2.f4).re) (((rd_T35 l0 x13_1).f2.f4).im), .int .i64 ((rd_T35 l0 x13_1).f3)], .agg #[.int .i64 ((rd_T35 l1 x13_1).f0), .string ((rd_T35 l1 x13_1).f1), .int .i64 ((rd_T35 l1 x13_1).f2.f0), .int .i64 ((rd_T35 l1 x13_1).f2.f1), .bool ((rd_T35 l1 x13_1).f2.f2), .string ((rd_T35 l1 x13_1).f2.f3), .complex .f64 (((rd_T35 l1 x13_1).f2.f4).re) (((rd_T35 l1 x13_1).f2.f4).im), .int .i64 ((rd_T35 l1 x13_1).f3)]] (by rfl) rfl rfl (by (try simp only [List.map_toArray, List.map_cons, List.map_nil]); first | done | rfl | (simp only [List.length_drop, List.length_take]; rfl)) ?_
        with_reducible refine (keystonelaw12_sameToken.calls ((rd_T35 l0 x13_1).f0) ((rd_T35 l0 x13_1).f1) ((rd_T35 l0 x13_1).f2.f0) ((rd_T35 l0 x13_1).f2.f1) ((rd_T35 l0 x13_1).f2.f2) ((rd_T35 l0 x13_1).f2.f3) ((rd_T35 l0 x13_1).f2.f4) ((rd_T35 l0 x13_1).f3) ((rd_T35 l1 x13_1).f0) ((rd_T35 l1 x13_1).f1) ((rd_T35 l1 x13_1).f2.f0) ((rd_T35 l1 x13_1).f2.f1) ((rd_T35 l1 x13_1).f2.f2) ((rd_T35 l1 x13_1).f2.f3) ((rd_T35 l1 x13_1).f2.f4) ((rd_T35 l1 x13_1).f3) false _ A8.out).mono ?_
        rintro e w13 ⟨rfl, hb⟩
        refine ⟨_, rfl, ?_⟩
        have n0_ := Aside0.mk (below_step (by repeat (first | (with_reducible first | exact HB.out | apply below_alloc | apply pw_below_drewN | apply below_drew1) | exact HB.out)) hb)
        clear HB
        have HB := n0_
        clear n0_
        (try clear hb)
        (try clear hb2)
        (try clear hk)
        (try clear hi)
        refine hK.out _ _ ⟨((HB.out.cell (World.block_lt_of_cell? w _ hw221_0)).trans hw221_0), ((HB.out.cell (World.block_lt_of_cell? w _ hw221_1)).trans hw221_1), ((HB.out.cell (World.block_lt_of_cell? w _ hw221_2)).trans hw221_2), ((HB.out.cell (World.block_lt_of_cell? w _ hw221_3)).trans hw221_3), ((HB.out.cell (World.block_lt_of_cell? w _ hw221_4)).trans hw221_4), ((HB.out.cell (World.block_lt_of_cell? w _ hw221_5)).trans hw221_5), ((HB.out.cell (World.block_lt_of_cell? w _ hw221_6)).trans hw221_6), ((HB.out.cell (World.block_lt_of_cell? w _ hw221_7)).trans hw221_7), ((HB.out.cell (World.block_lt_of_cell? w _ hw222_0)).trans hw222_0), ((HB.out.cell (World.block_lt_of_cell? w _ hw222_1)).trans hw222_1), ((HB.out.cell (World.block_lt_of_cell? w _ hw222_2)).trans hw222_2), ((HB.out.cell (World.block_lt_of_cell? w _ hw222_3)).trans hw222_3), ((HB.out.cell (World.block_lt_of_cell? w _ hw222_4)).trans hw222_4), ((HB.out.cell (World.block_lt_of_cell? w _ hw222_5)).trans hw222_5), ((HB.out.cell (World.block_lt_of_cell? w _ hw222_6)).trans hw222_6), ((HB.out.cell (World.block_lt_of_cell? w _ hw222_7)).trans hw222_7)⟩ (fun hHeld => ?_)
        clear hK K
        refine norm_ (a' := ?_) ?_ ?_
        rotate_left
        · show Act.put _ (some 24) _ = _
          simp only [Act.put, List.setIfInBounds_toArray, List.set_cons_zero, List.set_cons_succ, i64_w, i32_w]
          rfl
        refine pure_ (i := 9) (N := some 25) (v := ?_) (a' := ?_) (bb_ 10 0) rfl rfl (any_of HT_.out (by kernel_rfl)) (fun _ _ _ h => h) (Or.inl ⟨by rfl, ?_⟩) ?_ ?_; rotate_left; (· intro w'; go_simp; with_reducible rfl); rotate_left; (· simp only [Act.put, List.setIfInBounds_toArray, List.set_cons_zero, List.set_cons_succ, i64_w, i32_w]; rfl)
        refine done_ (done_of HT_.out (by kernel_rfl)) ?_
        try go_wp2
        go_ret
        exact ⟨by first | rfl | (simp [errW_none, errW_some] <;> rfl) | (simp [*, errW_none, errW_some] <;> rfl), by repeat (first | (with_reducible first | exact HB.out | apply below_alloc | apply pw_below_drewN | apply below_drew1) | exact HB.out)⟩
      subst c9
      have H1 : (keystonelaw12_same.l0 k1 l0 l1 (l0.length : Int) (wrap64 (x13_1 + 1))) = some r := by rw [if_pos rfl] at H; exact H
      clear H
      have H := H1
      clear H1
      have H' := Aside0.mk H
      clear H
      try go_wp2
      have n0_ := Aside0.mk (below_drew1 HB.out)
      clear HB
      have HB := n0_
      clear n0_
      have p221 : 0 ≤ (x13_1 : Int) := of_decide_eq_true (by first | (with_reducible assumption) | assumption)
      have q221 : x13_1 < (l0.length : Int) := of_decide_eq_true (by first | (with_reducible assumption) | assumption)
      obtain ⟨ad221, e221, hx221_0, hx221_1, hx221_2, hx221_3, hx221_4, hx221_5, hx221_6, hx221_7⟩ := at_T35 HR0.out x13_1 p221 q221
      have hw221_7 := hx221_7
      have hw221_6 := hx221_6
      have hw221_5 := hx221_5
      have hw221_4 := hx221_4
      have hw221_3 := hx221_3
      have hw221_2 := hx221_2
      have hw221_1 := hx221_1
      have hw221_0 := hx221_0
      cases e221
      replace hx221_0 := (HB.out.cell (World.block_lt_of_cell? w _ hx221_0)).trans hx221_0
      replace hx221_1 := (HB.out.cell (World.block_lt_of_cell? w _ hx221_1)).trans hx221_1
      replace hx221_2 := (HB.out.cell (World.block_lt_of_cell? w _ hx221_2)).trans hx221_2
      replace hx221_3 := (HB.out.cell (World.block_lt_of_cell? w _ hx221_3)).trans hx221_3
      replace hx221_4 := (HB.out.cell (World.block_lt_of_cell? w _ hx221_4)).trans hx221_4
      replace hx221_5 := (HB.out.cell (World.block_lt_of_cell? w _ hx221_5)).trans hx221_5
      replace hx221_6 := (HB.out.cell (World.block_lt_of_cell? w _ hx221_6)).trans hx221_6
      replace hx221_7 := (HB.out.cell (World.block_lt_of_cell? w _ hx221_7)).trans hx221_7
      replace p221 := eq_true p221
      replace q221 := eq_true q221
      have p222 : 0 ≤ (x13_1 : Int) := of_decide_eq_true (by first | (with_reducible assumption) | assumption)
      have q222 : x13_1 < (l1.length : Int) := of_decide_eq_true (by first | (with_reducible assumption) | assumption)
      obtain ⟨ad222, e222, hx222_0, hx222_1, hx222_2, hx222_3, hx222_4, hx222_5, hx222_6, hx222_7⟩ := at_T35 HR1.out x13_1 p222 q222
      have hw222_7 := hx222_7
      have hw222_6 := hx222_6
      have hw222_5 := hx222_5
      have hw222_4 := hx222_4
      have hw222_3 := hx222_3
      have hw222_2 := hx222_2
      have hw222_1 := hx222_1
      have hw222_0 := hx222_0
      cases e222
      replace hx222_0 := (HB.out.cell (World.block_lt_of_cell? w _ hx222_0)).trans hx222_0
      replace hx222_1 := (HB.out.cell (World.block_lt_of_cell? w _ hx222_1)).trans hx222_1
      replace hx222_2 := (HB.out.cell (World.block_lt_of_cell? w _ hx222_2)).trans hx222_2
      replace hx222_3 := (HB.out.cell (World.block_lt_of_cell? w _ hx222_3)).trans hx222_3
      replace hx222_4 := (HB.out.cell (World.block_lt_of_cell? w _ hx222_4)).trans hx222_4
      replace hx222_5 := (HB.out.cell (World.block_lt_of_cell? w _ hx222_5)).trans hx222_5
      replace hx222_6 := (HB.out.cell (World.block_lt_of_cell? w _ hx222_6)).trans hx222_6
      replace hx222_7 := (HB.out.cell (World.block_lt_of_cell? w _ hx222_7)).trans hx222_7
      replace p222 := eq_true p222
      replace q222 := eq_true q222
      refine start_ (n := 10) (S := fun w' => w'.cell? (ad221.add ((x13_1).toNat * 8)) = some (.int .i64 ((rd_T35 l0 x13_1).f0)) ∧ w'.cell? ⟨(ad221.add ((x13_1).toNat * 8)).block, (ad221.add ((x13_1).toNat * 8)).off + 1, none⟩ = some (.string ((rd_T35 l0 x13_1).f1)) ∧ w'.cell? ⟨(ad221.add ((x13_1).toNat * 8)).block, (ad221.add ((x13_1).toNat * 8)).off + 2, none⟩ = some (.int .i64 ((rd_T35 l0 x13_1).f2.f0)) ∧ w'.cell? ⟨(ad221.add ((x13_1).toNat * 8)).block, (ad221.add ((x13_1).toNat * 8)).off + 3, none⟩ = some (.int .i64 ((rd_T35 l0 x13_1).f2.f1)) ∧ w'.cell? ⟨(ad221.add ((x13_1).toNat * 8)).block, (ad221.add ((x13_1).toNat * 8)).off + 4, none⟩ = some (.bool ((rd_T35 l0 x13_1).f2.f2)) ∧ w'.cell? ⟨(ad221.add ((x13_1).toNat * 8)).block, (ad221.add ((x13_1).toNat * 8)).off + 5, none⟩ = some (.string ((rd_T35 l0 x13_1).f2.f3)) ∧ w'.cell? ⟨(ad221.add ((x13_1).toNat * 8)).block, (ad221.add ((x13_1).toNat * 8)).off + 6, none⟩ = some (.complex .f64 (((rd_T35 l0 x13_1).f2.f4).re) (((rd_T35 l0 x13_1).f2.f4).im)) ∧ w'.cell? ⟨(ad221.add ((x13_1).toNat * 8)).block, (ad221.add ((x13_1).toNat * 8)).off + 7, none⟩ = some (.int .i64 ((rd_T35 l0 x13_1).f3)) ∧ w'.cell? (ad222.add ((x13_1).toNat * 8)) = some (.int .i64 ((rd_T35 l1 x13_1).f0)) ∧ w'.cell? ⟨(ad222.add ((x13_1).toNat * 8)).block, (ad222.add ((x13_1).toNat * 8)).off + 1, none⟩ = some (.string ((rd_T35 l1 x13_1).f1)) ∧ w'.cell? ⟨(ad222.add ((x13_1).toNat * 8)).block, (ad222.add ((x13_1).toNat * 8)).off + 2, none⟩ = some (.int .i64 ((rd_T35 l1 x13_1).f2.f0)) ∧ w'.cell? ⟨(ad222.add ((x13_1).toNat * 8)).block, (ad222.add ((x13_1).toNat * 8)).off + 3, none⟩ = some (.int .i64 ((rd_T35 l1 x13_1).f2.f1)) ∧ w'.cell? ⟨(ad222.add ((x13_1).toNat * 8)).block, (ad222.add ((x13_1).toNat * 8)).off + 4, none⟩ = some (.bool ((rd_T35 l1 x13_1).f2.f2)) ∧ w'.cell? ⟨(ad222.add ((x13_1).toNat * 8)).block, (ad222.add ((x13_1).toNat * 8)).off + 5, none⟩ = some (.string ((rd_T35 l1 x13_1).f2.f3)) ∧ w'.cell? ⟨(ad222.add ((x13_1).toNat * 8)).block, (ad222.add ((x13_1).toNat * 8)).off + 6, none⟩ = some (.complex .f64 (((rd_T35 l1 x13_1).f2.f4).re) (((rd_T35 l1 x13_1).f2.f4).im)) ∧ w'.cell? ⟨(ad222.add ((x13_1).toNat * 8)).block, (ad222.add ((x13_1).toNat * 8)).off + 7, none⟩ = some (.int .i64 ((rd_T35 l1 x13_1).f3))) (ds := []) (bb_ 0 10) (by kernel_rfl) rfl rfl ⟨((HB.out.cell (World.block_lt_of_cell? w _ hw221_0)).trans hw221_0), ((HB.out.cell (World.block_lt_of_cell? w _ hw221_1)).trans hw221_1), ((HB.out.cell (World.block_lt_of_cell? w _ hw221_2)).trans hw221_2), ((HB.out.cell (World.block_lt_of_cell? w _ hw221_3)).trans hw221_3), ((HB.out.cell (World.block_lt_of_cell? w _ hw221_4)).trans hw221_4), ((HB.out.cell (World.block_lt_of_cell? w _ hw221_5)).trans hw221_5), ((HB.out.cell (World.block_lt_of_cell? w _ hw221_6)).trans hw221_6), ((HB.out.cell (World.block_lt_of_cell? w _ hw221_7)).trans hw221_7), ((HB.out.cell (World.block_lt_of_cell? w _ hw222_0)).trans hw222_0), ((HB.out.cell (World.block_lt_of_cell? w _ hw222_1)).trans hw222_1), ((HB.out.cell (World.block_lt_of_cell? w _ hw222_2)).trans hw222_2), ((HB.out.cell (World.block_lt_of_cell? w _ hw222_3)).trans hw222_3), ((HB.out.cell (World.block_lt_of_cell? w _ hw222_4)).trans hw222_4), ((HB.out.cell (World.block_lt_of_cell? w _ hw222_5)).trans hw222_5), ((HB.out.cell (World.block_lt_of_cell? w _ hw222_6)).trans hw222_6), ((HB.out.cell (World.block_lt_of_cell? w _ hw222_7)).trans hw222_7)⟩ (fun hHeld => ?_); refine with_tabW keystonelaw12_same.tab6 keystonelaw12_same.bits6 (fun HT_ HW_ => ?_)
      generalize wr.drew = w10 at HB hx221_0 hx221_1 hx221_2 hx221_3 hx221_4 hx221_5 hx221_6 hx221_7 hx222_0 hx222_1 hx222_2 hx222_3 hx222_4 hx222_5 hx222_6 hx222_7 hHeld ⊢
      refine pure_ (i := 0) (N := some 16) (v := ?_) (a' := ?_) (bb_ 1 9) rfl rfl (any_of HT_.out (by kernel_rfl)) (fun _ _ _ h => h) (Or.inl ⟨by rfl, ?_⟩) ?_ ?_; rotate_left; (· intro w'; go_simp; with_reducible rfl); rotate_left; (· simp only [Act.put, List.setIfInBounds_toArray, List.set_cons_zero, List.set_cons_succ, i64_w, i32_w]; rfl)
      refine pure_ (i := 1) (N := some 17) (v := ?_) (a' := ?_) (bb_ 2 8) rfl rfl (any_of HT_.out (by kernel_rfl)) (fun _ _ _ h => h) (Or.inl ⟨by rfl, ?_⟩) ?_ ?_; rotate_left; (· intro w'; go_simp; with_reducible rfl); rotate_left; (· simp only [Act.put, List.setIfInBounds_toArray, List.set_cons_zero, List.set_cons_succ, i64_w, i32_w]; rfl)
      refine pure_ (i := 2) (N := some 18) (v := ?_) (a' := ?_) (bb_ 3 7) rfl rfl (any_of HT_.out (by kernel_rfl)) (fun _ _ _ h => h) (Or.inl ⟨by rfl, ?_⟩) ?_ ?_; rotate_left; (· intro w'; go_simp; with_reducible rfl); rotate_left; (· simp only [Act.put, List.setIfInBounds_toArray, List.set_cons_zero, List.set_cons_succ, i64_w, i32_w]; rfl)
      refine pure_ (i := 4) (N := some 20) (v := ?_) (a' := ?_) #[true, true, true, false, true, false, false, false, false, false] rfl rfl (any_of HT_.out (by kernel_rfl)) (fun _ _ _ h => h) (Or.inl ⟨by rfl, ?_⟩) ?_ ?_; rotate_left; (· intro w'; go_simp; with_reducible rfl); rotate_left; (· simp only [Act.put, List.setIfInBounds_toArray, List.set_cons_zero, List.set_cons_succ, i64_w, i32_w]; rfl)
      refine pure_ (i := 5) (N := some 21) (v := ?_) (a' := ?_) #[true, true, true, false, true, true, false, false, false, false] rfl rfl (any_of HT_.out (by kernel_rfl)) (fun _ _ _ h => h) (Or.inl ⟨by rfl, ?_⟩) ?_ ?_; rotate_left; (· intro w'; go_simp; with_reducible rfl); rotate_left; (· simp only [Act.put, List.setIfInBounds_toArray, List.set_cons_zero, List.set_cons_succ, i64_w, i32_w]; rfl)
      refine pure_ (i := 6) (N := some 22) (v := ?_) (a' := ?_) #[true, true, true, false, true, true, true, false, false, false] rfl rfl (any_of HT_.out (by kernel_rfl)) (fun _ _ _ h => h) (Or.inl ⟨by rfl, ?_⟩) ?_ ?_; rotate_left; (· intro w'; go_simp; with_reducible rfl); rotate_left; (· simp only [Act.put, List.setIfInBounds_toArray, List.set_cons_zero, List.set_cons_succ, i64_w, i32_w]; rfl)
      refine take_ (i := 3) (N := some 19) (v := ?_) (a' := ?_) (bb_ 7 3) rfl rfl (take_ofW HT_.out HW_.out (by kernel_rfl)) (fun _ _ _ h => h) (Or.inl ⟨by rfl, ?_⟩) hHeld ?_ ?_; rotate_left; (· rintro w' ⟨s0, s1, s2, s3, s4, s5, s6, s7, s8, s9, s10, s11, s12, s13, s14, s15⟩; go_simp; with_reducible rfl); rotate_left; (· simp only [Act.put, List.setIfInBounds_toArray, List.set_cons_zero, List.set_cons_succ, i64_w, i32_w]; rfl)
      refine take_ (i := 7) (N := some 23) (v := ?_) (a' := ?_) (bb_ 8 2) rfl rfl (take_ofW HT_.out HW_.out (by kernel_rfl)) (fun _ _ _ h => h) (Or.inl ⟨by rfl, ?_⟩) hHeld ?_ ?_; rotate_left; (· rintro w' ⟨s0, s1, s2, s3, s4, s5, s6, s7, s8, s9, s10, s11, s12, s13, s14, s15⟩; go_simp; with_reducible rfl); rotate_left; (· simp only [Act.put, List.setIfInBounds_toArray, List.set_cons_zero, List.set_cons_succ, i64_w, i32_w]; rfl)
      refine one_ (i := 8) (N := some 24) (bb_ 9 1) rfl rfl (one_of HT_.out (by kernel_rfl)) (by decide) (fun K hK => ?_)
      refine goes_ Tryd.func21 (by kernel_rfl) rfl #[.agg #[.int .i64 ((rd_T35 l0 x13_1).f0), .string ((rd_T35 l0 x13_1).f1), .int .i64 ((rd_T35 l0 x13_1).f2.f0), .int .i64 ((rd_T35 l0 x13_1).f2.f1), .bool ((rd_T35 l0 x13_1).f2.f2), .string ((rd_T35 l0 x13_1).f2.f3), .complex .f64 (((rd_T35 l0 x13_1).f2.f4).re) (((rd_T35 l0 x13_1).f2.f4).im), .int .i64 ((rd_T35 l0 x13_1).f3)], .agg #[.int .i64 ((rd_T35 l1 x13_1).f0), .string ((rd_T35 l1 x13_1).f1), .int .i64 ((rd_T35 l1 x13_1).f2.f0), .int .i64 ((rd_T35 l1 x13_1).f2.f1), .bool ((rd_T35 l1 x13_1).f2.f2), .string ((rd_T35 l1 x13_1).f2.f3), .complex .f64 (((rd_T35 l1 x13_1).f2.f4).re) (((rd_T35 l1 x13_1).f2.f4).im), .int .i64 ((rd_T35 l1 x13_1).f3)]] (by rfl) rfl rfl (by (try simp only [List.map_toArray, List.map_cons, List.map_nil]); first | done | rfl | (simp only [List.length_drop, List.length_take]; rfl)) ?_
      with_reducible refine (keystonelaw12_sameToken.calls ((rd_T35 l0 x13_1).f0) ((rd_T35 l0 x13_1).f1) ((rd_T35 l0 x13_1).f2.f0) ((rd_T35 l0 x13_1).f2.f1) ((rd_T35 l0 x13_1).f2.f2) ((rd_T35 l0 x13_1).f2.f3) ((rd_T35 l0 x13_1).f2.f4) ((rd_T35 l0 x13_1).f3) ((rd_T35 l1 x13_1).f0) ((rd_T35 l1 x13_1).f1) ((rd_T35 l1 x13_1).f2.f0) ((rd_T35 l1 x13_1).f2.f1) ((rd_T35 l1 x13_1).f2.f2) ((rd_T35 l1 x13_1).f2.f3) ((rd_T35 l1 x13_1).f2.f4) ((rd_T35 l1 x13_1).f3) true _ A8.out).mono ?_
      rintro e w11 ⟨rfl, hb⟩
      refine ⟨_, rfl, ?_⟩
      have n0_ := Aside0.mk (below_step (by repeat (first | (with_reducible first | exact HB.out | apply below_alloc | apply pw_below_drewN | apply below_drew1) | exact HB.out)) hb)
      clear HB
      have HB := n0_
      clear n0_
      (try clear hb)
      (try clear hb2)
      (try clear hk)
      (try clear hi)
      refine hK.out _ _ ⟨((HB.out.cell (World.block_lt_of_cell? w _ hw221_0)).trans hw221_0), ((HB.out.cell (World.block_lt_of_cell? w _ hw221_1)).trans hw221_1), ((HB.out.cell (World.block_lt_of_cell? w _ hw221_2)).trans hw221_2), ((HB.out.cell (World.block_lt_of_cell? w _ hw221_3)).trans hw221_3), ((HB.out.cell (World.block_lt_of_cell? w _ hw221_4)).trans hw221_4), ((HB.out.cell (World.block_lt_of_cell? w _ hw221_5)).trans hw221_5), ((HB.out.cell (World.block_lt_of_cell? w _ hw221_6)).trans hw221_6), ((HB.out.cell (World.block_lt_of_cell? w _ hw221_7)).trans hw221_7), ((HB.out.cell (World.block_lt_of_cell? w _ hw222_0)).trans hw222_0), ((HB.out.cell (World.block_lt_of_cell? w _ hw222_1)).trans hw222_1), ((HB.out.cell (World.block_lt_of_cell? w _ hw222_2)).trans hw222_2), ((HB.out.cell (World.block_lt_of_cell? w _ hw222_3)).trans hw222_3), ((HB.out.cell (World.block_lt_of_cell? w _ hw222_4)).trans hw222_4), ((HB.out.cell (World.block_lt_of_cell? w _ hw222_5)).trans hw222_5), ((HB.out.cell (World.block_lt_of_cell? w _ hw222_6)).trans hw222_6), ((HB.out.cell (World.block_lt_of_cell? w _ hw222_7)).trans hw222_7)⟩ (fun hHeld => ?_)
      clear hK K
      refine norm_ (a' := ?_) ?_ ?_
      rotate_left
      · show Act.put _ (some 24) _ = _
        simp only [Act.put, List.setIfInBounds_toArray, List.set_cons_zero, List.set_cons_succ, i64_w, i32_w]
        rfl
      refine pure_ (i := 9) (N := some 25) (v := ?_) (a' := ?_) (bb_ 10 0) rfl rfl (any_of HT_.out (by kernel_rfl)) (fun _ _ _ h => h) (Or.inl ⟨by rfl, ?_⟩) ?_ ?_; rotate_left; (· intro w'; go_simp; with_reducible rfl); rotate_left; (· simp only [Act.put, List.setIfInBounds_toArray, List.set_cons_zero, List.set_cons_succ, i64_w, i32_w]; rfl)
      refine done_ (done_of HT_.out (by kernel_rfl)) ?_
      try go_wp2
      go_roundg k1
      case measure => have := HK1.out; omega
      case rel => exact ⟨(wrap64 (x13_1 + 1)), (by first | rfl | (simp; done) | (simp [*]; done)), H', ⟨by have := HK1.out; omega⟩, ⟨by repeat (first | (with_reducible first | exact HB.out | apply below_alloc | apply pw_below_drewN | apply below_drew1) | exact HB.out)⟩⟩

end Go.Proofs.YtmloklmcoedciaaDoor.KB
