-- Written by a program (kp.py, wip/tools) for this claim, out of the translation.
import Derived.Test.YtdonndklddjfiaaDoorKAx0
import Derived.Test.YtdonndklddjfiaaDoorKAx6
namespace Go.Proofs.YtdonndklddjfiaaDoor.KA
open Go.RowKit Go.Proofs.YtdonndklddjfiaaDoorW.PrintWords Go.Proofs.YtdonndklddjfiaaDoorW.PrintLast Go.Proofs.YtdonndklddjfiaaDoorW.PrintMore
attribute [local go_sem] max2_int min2_int max_two min_two max_three min_three max_four min_four   -- for this text's walks alone
set_option linter.unusedVariables false
set_option linter.unusedSimpArgs false

/-! ### keystoneref04_Check: function 26 -/
mutual
def keystoneref04_Check.j0 : Nat → Bool → Int → Int → Bool → ByteArray → CPt → Option (Int)
  | 0, _, _, _, _, _, _ => none
  | k + 1, x3, x223000, x223001, x223002, x223003, x223004 => if x3 = true then (keystoneref04_Check.j1 k true x223000 x223001 x223002 x223003 x223004) else (if x223000 = 1 then (if x223000 = 2 then (if x223000 = 3 then (keystoneref04_Check.j1 k false x223000 x223001 x223002 x223003 x223004) else (keystoneref04_Check.j1 k (x223003.toList != ([] : List UInt8)) x223000 x223001 x223002 x223003 x223004)) else (if x223002 = true then (keystoneref04_Check.j1 k true x223000 x223001 x223002 x223003 x223004) else (if x223000 = 3 then (keystoneref04_Check.j1 k false x223000 x223001 x223002 x223003 x223004) else (keystoneref04_Check.j1 k (x223003.toList != ([] : List UInt8)) x223000 x223001 x223002 x223003 x223004)))) else (if x223001 = 0 then (if x223000 = 2 then (if x223000 = 3 then (keystoneref04_Check.j1 k false x223000 x223001 x223002 x223003 x223004) else (keystoneref04_Check.j1 k (x223003.toList != ([] : List UInt8)) x223000 x223001 x223002 x223003 x223004)) else (if x223002 = true then (keystoneref04_Check.j1 k true x223000 x223001 x223002 x223003 x223004) else (if x223000 = 3 then (keystoneref04_Check.j1 k false x223000 x223001 x223002 x223003 x223004) else (keystoneref04_Check.j1 k (x223003.toList != ([] : List UInt8)) x223000 x223001 x223002 x223003 x223004)))) else (keystoneref04_Check.j1 k true x223000 x223001 x223002 x223003 x223004)))
def keystoneref04_Check.j1 : Nat → Bool → Int → Int → Bool → ByteArray → CPt → Option (Int)
  | 0, _, _, _, _, _, _ => none
  | k + 1, x3, x223000, x223001, x223002, x223003, x223004 => if x3 = true then (keystoneref04_Check.j2 k true x223000 x223001 x223002 x223003 x223004) else (if x223000 = 4 then (keystoneref04_Check.j2 k false x223000 x223001 x223002 x223003 x223004) else (keystoneref04_Check.j2 k (!((FloatKind.f64.format.order x223004.re 0 == some .eq) && (FloatKind.f64.format.order x223004.im 0 == some .eq))) x223000 x223001 x223002 x223003 x223004))
def keystoneref04_Check.j2 : Nat → Bool → Int → Int → Bool → ByteArray → CPt → Option (Int)
  | 0, _, _, _, _, _, _ => none
  | k + 1, x3, x223000, x223001, x223002, x223003, x223004 => if x3 = true then (some 5) else (if (x223003.size : Int) > 4096 then (some 3) else (if x223000 = 4 then ((keystoneref04_whole.f x223004.re).bind fun t223 => (if t223 = true then ((keystoneref04_whole.f x223004.im).bind fun t224 => (if t224 = true then (some 0) else (some 43))) else (some 43))) else (some 0)))
end
def keystoneref04_Check.f (k : Nat) (a0_0 : Int) (a0_1 : Int) (a0_2 : Bool) (a0_3 : ByteArray) (a0_4 : CPt) : Option (Int) := if a0_0 < 1 then (keystoneref04_Check.j0 k true a0_0 a0_1 a0_2 a0_3 a0_4) else (keystoneref04_Check.j0 k (decide (a0_0 > 4)) a0_0 a0_1 a0_2 a0_3 a0_4)
theorem keystoneref04_Check.mono_l : ∀ k, (∀ y0 y1 y2 y3 y4 y5, LeO (keystoneref04_Check.j0 k y0 y1 y2 y3 y4 y5) (keystoneref04_Check.j0 (k + 1) y0 y1 y2 y3 y4 y5)) ∧ (∀ y0 y1 y2 y3 y4 y5, LeO (keystoneref04_Check.j1 k y0 y1 y2 y3 y4 y5) (keystoneref04_Check.j1 (k + 1) y0 y1 y2 y3 y4 y5)) ∧ (∀ y0 y1 y2 y3 y4 y5, LeO (keystoneref04_Check.j2 k y0 y1 y2 y3 y4 y5) (keystoneref04_Check.j2 (k + 1) y0 y1 y2 y3 y4 y5))
  | 0 => ⟨fun _ _ _ _ _ _ r h => by simp [keystoneref04_Check.j0] at h, fun _ _ _ _ _ _ r h => by simp [keystoneref04_Check.j1] at h, fun _ _ _ _ _ _ r h => by simp [keystoneref04_Check.j2] at h⟩
  | k + 1 => by
    obtain ⟨ih0, ih1, ih2⟩ := keystoneref04_Check.mono_l k
    refine ⟨?_, ?_, ?_⟩
    · intro y0 y1 y2 y3 y4 y5
      unfold keystoneref04_Check.j0
      repeat' first
      | (with_reducible exact ih0 _ _ _ _ _ _)
      | (with_reducible exact ih1 _ _ _ _ _ _)
      | (with_reducible exact ih2 _ _ _ _ _ _)
      | (with_reducible exact LeO.refl _)
      | (with_reducible exact LeO.none _)
      | (with_reducible refine LeO.ite ?_ ?_)
      | (with_reducible refine LeO.bind ?_ (fun _ => ?_))
      | exact ih0 _ _ _ _ _ _
      | exact ih1 _ _ _ _ _ _
      | exact ih2 _ _ _ _ _ _
      | exact LeO.none _
      | refine LeO.ite ?_ ?_
      | refine LeO.bind ?_ (fun _ => ?_)
    · intro y0 y1 y2 y3 y4 y5
      unfold keystoneref04_Check.j1
      repeat' first
      | (with_reducible exact ih0 _ _ _ _ _ _)
      | (with_reducible exact ih1 _ _ _ _ _ _)
      | (with_reducible exact ih2 _ _ _ _ _ _)
      | (with_reducible exact LeO.refl _)
      | (with_reducible exact LeO.none _)
      | (with_reducible refine LeO.ite ?_ ?_)
      | (with_reducible refine LeO.bind ?_ (fun _ => ?_))
      | exact ih0 _ _ _ _ _ _
      | exact ih1 _ _ _ _ _ _
      | exact ih2 _ _ _ _ _ _
      | exact LeO.none _
      | refine LeO.ite ?_ ?_
      | refine LeO.bind ?_ (fun _ => ?_)
    · intro y0 y1 y2 y3 y4 y5
      unfold keystoneref04_Check.j2
      repeat' first
      | (with_reducible exact ih0 _ _ _ _ _ _)
      | (with_reducible exact ih1 _ _ _ _ _ _)
      | (with_reducible exact ih2 _ _ _ _ _ _)
      | (with_reducible exact LeO.refl _)
      | (with_reducible exact LeO.none _)
      | (with_reducible refine LeO.ite ?_ ?_)
      | (with_reducible refine LeO.bind ?_ (fun _ => ?_))
      | exact ih0 _ _ _ _ _ _
      | exact ih1 _ _ _ _ _ _
      | exact ih2 _ _ _ _ _ _
      | exact LeO.none _
      | refine LeO.ite ?_ ?_
      | refine LeO.bind ?_ (fun _ => ?_)
theorem keystoneref04_Check.mono : ∀ a0 a1 a2 a3 a4 k, LeO (keystoneref04_Check.f k a0 a1 a2 a3 a4) (keystoneref04_Check.f (k + 1) a0 a1 a2 a3 a4) := by
  intro a0 a1 a2 a3 a4 k
  obtain ⟨ih0, ih1, ih2⟩ := keystoneref04_Check.mono_l k
  unfold keystoneref04_Check.f
  repeat' first
      | (with_reducible exact ih0 _ _ _ _ _ _)
      | (with_reducible exact ih1 _ _ _ _ _ _)
      | (with_reducible exact ih2 _ _ _ _ _ _)
      | (with_reducible exact LeO.refl _)
      | (with_reducible exact LeO.none _)
      | (with_reducible refine LeO.ite ?_ ?_)
      | (with_reducible refine LeO.bind ?_ (fun _ => ?_))
      | exact ih0 _ _ _ _ _ _
      | exact ih1 _ _ _ _ _ _
      | exact ih2 _ _ _ _ _ _
      | exact LeO.none _
      | refine LeO.ite ?_ ?_
      | refine LeO.bind ?_ (fun _ => ?_)
set_option maxHeartbeats 4000000 in
set_option maxRecDepth 100000 in
theorem keystoneref04_Check.calls (k : Nat) (a0_0 : Int) (a0_1 : Int) (a0_2 : Bool) (a0_3 : ByteArray) (a0_4 : CPt) (r : Int) (w : World) (h : keystoneref04_Check.f k a0_0 a0_1 a0_2 a0_3 a0_4 = some r) :
    Calls Tryd.prog 26 #[.agg #[.int .i64 a0_0, .int .i64 a0_1, .bool a0_2, .string a0_3, .complex .f64 a0_4.re a0_4.im]] w fun e w' => e = .returned (.int .i64 r) ∧ Below w.heap.size w w' := by
  have hu36 := Tryd.underlying36
  have HB := Aside0.mk (Below.refl w.heap.size w)
  have H : (if a0_0 < 1 then (keystoneref04_Check.j0 k true a0_0 a0_1 a0_2 a0_3 a0_4) else (keystoneref04_Check.j0 k (decide (a0_0 > 4)) a0_0 a0_1 a0_2 a0_3 a0_4)) = some r := h
  clear h
  have HC2 := Aside0.mk H
  clear H
  go_enter Tryd.func26, Tryd.ntmps26
  go_upto_region 1 with (first | ((with_reducible refine gate_dst (N := 1) rfl ?_); (try (refine gate_guard (by rfl) ?_; dsimp only)); refine box_event ?hg (N := 1) ?hd (cs := #[.int .i64 a0_0, .int .i64 a0_1, .bool a0_2, .string a0_3, .complex .f64 a0_4.re a0_4.im]) (t := 36) ?hr ?_; (case hd => rfl); (case hg => rfl); (case hr => first | (go_simp; done) | (go_simp; rfl)); intro gb222 hg w3 hbox hb; have n0_ := Aside0.mk (below_step (by repeat (first | (with_reducible first | exact HB.out | apply below_alloc | apply pw_below_drewN | apply below_drew1) | exact HB.out)) hb); have n1_ := Aside0.mk (hbox); have n2_ := Aside0.mk ((by rw [hg]; exact (below_size (by repeat (first | (with_reducible first | exact HB.out | apply below_alloc | apply pw_below_drewN | apply below_drew1) | exact HB.out))) : w.heap.size ≤ gb222)); have n3_ := Aside0.mk ((by rw [hg]; exact (below_size (by repeat (first | (with_reducible first | exact HB.out | apply below_alloc | apply pw_below_drewN | apply below_drew1) | exact HB.out))) : w.heap.size ≤ gb222)); clear HB; have HB := n0_; have BK222 := n1_; have GW222 := n2_; have GE222 := n3_; clear n0_ n1_ n2_ n3_; clear hb hbox hg))
  (try simp only [Act.put, List.setIfInBounds_toArray, List.set_cons_zero, List.set_cons_succ])
  go_cut [3] (fun v3 wc => ∃ (kq : Nat) (x3_1 : Bool), v3 = .bool x3_1 ∧ Aside0 (keystoneref04_Check.j0 kq x3_1 a0_0 a0_1 a0_2 a0_3 a0_4 = some r) ∧ Aside0 (kq ≤ k) ∧ Aside0 (wc.heap[gb222]? = some (.cells #[.int .i64 a0_0, .int .i64 a0_1, .bool a0_2, .string a0_3, .complex .f64 a0_4.re a0_4.im] 36 (0, 0))) ∧ Aside0 (Below w.heap.size w wc))
  case first =>
    have H := HC2.out
    clear HC2
    by_cases c4 : a0_0 < 1
    · rw [if_pos c4] at H
      have c4b0 : decide (a0_0 < 1) = true := decide_eq_true c4
      clear c4
      (first | rw [c4b0] | (simp only [i64_w, i32_w]; rw [c4b0]) | skip)
      have H' := Aside0.mk H
      clear H
      have hcz5_0 : w3.cell? ⟨gb222, 0, none⟩ = some (.int .i64 a0_0) := (blk_cell BK222.out 0).trans rfl
      have hcz5_1 : w3.cell? ⟨gb222, 1, none⟩ = some (.int .i64 a0_1) := (blk_cell BK222.out 1).trans rfl
      have hcz5_2 : w3.cell? ⟨gb222, 2, none⟩ = some (.bool a0_2) := (blk_cell BK222.out 2).trans rfl
      have hcz5_3 : w3.cell? ⟨gb222, 3, none⟩ = some (.string a0_3) := (blk_cell BK222.out 3).trans rfl
      have hcz5_4 : w3.cell? ⟨gb222, 4, none⟩ = some (.complex .f64 a0_4.re a0_4.im) := (blk_cell BK222.out 4).trans rfl
      have hfz5_0 := blk_frozen BK222.out 0
      have hfz5_1 := blk_frozen BK222.out 1
      have hfz5_2 := blk_frozen BK222.out 2
      have hfz5_3 := blk_frozen BK222.out 3
      have hfz5_4 := blk_frozen BK222.out 4
      go_wp2
      go_meet
      case rel => exact ⟨_, (true), (by first | rfl | (simp; done) | (simp [*]; done) | (generalize ByteArray.toList _ = z_; cases z_ <;> rfl)), H', ⟨by first | omega | exact Nat.le_refl _⟩, ⟨by (with_reducible repeat (first | refine blk_drewN ?_ _ | refine blk_drew ?_ | refine blk_alloc ?_ _)); exact BK222.out⟩, ⟨by repeat (first | (with_reducible first | exact HB.out | apply below_alloc | apply pw_below_drewN | apply below_drew1 | refine below_set ?_ GE222.out) | exact HB.out)⟩⟩
    rw [if_neg c4] at H
    have c4b0 : decide (a0_0 < 1) = false := decide_eq_false c4
    clear c4
    (first | rw [c4b0] | (simp only [i64_w, i32_w]; rw [c4b0]) | skip)
    have H' := Aside0.mk H
    clear H
    have hcz6_0 : w3.cell? ⟨gb222, 0, none⟩ = some (.int .i64 a0_0) := (blk_cell BK222.out 0).trans rfl
    have hcz6_1 : w3.cell? ⟨gb222, 1, none⟩ = some (.int .i64 a0_1) := (blk_cell BK222.out 1).trans rfl
    have hcz6_2 : w3.cell? ⟨gb222, 2, none⟩ = some (.bool a0_2) := (blk_cell BK222.out 2).trans rfl
    have hcz6_3 : w3.cell? ⟨gb222, 3, none⟩ = some (.string a0_3) := (blk_cell BK222.out 3).trans rfl
    have hcz6_4 : w3.cell? ⟨gb222, 4, none⟩ = some (.complex .f64 a0_4.re a0_4.im) := (blk_cell BK222.out 4).trans rfl
    have hfz6_0 := blk_frozen BK222.out 0
    have hfz6_1 := blk_frozen BK222.out 1
    have hfz6_2 := blk_frozen BK222.out 2
    have hfz6_3 := blk_frozen BK222.out 3
    have hfz6_4 := blk_frozen BK222.out 4
    go_wp2
    go_meet
    case rel => exact ⟨_, (decide (a0_0 > 4)), (by first | rfl | (simp; done) | (simp [*]; done) | (generalize ByteArray.toList _ = z_; cases z_ <;> rfl)), H', ⟨by first | omega | exact Nat.le_refl _⟩, ⟨by (with_reducible repeat (first | refine blk_drewN ?_ _ | refine blk_drew ?_ | refine blk_alloc ?_ _)); exact BK222.out⟩, ⟨by repeat (first | (with_reducible first | exact HB.out | apply below_alloc | apply pw_below_drewN | apply below_drew1 | refine below_set ?_ GE222.out) | exact HB.out)⟩⟩
  case rest =>
    clear HC2
    try clear c2
    try clear p2
    try clear c4
    try clear c4b0
    try clear hcz5_0
    try clear hcz5_1
    try clear hcz5_2
    try clear hcz5_3
    try clear hcz5_4
    try clear hcz6_0
    try clear hcz6_1
    try clear hcz6_2
    try clear hcz6_3
    try clear hcz6_4
    try clear hfz5_0
    try clear hfz5_1
    try clear hfz5_2
    try clear hfz5_3
    try clear hfz5_4
    try clear hfz6_0
    try clear hfz6_1
    try clear hfz6_2
    try clear hfz6_3
    try clear hfz6_4
    obtain ⟨kq, x3_1, rfl, HA, HJ1, BK222, HB⟩ := hcut
    cases kq with
    | zero => exact absurd HA.out (by simp [keystoneref04_Check.j0])
    | succ kj1 =>
      have H := HA.out
      clear HA
      simp only [keystoneref04_Check.j0] at H
      have HC7 := Aside0.mk H
      clear H
      go_upto_region 2 with (fail)
      go_cut [3] (fun v3 wc => ∃ (kq : Nat) (x3_6 : Bool), v3 = .bool x3_6 ∧ Aside0 (keystoneref04_Check.j1 kq x3_6 a0_0 a0_1 a0_2 a0_3 a0_4 = some r) ∧ Aside0 (kq ≤ kj1) ∧ Aside0 (wc.heap[gb222]? = some (.cells #[.int .i64 a0_0, .int .i64 a0_1, .bool a0_2, .string a0_3, .complex .f64 a0_4.re a0_4.im] 36 (0, 0))) ∧ Aside0 (Below w.heap.size w wc))
      case first =>
        have H := HC7.out
        clear HC7
        by_cases c8 : x3_1 = true
        · subst c8
          have H1 : (keystoneref04_Check.j1 kj1 true a0_0 a0_1 a0_2 a0_3 a0_4) = some r := by rw [if_pos rfl] at H; exact H
          clear H
          have H := H1
          clear H1
          have H' := Aside0.mk H
          clear H
          go_wp2
          go_meet
          case rel => exact ⟨_, (true), (by first | rfl | (simp; done) | (simp [*]; done) | (generalize ByteArray.toList _ = z_; cases z_ <;> rfl)), H', ⟨by have := HJ1.out; first | omega | exact Nat.le_refl _⟩, ⟨by (with_reducible repeat (first | refine blk_drewN ?_ _ | refine blk_drew ?_ | refine blk_alloc ?_ _)); exact BK222.out⟩, ⟨by repeat (first | (with_reducible first | exact HB.out | apply below_alloc | apply pw_below_drewN | apply below_drew1 | refine below_set ?_ GE222.out) | exact HB.out)⟩⟩
        replace c8 := Bool.eq_false_iff.mpr c8
        subst c8
        have H1 : (if a0_0 = 1 then (if a0_0 = 2 then (if a0_0 = 3 then (keystoneref04_Check.j1 kj1 false a0_0 a0_1 a0_2 a0_3 a0_4) else (keystoneref04_Check.j1 kj1 (a0_3.toList != ([] : List UInt8)) a0_0 a0_1 a0_2 a0_3 a0_4)) else (if a0_2 = true then (keystoneref04_Check.j1 kj1 true a0_0 a0_1 a0_2 a0_3 a0_4) else (if a0_0 = 3 then (keystoneref04_Check.j1 kj1 false a0_0 a0_1 a0_2 a0_3 a0_4) else (keystoneref04_Check.j1 kj1 (a0_3.toList != ([] : List UInt8)) a0_0 a0_1 a0_2 a0_3 a0_4)))) else (if a0_1 = 0 then (if a0_0 = 2 then (if a0_0 = 3 then (keystoneref04_Check.j1 kj1 false a0_0 a0_1 a0_2 a0_3 a0_4) else (keystoneref04_Check.j1 kj1 (a0_3.toList != ([] : List UInt8)) a0_0 a0_1 a0_2 a0_3 a0_4)) else (if a0_2 = true then (keystoneref04_Check.j1 kj1 true a0_0 a0_1 a0_2 a0_3 a0_4) else (if a0_0 = 3 then (keystoneref04_Check.j1 kj1 false a0_0 a0_1 a0_2 a0_3 a0_4) else (keystoneref04_Check.j1 kj1 (a0_3.toList != ([] : List UInt8)) a0_0 a0_1 a0_2 a0_3 a0_4)))) else (keystoneref04_Check.j1 kj1 true a0_0 a0_1 a0_2 a0_3 a0_4))) = some r := by rw [if_neg (show ¬ (false = true) by decide)] at H; exact H
        clear H
        have H := H1
        clear H1
        by_cases c9 : a0_0 = 1
        · rw [if_pos c9] at H
          have c9b0 : (a0_0 == 1) = true := beq_iff_eq.mpr c9
          have c9b1 : (a0_0 != 1) = false := bne_eq_false_iff_eq.mpr c9
          clear c9
          (first | rw [c9b0] | (simp only [i64_w, i32_w]; rw [c9b0]) | skip)
          by_cases c10 : a0_0 = 2
          · rw [if_pos c10] at H
            have c10b0 : (a0_0 == 2) = true := beq_iff_eq.mpr c10
            have c10b1 : (a0_0 != 2) = false := bne_eq_false_iff_eq.mpr c10
            clear c10
            by_cases c11 : a0_0 = 3
            rotate_left
            · rw [if_neg c11] at H
              have c11b0 : (a0_0 == 3) = false := beq_eq_false_iff_ne.mpr c11
              have c11b1 : (a0_0 != 3) = true := bne_iff_ne.mpr c11
              have H' := Aside0.mk H
              clear H
              have hcz13_0 : wc.cell? ⟨gb222, 0, none⟩ = some (.int .i64 a0_0) := (blk_cell BK222.out 0).trans rfl
              have hcz13_1 : wc.cell? ⟨gb222, 1, none⟩ = some (.int .i64 a0_1) := (blk_cell BK222.out 1).trans rfl
              have hcz13_2 : wc.cell? ⟨gb222, 2, none⟩ = some (.bool a0_2) := (blk_cell BK222.out 2).trans rfl
              have hcz13_3 : wc.cell? ⟨gb222, 3, none⟩ = some (.string a0_3) := (blk_cell BK222.out 3).trans rfl
              have hcz13_4 : wc.cell? ⟨gb222, 4, none⟩ = some (.complex .f64 a0_4.re a0_4.im) := (blk_cell BK222.out 4).trans rfl
              have hfz13_0 := blk_frozen BK222.out 0
              have hfz13_1 := blk_frozen BK222.out 1
              have hfz13_2 := blk_frozen BK222.out 2
              have hfz13_3 := blk_frozen BK222.out 3
              have hfz13_4 := blk_frozen BK222.out 4
              go_wp2
              go_meet
              case rel => exact ⟨_, ((a0_3.toList != ([] : List UInt8))), (by first | rfl | (simp; done) | (simp [*]; done) | (generalize ByteArray.toList _ = z_; cases z_ <;> rfl)), H', ⟨by have := HJ1.out; first | omega | exact Nat.le_refl _⟩, ⟨by (with_reducible repeat (first | refine blk_drewN ?_ _ | refine blk_drew ?_ | refine blk_alloc ?_ _)); exact BK222.out⟩, ⟨by repeat (first | (with_reducible first | exact HB.out | apply below_alloc | apply pw_below_drewN | apply below_drew1 | refine below_set ?_ GE222.out) | exact HB.out)⟩⟩
            rw [if_pos c11] at H
            have c11b0 : (a0_0 == 3) = true := beq_iff_eq.mpr c11
            have c11b1 : (a0_0 != 3) = false := bne_eq_false_iff_eq.mpr c11
            clear c11
            have H' := Aside0.mk H
            clear H
            have hcz12_0 : wc.cell? ⟨gb222, 0, none⟩ = some (.int .i64 a0_0) := (blk_cell BK222.out 0).trans rfl
            have hcz12_1 : wc.cell? ⟨gb222, 1, none⟩ = some (.int .i64 a0_1) := (blk_cell BK222.out 1).trans rfl
            have hcz12_2 : wc.cell? ⟨gb222, 2, none⟩ = some (.bool a0_2) := (blk_cell BK222.out 2).trans rfl
            have hcz12_3 : wc.cell? ⟨gb222, 3, none⟩ = some (.string a0_3) := (blk_cell BK222.out 3).trans rfl
            have hcz12_4 : wc.cell? ⟨gb222, 4, none⟩ = some (.complex .f64 a0_4.re a0_4.im) := (blk_cell BK222.out 4).trans rfl
            have hfz12_0 := blk_frozen BK222.out 0
            have hfz12_1 := blk_frozen BK222.out 1
            have hfz12_2 := blk_frozen BK222.out 2
            have hfz12_3 := blk_frozen BK222.out 3
            have hfz12_4 := blk_frozen BK222.out 4
            go_wp2
            go_meet
            case rel => exact ⟨_, (false), (by first | rfl | (simp; done) | (simp [*]; done) | (generalize ByteArray.toList _ = z_; cases z_ <;> rfl)), H', ⟨by have := HJ1.out; first | omega | exact Nat.le_refl _⟩, ⟨by (with_reducible repeat (first | refine blk_drewN ?_ _ | refine blk_drew ?_ | refine blk_alloc ?_ _)); exact BK222.out⟩, ⟨by repeat (first | (with_reducible first | exact HB.out | apply below_alloc | apply pw_below_drewN | apply below_drew1 | refine below_set ?_ GE222.out) | exact HB.out)⟩⟩
          rw [if_neg c10] at H
          have c10b0 : (a0_0 == 2) = false := beq_eq_false_iff_ne.mpr c10
          have c10b1 : (a0_0 != 2) = true := bne_iff_ne.mpr c10
          by_cases c14 : a0_2 = true
          · subst c14
            have H1 : (keystoneref04_Check.j1 kj1 true a0_0 a0_1 true a0_3 a0_4) = some r := by rw [if_pos rfl] at H; exact H
            clear H
            have H := H1
            clear H1
            have H' := Aside0.mk H
            clear H
            have hcz15_0 : wc.cell? ⟨gb222, 0, none⟩ = some (.int .i64 a0_0) := (blk_cell BK222.out 0).trans rfl
            have hcz15_1 : wc.cell? ⟨gb222, 1, none⟩ = some (.int .i64 a0_1) := (blk_cell BK222.out 1).trans rfl
            have hcz15_2 : wc.cell? ⟨gb222, 2, none⟩ = some (.bool true) := (blk_cell BK222.out 2).trans rfl
            have hcz15_3 : wc.cell? ⟨gb222, 3, none⟩ = some (.string a0_3) := (blk_cell BK222.out 3).trans rfl
            have hcz15_4 : wc.cell? ⟨gb222, 4, none⟩ = some (.complex .f64 a0_4.re a0_4.im) := (blk_cell BK222.out 4).trans rfl
            have hfz15_0 := blk_frozen BK222.out 0
            have hfz15_1 := blk_frozen BK222.out 1
            have hfz15_2 := blk_frozen BK222.out 2
            have hfz15_3 := blk_frozen BK222.out 3
            have hfz15_4 := blk_frozen BK222.out 4
            go_wp2
            go_meet
            case rel => exact ⟨_, (true), (by first | rfl | (simp; done) | (simp [*]; done) | (generalize ByteArray.toList _ = z_; cases z_ <;> rfl)), H', ⟨by have := HJ1.out; first | omega | exact Nat.le_refl _⟩, ⟨by (with_reducible repeat (first | refine blk_drewN ?_ _ | refine blk_drew ?_ | refine blk_alloc ?_ _)); exact BK222.out⟩, ⟨by repeat (first | (with_reducible first | exact HB.out | apply below_alloc | apply pw_below_drewN | apply below_drew1 | refine below_set ?_ GE222.out) | exact HB.out)⟩⟩
          replace c14 := Bool.eq_false_iff.mpr c14
          subst c14
          have H1 : (if a0_0 = 3 then (keystoneref04_Check.j1 kj1 false a0_0 a0_1 false a0_3 a0_4) else (keystoneref04_Check.j1 kj1 (a0_3.toList != ([] : List UInt8)) a0_0 a0_1 false a0_3 a0_4)) = some r := by rw [if_neg (show ¬ (false = true) by decide)] at H; exact H
          clear H
          have H := H1
          clear H1
          by_cases c16 : a0_0 = 3
          rotate_left
          · rw [if_neg c16] at H
            have c16b0 : (a0_0 == 3) = false := beq_eq_false_iff_ne.mpr c16
            have c16b1 : (a0_0 != 3) = true := bne_iff_ne.mpr c16
            have H' := Aside0.mk H
            clear H
            have hcz18_0 : wc.cell? ⟨gb222, 0, none⟩ = some (.int .i64 a0_0) := (blk_cell BK222.out 0).trans rfl
            have hcz18_1 : wc.cell? ⟨gb222, 1, none⟩ = some (.int .i64 a0_1) := (blk_cell BK222.out 1).trans rfl
            have hcz18_2 : wc.cell? ⟨gb222, 2, none⟩ = some (.bool false) := (blk_cell BK222.out 2).trans rfl
            have hcz18_3 : wc.cell? ⟨gb222, 3, none⟩ = some (.string a0_3) := (blk_cell BK222.out 3).trans rfl
            have hcz18_4 : wc.cell? ⟨gb222, 4, none⟩ = some (.complex .f64 a0_4.re a0_4.im) := (blk_cell BK222.out 4).trans rfl
            have hfz18_0 := blk_frozen BK222.out 0
            have hfz18_1 := blk_frozen BK222.out 1
            have hfz18_2 := blk_frozen BK222.out 2
            have hfz18_3 := blk_frozen BK222.out 3
            have hfz18_4 := blk_frozen BK222.out 4
            go_wp2
            go_meet
            case rel => exact ⟨_, ((a0_3.toList != ([] : List UInt8))), (by first | rfl | (simp; done) | (simp [*]; done) | (generalize ByteArray.toList _ = z_; cases z_ <;> rfl)), H', ⟨by have := HJ1.out; first | omega | exact Nat.le_refl _⟩, ⟨by (with_reducible repeat (first | refine blk_drewN ?_ _ | refine blk_drew ?_ | refine blk_alloc ?_ _)); exact BK222.out⟩, ⟨by repeat (first | (with_reducible first | exact HB.out | apply below_alloc | apply pw_below_drewN | apply below_drew1 | refine below_set ?_ GE222.out) | exact HB.out)⟩⟩
          rw [if_pos c16] at H
          have c16b0 : (a0_0 == 3) = true := beq_iff_eq.mpr c16
          have c16b1 : (a0_0 != 3) = false := bne_eq_false_iff_eq.mpr c16
          clear c16
          have H' := Aside0.mk H
          clear H
          have hcz17_0 : wc.cell? ⟨gb222, 0, none⟩ = some (.int .i64 a0_0) := (blk_cell BK222.out 0).trans rfl
          have hcz17_1 : wc.cell? ⟨gb222, 1, none⟩ = some (.int .i64 a0_1) := (blk_cell BK222.out 1).trans rfl
          have hcz17_2 : wc.cell? ⟨gb222, 2, none⟩ = some (.bool false) := (blk_cell BK222.out 2).trans rfl
          have hcz17_3 : wc.cell? ⟨gb222, 3, none⟩ = some (.string a0_3) := (blk_cell BK222.out 3).trans rfl
          have hcz17_4 : wc.cell? ⟨gb222, 4, none⟩ = some (.complex .f64 a0_4.re a0_4.im) := (blk_cell BK222.out 4).trans rfl
          have hfz17_0 := blk_frozen BK222.out 0
          have hfz17_1 := blk_frozen BK222.out 1
          have hfz17_2 := blk_frozen BK222.out 2
          have hfz17_3 := blk_frozen BK222.out 3
          have hfz17_4 := blk_frozen BK222.out 4
          go_wp2
          go_meet
          case rel => exact ⟨_, (false), (by first | rfl | (simp; done) | (simp [*]; done) | (generalize ByteArray.toList _ = z_; cases z_ <;> rfl)), H', ⟨by have := HJ1.out; first | omega | exact Nat.le_refl _⟩, ⟨by (with_reducible repeat (first | refine blk_drewN ?_ _ | refine blk_drew ?_ | refine blk_alloc ?_ _)); exact BK222.out⟩, ⟨by repeat (first | (with_reducible first | exact HB.out | apply below_alloc | apply pw_below_drewN | apply below_drew1 | refine below_set ?_ GE222.out) | exact HB.out)⟩⟩
        rw [if_neg c9] at H
        have c9b0 : (a0_0 == 1) = false := beq_eq_false_iff_ne.mpr c9
        have c9b1 : (a0_0 != 1) = true := bne_iff_ne.mpr c9
        (first | rw [c9b0] | (simp only [i64_w, i32_w]; rw [c9b0]) | skip)
        by_cases c19 : a0_1 = 0
        rotate_left
        · rw [if_neg c19] at H
          have c19b0 : (a0_1 == 0) = false := beq_eq_false_iff_ne.mpr c19
          have c19b1 : (a0_1 != 0) = true := bne_iff_ne.mpr c19
          have H' := Aside0.mk H
          clear H
          have hcz29_0 : wc.cell? ⟨gb222, 0, none⟩ = some (.int .i64 a0_0) := (blk_cell BK222.out 0).trans rfl
          have hcz29_1 : wc.cell? ⟨gb222, 1, none⟩ = some (.int .i64 a0_1) := (blk_cell BK222.out 1).trans rfl
          have hcz29_2 : wc.cell? ⟨gb222, 2, none⟩ = some (.bool a0_2) := (blk_cell BK222.out 2).trans rfl
          have hcz29_3 : wc.cell? ⟨gb222, 3, none⟩ = some (.string a0_3) := (blk_cell BK222.out 3).trans rfl
          have hcz29_4 : wc.cell? ⟨gb222, 4, none⟩ = some (.complex .f64 a0_4.re a0_4.im) := (blk_cell BK222.out 4).trans rfl
          have hfz29_0 := blk_frozen BK222.out 0
          have hfz29_1 := blk_frozen BK222.out 1
          have hfz29_2 := blk_frozen BK222.out 2
          have hfz29_3 := blk_frozen BK222.out 3
          have hfz29_4 := blk_frozen BK222.out 4
          go_wp2
          go_meet
          case rel => exact ⟨_, (true), (by first | rfl | (simp; done) | (simp [*]; done) | (generalize ByteArray.toList _ = z_; cases z_ <;> rfl)), H', ⟨by have := HJ1.out; first | omega | exact Nat.le_refl _⟩, ⟨by (with_reducible repeat (first | refine blk_drewN ?_ _ | refine blk_drew ?_ | refine blk_alloc ?_ _)); exact BK222.out⟩, ⟨by repeat (first | (with_reducible first | exact HB.out | apply below_alloc | apply pw_below_drewN | apply below_drew1 | refine below_set ?_ GE222.out) | exact HB.out)⟩⟩
        rw [if_pos c19] at H
        have c19b0 : (a0_1 == 0) = true := beq_iff_eq.mpr c19
        have c19b1 : (a0_1 != 0) = false := bne_eq_false_iff_eq.mpr c19
        clear c19
        by_cases c20 : a0_0 = 2
        · rw [if_pos c20] at H
          have c20b0 : (a0_0 == 2) = true := beq_iff_eq.mpr c20
          have c20b1 : (a0_0 != 2) = false := bne_eq_false_iff_eq.mpr c20
          clear c20
          by_cases c21 : a0_0 = 3
          rotate_left
          · rw [if_neg c21] at H
            have c21b0 : (a0_0 == 3) = false := beq_eq_false_iff_ne.mpr c21
            have c21b1 : (a0_0 != 3) = true := bne_iff_ne.mpr c21
            have H' := Aside0.mk H
            clear H
            have hcz23_0 : wc.cell? ⟨gb222, 0, none⟩ = some (.int .i64 a0_0) := (blk_cell BK222.out 0).trans rfl
            have hcz23_1 : wc.cell? ⟨gb222, 1, none⟩ = some (.int .i64 a0_1) := (blk_cell BK222.out 1).trans rfl
            have hcz23_2 : wc.cell? ⟨gb222, 2, none⟩ = some (.bool a0_2) := (blk_cell BK222.out 2).trans rfl
            have hcz23_3 : wc.cell? ⟨gb222, 3, none⟩ = some (.string a0_3) := (blk_cell BK222.out 3).trans rfl
            have hcz23_4 : wc.cell? ⟨gb222, 4, none⟩ = some (.complex .f64 a0_4.re a0_4.im) := (blk_cell BK222.out 4).trans rfl
            have hfz23_0 := blk_frozen BK222.out 0
            have hfz23_1 := blk_frozen BK222.out 1
            have hfz23_2 := blk_frozen BK222.out 2
            have hfz23_3 := blk_frozen BK222.out 3
            have hfz23_4 := blk_frozen BK222.out 4
            go_wp2
            go_meet
            case rel => exact ⟨_, ((a0_3.toList != ([] : List UInt8))), (by first | rfl | (simp; done) | (simp [*]; done) | (generalize ByteArray.toList _ = z_; cases z_ <;> rfl)), H', ⟨by have := HJ1.out; first | omega | exact Nat.le_refl _⟩, ⟨by (with_reducible repeat (first | refine blk_drewN ?_ _ | refine blk_drew ?_ | refine blk_alloc ?_ _)); exact BK222.out⟩, ⟨by repeat (first | (with_reducible first | exact HB.out | apply below_alloc | apply pw_below_drewN | apply below_drew1 | refine below_set ?_ GE222.out) | exact HB.out)⟩⟩
          rw [if_pos c21] at H
          have c21b0 : (a0_0 == 3) = true := beq_iff_eq.mpr c21
          have c21b1 : (a0_0 != 3) = false := bne_eq_false_iff_eq.mpr c21
          clear c21
          have H' := Aside0.mk H
          clear H
          have hcz22_0 : wc.cell? ⟨gb222, 0, none⟩ = some (.int .i64 a0_0) := (blk_cell BK222.out 0).trans rfl
          have hcz22_1 : wc.cell? ⟨gb222, 1, none⟩ = some (.int .i64 a0_1) := (blk_cell BK222.out 1).trans rfl
          have hcz22_2 : wc.cell? ⟨gb222, 2, none⟩ = some (.bool a0_2) := (blk_cell BK222.out 2).trans rfl
          have hcz22_3 : wc.cell? ⟨gb222, 3, none⟩ = some (.string a0_3) := (blk_cell BK222.out 3).trans rfl
          have hcz22_4 : wc.cell? ⟨gb222, 4, none⟩ = some (.complex .f64 a0_4.re a0_4.im) := (blk_cell BK222.out 4).trans rfl
          have hfz22_0 := blk_frozen BK222.out 0
          have hfz22_1 := blk_frozen BK222.out 1
          have hfz22_2 := blk_frozen BK222.out 2
          have hfz22_3 := blk_frozen BK222.out 3
          have hfz22_4 := blk_frozen BK222.out 4
          go_wp2
          go_meet
          case rel => exact ⟨_, (false), (by first | rfl | (simp; done) | (simp [*]; done) | (generalize ByteArray.toList _ = z_; cases z_ <;> rfl)), H', ⟨by have := HJ1.out; first | omega | exact Nat.le_refl _⟩, ⟨by (with_reducible repeat (first | refine blk_drewN ?_ _ | refine blk_drew ?_ | refine blk_alloc ?_ _)); exact BK222.out⟩, ⟨by repeat (first | (with_reducible first | exact HB.out | apply below_alloc | apply pw_below_drewN | apply below_drew1 | refine below_set ?_ GE222.out) | exact HB.out)⟩⟩
        rw [if_neg c20] at H
        have c20b0 : (a0_0 == 2) = false := beq_eq_false_iff_ne.mpr c20
        have c20b1 : (a0_0 != 2) = true := bne_iff_ne.mpr c20
        by_cases c24 : a0_2 = true
        · subst c24
          have H1 : (keystoneref04_Check.j1 kj1 true a0_0 a0_1 true a0_3 a0_4) = some r := by rw [if_pos rfl] at H; exact H
          clear H
          have H := H1
          clear H1
          have H' := Aside0.mk H
          clear H
          have hcz25_0 : wc.cell? ⟨gb222, 0, none⟩ = some (.int .i64 a0_0) := (blk_cell BK222.out 0).trans rfl
          have hcz25_1 : wc.cell? ⟨gb222, 1, none⟩ = some (.int .i64 a0_1) := (blk_cell BK222.out 1).trans rfl
          have hcz25_2 : wc.cell? ⟨gb222, 2, none⟩ = some (.bool true) := (blk_cell BK222.out 2).trans rfl
          have hcz25_3 : wc.cell? ⟨gb222, 3, none⟩ = some (.string a0_3) := (blk_cell BK222.out 3).trans rfl
          have hcz25_4 : wc.cell? ⟨gb222, 4, none⟩ = some (.complex .f64 a0_4.re a0_4.im) := (blk_cell BK222.out 4).trans rfl
          have hfz25_0 := blk_frozen BK222.out 0
          have hfz25_1 := blk_frozen BK222.out 1
          have hfz25_2 := blk_frozen BK222.out 2
          have hfz25_3 := blk_frozen BK222.out 3
          have hfz25_4 := blk_frozen BK222.out 4
          go_wp2
          go_meet
          case rel => exact ⟨_, (true), (by first | rfl | (simp; done) | (simp [*]; done) | (generalize ByteArray.toList _ = z_; cases z_ <;> rfl)), H', ⟨by have := HJ1.out; first | omega | exact Nat.le_refl _⟩, ⟨by (with_reducible repeat (first | refine blk_drewN ?_ _ | refine blk_drew ?_ | refine blk_alloc ?_ _)); exact BK222.out⟩, ⟨by repeat (first | (with_reducible first | exact HB.out | apply below_alloc | apply pw_below_drewN | apply below_drew1 | refine below_set ?_ GE222.out) | exact HB.out)⟩⟩
        replace c24 := Bool.eq_false_iff.mpr c24
        subst c24
        have H1 : (if a0_0 = 3 then (keystoneref04_Check.j1 kj1 false a0_0 a0_1 false a0_3 a0_4) else (keystoneref04_Check.j1 kj1 (a0_3.toList != ([] : List UInt8)) a0_0 a0_1 false a0_3 a0_4)) = some r := by rw [if_neg (show ¬ (false = true) by decide)] at H; exact H
        clear H
        have H := H1
        clear H1
        by_cases c26 : a0_0 = 3
        rotate_left
        · rw [if_neg c26] at H
          have c26b0 : (a0_0 == 3) = false := beq_eq_false_iff_ne.mpr c26
          have c26b1 : (a0_0 != 3) = true := bne_iff_ne.mpr c26
          have H' := Aside0.mk H
          clear H
          have hcz28_0 : wc.cell? ⟨gb222, 0, none⟩ = some (.int .i64 a0_0) := (blk_cell BK222.out 0).trans rfl
          have hcz28_1 : wc.cell? ⟨gb222, 1, none⟩ = some (.int .i64 a0_1) := (blk_cell BK222.out 1).trans rfl
          have hcz28_2 : wc.cell? ⟨gb222, 2, none⟩ = some (.bool false) := (blk_cell BK222.out 2).trans rfl
          have hcz28_3 : wc.cell? ⟨gb222, 3, none⟩ = some (.string a0_3) := (blk_cell BK222.out 3).trans rfl
          have hcz28_4 : wc.cell? ⟨gb222, 4, none⟩ = some (.complex .f64 a0_4.re a0_4.im) := (blk_cell BK222.out 4).trans rfl
          have hfz28_0 := blk_frozen BK222.out 0
          have hfz28_1 := blk_frozen BK222.out 1
          have hfz28_2 := blk_frozen BK222.out 2
          have hfz28_3 := blk_frozen BK222.out 3
          have hfz28_4 := blk_frozen BK222.out 4
          go_wp2
          go_meet
          case rel => exact ⟨_, ((a0_3.toList != ([] : List UInt8))), (by first | rfl | (simp; done) | (simp [*]; done) | (generalize ByteArray.toList _ = z_; cases z_ <;> rfl)), H', ⟨by have := HJ1.out; first | omega | exact Nat.le_refl _⟩, ⟨by (with_reducible repeat (first | refine blk_drewN ?_ _ | refine blk_drew ?_ | refine blk_alloc ?_ _)); exact BK222.out⟩, ⟨by repeat (first | (with_reducible first | exact HB.out | apply below_alloc | apply pw_below_drewN | apply below_drew1 | refine below_set ?_ GE222.out) | exact HB.out)⟩⟩
        rw [if_pos c26] at H
        have c26b0 : (a0_0 == 3) = true := beq_iff_eq.mpr c26
        have c26b1 : (a0_0 != 3) = false := bne_eq_false_iff_eq.mpr c26
        clear c26
        have H' := Aside0.mk H
        clear H
        have hcz27_0 : wc.cell? ⟨gb222, 0, none⟩ = some (.int .i64 a0_0) := (blk_cell BK222.out 0).trans rfl
        have hcz27_1 : wc.cell? ⟨gb222, 1, none⟩ = some (.int .i64 a0_1) := (blk_cell BK222.out 1).trans rfl
        have hcz27_2 : wc.cell? ⟨gb222, 2, none⟩ = some (.bool false) := (blk_cell BK222.out 2).trans rfl
        have hcz27_3 : wc.cell? ⟨gb222, 3, none⟩ = some (.string a0_3) := (blk_cell BK222.out 3).trans rfl
        have hcz27_4 : wc.cell? ⟨gb222, 4, none⟩ = some (.complex .f64 a0_4.re a0_4.im) := (blk_cell BK222.out 4).trans rfl
        have hfz27_0 := blk_frozen BK222.out 0
        have hfz27_1 := blk_frozen BK222.out 1
        have hfz27_2 := blk_frozen BK222.out 2
        have hfz27_3 := blk_frozen BK222.out 3
        have hfz27_4 := blk_frozen BK222.out 4
        go_wp2
        go_meet
        case rel => exact ⟨_, (false), (by first | rfl | (simp; done) | (simp [*]; done) | (generalize ByteArray.toList _ = z_; cases z_ <;> rfl)), H', ⟨by have := HJ1.out; first | omega | exact Nat.le_refl _⟩, ⟨by (with_reducible repeat (first | refine blk_drewN ?_ _ | refine blk_drew ?_ | refine blk_alloc ?_ _)); exact BK222.out⟩, ⟨by repeat (first | (with_reducible first | exact HB.out | apply below_alloc | apply pw_below_drewN | apply below_drew1 | refine below_set ?_ GE222.out) | exact HB.out)⟩⟩
      case rest =>
        clear HC7
        try clear c1
        try clear c2
        try clear p2
        try clear c4
        try clear c4b0
        try clear c8
        try clear c9
        try clear c9b0
        try clear c9b1
        try clear c10
        try clear c10b0
        try clear c10b1
        try clear c11
        try clear c11b0
        try clear c11b1
        try clear c14
        try clear c16
        try clear c16b0
        try clear c16b1
        try clear c19
        try clear c19b0
        try clear c19b1
        try clear c20
        try clear c20b0
        try clear c20b1
        try clear c21
        try clear c21b0
        try clear c21b1
        try clear c24
        try clear c26
        try clear c26b0
        try clear c26b1
        try clear hcz12_0
        try clear hcz12_1
        try clear hcz12_2
        try clear hcz12_3
        try clear hcz12_4
        try clear hcz13_0
        try clear hcz13_1
        try clear hcz13_2
        try clear hcz13_3
        try clear hcz13_4
        try clear hcz15_0
        try clear hcz15_1
        try clear hcz15_2
        try clear hcz15_3
        try clear hcz15_4
        try clear hcz17_0
        try clear hcz17_1
        try clear hcz17_2
        try clear hcz17_3
        try clear hcz17_4
        try clear hcz18_0
        try clear hcz18_1
        try clear hcz18_2
        try clear hcz18_3
        try clear hcz18_4
        try clear hcz22_0
        try clear hcz22_1
        try clear hcz22_2
        try clear hcz22_3
        try clear hcz22_4
        try clear hcz23_0
        try clear hcz23_1
        try clear hcz23_2
        try clear hcz23_3
        try clear hcz23_4
        try clear hcz25_0
        try clear hcz25_1
        try clear hcz25_2
        try clear hcz25_3
        try clear hcz25_4
        try clear hcz27_0
        try clear hcz27_1
        try clear hcz27_2
        try clear hcz27_3
        try clear hcz27_4
        try clear hcz28_0
        try clear hcz28_1
        try clear hcz28_2
        try clear hcz28_3
        try clear hcz28_4
        try clear hcz29_0
        try clear hcz29_1
        try clear hcz29_2
        try clear hcz29_3
        try clear hcz29_4
        try clear hcz5_0
        try clear hcz5_1
        try clear hcz5_2
        try clear hcz5_3
        try clear hcz5_4
        try clear hcz6_0
        try clear hcz6_1
        try clear hcz6_2
        try clear hcz6_3
        try clear hcz6_4
        try clear hfz12_0
        try clear hfz12_1
        try clear hfz12_2
        try clear hfz12_3
        try clear hfz12_4
        try clear hfz13_0
        try clear hfz13_1
        try clear hfz13_2
        try clear hfz13_3
        try clear hfz13_4
        try clear hfz15_0
        try clear hfz15_1
        try clear hfz15_2
        try clear hfz15_3
        try clear hfz15_4
        try clear hfz17_0
        try clear hfz17_1
        try clear hfz17_2
        try clear hfz17_3
        try clear hfz17_4
        try clear hfz18_0
        try clear hfz18_1
        try clear hfz18_2
        try clear hfz18_3
        try clear hfz18_4
        try clear hfz22_0
        try clear hfz22_1
        try clear hfz22_2
        try clear hfz22_3
        try clear hfz22_4
        try clear hfz23_0
        try clear hfz23_1
        try clear hfz23_2
        try clear hfz23_3
        try clear hfz23_4
        try clear hfz25_0
        try clear hfz25_1
        try clear hfz25_2
        try clear hfz25_3
        try clear hfz25_4
        try clear hfz27_0
        try clear hfz27_1
        try clear hfz27_2
        try clear hfz27_3
        try clear hfz27_4
        try clear hfz28_0
        try clear hfz28_1
        try clear hfz28_2
        try clear hfz28_3
        try clear hfz28_4
        try clear hfz29_0
        try clear hfz29_1
        try clear hfz29_2
        try clear hfz29_3
        try clear hfz29_4
        try clear hfz5_0
        try clear hfz5_1
        try clear hfz5_2
        try clear hfz5_3
        try clear hfz5_4
        try clear hfz6_0
        try clear hfz6_1
        try clear hfz6_2
        try clear hfz6_3
        try clear hfz6_4
        try clear p2
        obtain ⟨kq, x3_6, rfl, HA, HJ6, BK222, HB⟩ := hcut
        cases kq with
        | zero => exact absurd HA.out (by simp [keystoneref04_Check.j1])
        | succ kj6 =>
          have H := HA.out
          clear HA
          simp only [keystoneref04_Check.j1] at H
          have HC30 := Aside0.mk H
          clear H
          go_upto_region 3 with (fail)
          go_cut [3] (fun v3 wc => ∃ (kq : Nat) (x3_29 : Bool), v3 = .bool x3_29 ∧ Aside0 (keystoneref04_Check.j2 kq x3_29 a0_0 a0_1 a0_2 a0_3 a0_4 = some r) ∧ Aside0 (kq ≤ kj6) ∧ Aside0 (wc.heap[gb222]? = some (.cells #[.int .i64 a0_0, .int .i64 a0_1, .bool a0_2, .string a0_3, .complex .f64 a0_4.re a0_4.im] 36 (0, 0))) ∧ Aside0 (Below w.heap.size w wc))
          case first =>
            have H := HC30.out
            clear HC30
            by_cases c31 : x3_6 = true
            · subst c31
              have H1 : (keystoneref04_Check.j2 kj6 true a0_0 a0_1 a0_2 a0_3 a0_4) = some r := by rw [if_pos rfl] at H; exact H
              clear H
              have H := H1
              clear H1
              have H' := Aside0.mk H
              clear H
              go_wp2
              go_meet
              case rel => exact ⟨_, (true), (by first | rfl | (simp; done) | (simp [*]; done) | (generalize ByteArray.toList _ = z_; cases z_ <;> rfl)), H', ⟨by have := HJ1.out; have := HJ6.out; first | omega | exact Nat.le_refl _⟩, ⟨by (with_reducible repeat (first | refine blk_drewN ?_ _ | refine blk_drew ?_ | refine blk_alloc ?_ _)); exact BK222.out⟩, ⟨by repeat (first | (with_reducible first | exact HB.out | apply below_alloc | apply pw_below_drewN | apply below_drew1 | refine below_set ?_ GE222.out) | exact HB.out)⟩⟩
            replace c31 := Bool.eq_false_iff.mpr c31
            subst c31
            have H1 : (if a0_0 = 4 then (keystoneref04_Check.j2 kj6 false a0_0 a0_1 a0_2 a0_3 a0_4) else (keystoneref04_Check.j2 kj6 (!((FloatKind.f64.format.order a0_4.re 0 == some .eq) && (FloatKind.f64.format.order a0_4.im 0 == some .eq))) a0_0 a0_1 a0_2 a0_3 a0_4)) = some r := by rw [if_neg (show ¬ (false = true) by decide)] at H; exact H
            clear H
            have H := H1
            clear H1
            by_cases c32 : a0_0 = 4
            rotate_left
            · rw [if_neg c32] at H
              have c32b0 : (a0_0 == 4) = false := beq_eq_false_iff_ne.mpr c32
              have c32b1 : (a0_0 != 4) = true := bne_iff_ne.mpr c32
              (first | rw [c32b0] | (simp only [i64_w, i32_w]; rw [c32b0]) | skip)
              have H' := Aside0.mk H
              clear H
              have hcz34_0 : wc.cell? ⟨gb222, 0, none⟩ = some (.int .i64 a0_0) := (blk_cell BK222.out 0).trans rfl
              have hcz34_1 : wc.cell? ⟨gb222, 1, none⟩ = some (.int .i64 a0_1) := (blk_cell BK222.out 1).trans rfl
              have hcz34_2 : wc.cell? ⟨gb222, 2, none⟩ = some (.bool a0_2) := (blk_cell BK222.out 2).trans rfl
              have hcz34_3 : wc.cell? ⟨gb222, 3, none⟩ = some (.string a0_3) := (blk_cell BK222.out 3).trans rfl
              have hcz34_4 : wc.cell? ⟨gb222, 4, none⟩ = some (.complex .f64 a0_4.re a0_4.im) := (blk_cell BK222.out 4).trans rfl
              have hfz34_0 := blk_frozen BK222.out 0
              have hfz34_1 := blk_frozen BK222.out 1
              have hfz34_2 := blk_frozen BK222.out 2
              have hfz34_3 := blk_frozen BK222.out 3
              have hfz34_4 := blk_frozen BK222.out 4
              go_wp2
              go_meet
              case rel => exact ⟨_, (!((FloatKind.f64.format.order a0_4.re 0 == some .eq) && (FloatKind.f64.format.order a0_4.im 0 == some .eq))), (by first | rfl | (simp; done) | (simp [*]; done) | (generalize ByteArray.toList _ = z_; cases z_ <;> rfl)), H', ⟨by have := HJ1.out; have := HJ6.out; first | omega | exact Nat.le_refl _⟩, ⟨by (with_reducible repeat (first | refine blk_drewN ?_ _ | refine blk_drew ?_ | refine blk_alloc ?_ _)); exact BK222.out⟩, ⟨by repeat (first | (with_reducible first | exact HB.out | apply below_alloc | apply pw_below_drewN | apply below_drew1 | refine below_set ?_ GE222.out) | exact HB.out)⟩⟩
            rw [if_pos c32] at H
            have c32b0 : (a0_0 == 4) = true := beq_iff_eq.mpr c32
            have c32b1 : (a0_0 != 4) = false := bne_eq_false_iff_eq.mpr c32
            clear c32
            (first | rw [c32b0] | (simp only [i64_w, i32_w]; rw [c32b0]) | skip)
            have H' := Aside0.mk H
            clear H
            have hcz33_0 : wc.cell? ⟨gb222, 0, none⟩ = some (.int .i64 a0_0) := (blk_cell BK222.out 0).trans rfl
            have hcz33_1 : wc.cell? ⟨gb222, 1, none⟩ = some (.int .i64 a0_1) := (blk_cell BK222.out 1).trans rfl
            have hcz33_2 : wc.cell? ⟨gb222, 2, none⟩ = some (.bool a0_2) := (blk_cell BK222.out 2).trans rfl
            have hcz33_3 : wc.cell? ⟨gb222, 3, none⟩ = some (.string a0_3) := (blk_cell BK222.out 3).trans rfl
            have hcz33_4 : wc.cell? ⟨gb222, 4, none⟩ = some (.complex .f64 a0_4.re a0_4.im) := (blk_cell BK222.out 4).trans rfl
            have hfz33_0 := blk_frozen BK222.out 0
            have hfz33_1 := blk_frozen BK222.out 1
            have hfz33_2 := blk_frozen BK222.out 2
            have hfz33_3 := blk_frozen BK222.out 3
            have hfz33_4 := blk_frozen BK222.out 4
            go_wp2
            go_meet
            case rel => exact ⟨_, (false), (by first | rfl | (simp; done) | (simp [*]; done) | (generalize ByteArray.toList _ = z_; cases z_ <;> rfl)), H', ⟨by have := HJ1.out; have := HJ6.out; first | omega | exact Nat.le_refl _⟩, ⟨by (with_reducible repeat (first | refine blk_drewN ?_ _ | refine blk_drew ?_ | refine blk_alloc ?_ _)); exact BK222.out⟩, ⟨by repeat (first | (with_reducible first | exact HB.out | apply below_alloc | apply pw_below_drewN | apply below_drew1 | refine below_set ?_ GE222.out) | exact HB.out)⟩⟩
          case rest =>
            clear HC30
            try clear c1
            try clear c2
            try clear p2
            try clear c3
            try clear c4
            try clear c4b0
            try clear c8
            try clear c9
            try clear c9b0
            try clear c9b1
            try clear c10
            try clear c10b0
            try clear c10b1
            try clear c11
            try clear c11b0
            try clear c11b1
            try clear c14
            try clear c16
            try clear c16b0
            try clear c16b1
            try clear c19
            try clear c19b0
            try clear c19b1
            try clear c20
            try clear c20b0
            try clear c20b1
            try clear c21
            try clear c21b0
            try clear c21b1
            try clear c24
            try clear c26
            try clear c26b0
            try clear c26b1
            try clear c31
            try clear c32
            try clear c32b0
            try clear c32b1
            try clear hcz12_0
            try clear hcz12_1
            try clear hcz12_2
            try clear hcz12_3
            try clear hcz12_4
            try clear hcz13_0
            try clear hcz13_1
            try clear hcz13_2
            try clear hcz13_3
            try clear hcz13_4
            try clear hcz15_0
            try clear hcz15_1
            try clear hcz15_2
            try clear hcz15_3
            try clear hcz15_4
            try clear hcz17_0
            try clear hcz17_1
            try clear hcz17_2
            try clear hcz17_3
            try clear hcz17_4
            try clear hcz18_0
            try clear hcz18_1
            try clear hcz18_2
            try clear hcz18_3
            try clear hcz18_4
            try clear hcz22_0
            try clear hcz22_1
            try clear hcz22_2
            try clear hcz22_3
            try clear hcz22_4
            try clear hcz23_0
            try clear hcz23_1
            try clear hcz23_2
            try clear hcz23_3
            try clear hcz23_4
            try clear hcz25_0
            try clear hcz25_1
            try clear hcz25_2
            try clear hcz25_3
            try clear hcz25_4
            try clear hcz27_0
            try clear hcz27_1
            try clear hcz27_2
            try clear hcz27_3
            try clear hcz27_4
            try clear hcz28_0
            try clear hcz28_1
            try clear hcz28_2
            try clear hcz28_3
            try clear hcz28_4
            try clear hcz29_0
            try clear hcz29_1
            try clear hcz29_2
            try clear hcz29_3
            try clear hcz29_4
            try clear hcz33_0
            try clear hcz33_1
            try clear hcz33_2
            try clear hcz33_3
            try clear hcz33_4
            try clear hcz34_0
            try clear hcz34_1
            try clear hcz34_2
            try clear hcz34_3
            try clear hcz34_4
            try clear hcz5_0
            try clear hcz5_1
            try clear hcz5_2
            try clear hcz5_3
            try clear hcz5_4
            try clear hcz6_0
            try clear hcz6_1
            try clear hcz6_2
            try clear hcz6_3
            try clear hcz6_4
            try clear hfz12_0
            try clear hfz12_1
            try clear hfz12_2
            try clear hfz12_3
            try clear hfz12_4
            try clear hfz13_0
            try clear hfz13_1
            try clear hfz13_2
            try clear hfz13_3
            try clear hfz13_4
            try clear hfz15_0
            try clear hfz15_1
            try clear hfz15_2
            try clear hfz15_3
            try clear hfz15_4
            try clear hfz17_0
            try clear hfz17_1
            try clear hfz17_2
            try clear hfz17_3
            try clear hfz17_4
            try clear hfz18_0
            try clear hfz18_1
            try clear hfz18_2
            try clear hfz18_3
            try clear hfz18_4
            try clear hfz22_0
            try clear hfz22_1
            try clear hfz22_2
            try clear hfz22_3
            try clear hfz22_4
            try clear hfz23_0
            try clear hfz23_1
            try clear hfz23_2
            try clear hfz23_3
            try clear hfz23_4
            try clear hfz25_0
            try clear hfz25_1
            try clear hfz25_2
            try clear hfz25_3
            try clear hfz25_4
            try clear hfz27_0
            try clear hfz27_1
            try clear hfz27_2
            try clear hfz27_3
            try clear hfz27_4
            try clear hfz28_0
            try clear hfz28_1
            try clear hfz28_2
            try clear hfz28_3
            try clear hfz28_4
            try clear hfz29_0
            try clear hfz29_1
            try clear hfz29_2
            try clear hfz29_3
            try clear hfz29_4
            try clear hfz33_0
            try clear hfz33_1
            try clear hfz33_2
            try clear hfz33_3
            try clear hfz33_4
            try clear hfz34_0
            try clear hfz34_1
            try clear hfz34_2
            try clear hfz34_3
            try clear hfz34_4
            try clear hfz5_0
            try clear hfz5_1
            try clear hfz5_2
            try clear hfz5_3
            try clear hfz5_4
            try clear hfz6_0
            try clear hfz6_1
            try clear hfz6_2
            try clear hfz6_3
            try clear hfz6_4
            try clear p2
            obtain ⟨kq, x3_29, rfl, HA, HJ29, BK222, HB⟩ := hcut
            cases kq with
            | zero => exact absurd HA.out (by simp [keystoneref04_Check.j2])
            | succ kj29 =>
              have H := HA.out
              clear HA
              simp only [keystoneref04_Check.j2] at H
              by_cases c35 : x3_29 = true
              · subst c35
                have H1 : (some 5) = some r := by rw [if_pos rfl] at H; exact H
                clear H
                have H := H1
                clear H1
                obtain rfl := Option.some.inj H
                go_wp2
                go_ret
                exact ⟨by first | rfl | (simp [errW_none, errW_some] <;> rfl) | (simp [*, errW_none, errW_some] <;> rfl), by repeat (first | (with_reducible first | exact HB.out | apply below_alloc | apply pw_below_drewN | apply below_drew1 | refine below_set ?_ GE222.out) | exact HB.out)⟩
              replace c35 := Bool.eq_false_iff.mpr c35
              subst c35
              have H1 : (if (a0_3.size : Int) > 4096 then (some 3) else (if a0_0 = 4 then ((keystoneref04_whole.f a0_4.re).bind fun t223 => (if t223 = true then ((keystoneref04_whole.f a0_4.im).bind fun t224 => (if t224 = true then (some 0) else (some 43))) else (some 43))) else (some 0))) = some r := by rw [if_neg (show ¬ (false = true) by decide)] at H; exact H
              clear H
              have H := H1
              clear H1
              by_cases c36 : (a0_3.size : Int) > 4096
              · rw [if_pos c36] at H
                have c36b0 : decide (4096 < (a0_3.size : Int)) = true := decide_eq_true c36
                have c36b1 : decide (4096 < a0_3.size) = true := decide_eq_true (by omega)
                clear c36
                obtain rfl := Option.some.inj H
                have hcz37_0 : wc.cell? ⟨gb222, 0, none⟩ = some (.int .i64 a0_0) := (blk_cell BK222.out 0).trans rfl
                have hcz37_1 : wc.cell? ⟨gb222, 1, none⟩ = some (.int .i64 a0_1) := (blk_cell BK222.out 1).trans rfl
                have hcz37_2 : wc.cell? ⟨gb222, 2, none⟩ = some (.bool a0_2) := (blk_cell BK222.out 2).trans rfl
                have hcz37_3 : wc.cell? ⟨gb222, 3, none⟩ = some (.string a0_3) := (blk_cell BK222.out 3).trans rfl
                have hcz37_4 : wc.cell? ⟨gb222, 4, none⟩ = some (.complex .f64 a0_4.re a0_4.im) := (blk_cell BK222.out 4).trans rfl
                have hfz37_0 := blk_frozen BK222.out 0
                have hfz37_1 := blk_frozen BK222.out 1
                have hfz37_2 := blk_frozen BK222.out 2
                have hfz37_3 := blk_frozen BK222.out 3
                have hfz37_4 := blk_frozen BK222.out 4
                go_wp2
                go_ret
                exact ⟨by first | rfl | (simp [errW_none, errW_some] <;> rfl) | (simp [*, errW_none, errW_some] <;> rfl), by repeat (first | (with_reducible first | exact HB.out | apply below_alloc | apply pw_below_drewN | apply below_drew1 | refine below_set ?_ GE222.out) | exact HB.out)⟩
              rw [if_neg c36] at H
              have c36b0 : decide (4096 < (a0_3.size : Int)) = false := decide_eq_false c36
              have c36b1 : decide (4096 < a0_3.size) = false := decide_eq_false (by omega)
              clear c36
              by_cases c38 : a0_0 = 4
              rotate_left
              · rw [if_neg c38] at H
                have c38b0 : (a0_0 == 4) = false := beq_eq_false_iff_ne.mpr c38
                have c38b1 : (a0_0 != 4) = true := bne_iff_ne.mpr c38
                obtain rfl := Option.some.inj H
                have hcz46_0 : wc.cell? ⟨gb222, 0, none⟩ = some (.int .i64 a0_0) := (blk_cell BK222.out 0).trans rfl
                have hcz46_1 : wc.cell? ⟨gb222, 1, none⟩ = some (.int .i64 a0_1) := (blk_cell BK222.out 1).trans rfl
                have hcz46_2 : wc.cell? ⟨gb222, 2, none⟩ = some (.bool a0_2) := (blk_cell BK222.out 2).trans rfl
                have hcz46_3 : wc.cell? ⟨gb222, 3, none⟩ = some (.string a0_3) := (blk_cell BK222.out 3).trans rfl
                have hcz46_4 : wc.cell? ⟨gb222, 4, none⟩ = some (.complex .f64 a0_4.re a0_4.im) := (blk_cell BK222.out 4).trans rfl
                have hfz46_0 := blk_frozen BK222.out 0
                have hfz46_1 := blk_frozen BK222.out 1
                have hfz46_2 := blk_frozen BK222.out 2
                have hfz46_3 := blk_frozen BK222.out 3
                have hfz46_4 := blk_frozen BK222.out 4
                go_wp2
                go_ret
                exact ⟨by first | rfl | (simp [errW_none, errW_some] <;> rfl) | (simp [*, errW_none, errW_some] <;> rfl), by repeat (first | (with_reducible first | exact HB.out | apply below_alloc | apply pw_below_drewN | apply below_drew1 | refine below_set ?_ GE222.out) | exact HB.out)⟩
              rw [if_pos c38] at H
              have c38b0 : (a0_0 == 4) = true := beq_iff_eq.mpr c38
              have c38b1 : (a0_0 != 4) = false := bne_eq_false_iff_eq.mpr c38
              clear c38
              replace H := Option.bind_eq_some_iff.mp H
              obtain ⟨t223, A390, H⟩ := H
              replace H : (if t223 = true then ((keystoneref04_whole.f a0_4.im).bind fun t224 => (if t224 = true then (some 0) else (some 43))) else (some 43)) = some r := H
              have A39 := Aside0.mk A390
              clear A390
              by_cases c40 : t223 = true
              rotate_left
              · replace c40 := Bool.eq_false_iff.mpr c40
                subst c40
                have H1 : (some 43) = some r := by rw [if_neg (show ¬ (false = true) by decide)] at H; exact H
                clear H
                have H := H1
                clear H1
                obtain rfl := Option.some.inj H
                have hcz45_0 : wc.cell? ⟨gb222, 0, none⟩ = some (.int .i64 a0_0) := (blk_cell BK222.out 0).trans rfl
                have hcz45_1 : wc.cell? ⟨gb222, 1, none⟩ = some (.int .i64 a0_1) := (blk_cell BK222.out 1).trans rfl
                have hcz45_2 : wc.cell? ⟨gb222, 2, none⟩ = some (.bool a0_2) := (blk_cell BK222.out 2).trans rfl
                have hcz45_3 : wc.cell? ⟨gb222, 3, none⟩ = some (.string a0_3) := (blk_cell BK222.out 3).trans rfl
                have hcz45_4 : wc.cell? ⟨gb222, 4, none⟩ = some (.complex .f64 a0_4.re a0_4.im) := (blk_cell BK222.out 4).trans rfl
                have hfz45_0 := blk_frozen BK222.out 0
                have hfz45_1 := blk_frozen BK222.out 1
                have hfz45_2 := blk_frozen BK222.out 2
                have hfz45_3 := blk_frozen BK222.out 3
                have hfz45_4 := blk_frozen BK222.out 4
                go_wp2_with (first | (go_at_call 31; (with_reducible refine (keystoneref04_whole.calls a0_4.re false _ A39.out).mono ?_); rintro e w' ⟨rfl, ⟨nd, rfl⟩⟩))
                go_ret
                exact ⟨by first | rfl | (simp [errW_none, errW_some] <;> rfl) | (simp [*, errW_none, errW_some] <;> rfl), by repeat (first | (with_reducible first | exact HB.out | apply below_alloc | apply pw_below_drewN | apply below_drew1 | refine below_set ?_ GE222.out) | exact HB.out)⟩
              subst c40
              have H1 : ((keystoneref04_whole.f a0_4.im).bind fun t224 => (if t224 = true then (some 0) else (some 43))) = some r := by rw [if_pos rfl] at H; exact H
              clear H
              have H := H1
              clear H1
              replace H := Option.bind_eq_some_iff.mp H
              obtain ⟨t224, A410, H⟩ := H
              replace H : (if t224 = true then (some 0) else (some 43)) = some r := H
              have A41 := Aside0.mk A410
              clear A410
              by_cases c42 : t224 = true
              · subst c42
                have H1 : (some 0) = some r := by rw [if_pos rfl] at H; exact H
                clear H
                have H := H1
                clear H1
                obtain rfl := Option.some.inj H
                have hcz43_0 : wc.cell? ⟨gb222, 0, none⟩ = some (.int .i64 a0_0) := (blk_cell BK222.out 0).trans rfl
                have hcz43_1 : wc.cell? ⟨gb222, 1, none⟩ = some (.int .i64 a0_1) := (blk_cell BK222.out 1).trans rfl
                have hcz43_2 : wc.cell? ⟨gb222, 2, none⟩ = some (.bool a0_2) := (blk_cell BK222.out 2).trans rfl
                have hcz43_3 : wc.cell? ⟨gb222, 3, none⟩ = some (.string a0_3) := (blk_cell BK222.out 3).trans rfl
                have hcz43_4 : wc.cell? ⟨gb222, 4, none⟩ = some (.complex .f64 a0_4.re a0_4.im) := (blk_cell BK222.out 4).trans rfl
                have hfz43_0 := blk_frozen BK222.out 0
                have hfz43_1 := blk_frozen BK222.out 1
                have hfz43_2 := blk_frozen BK222.out 2
                have hfz43_3 := blk_frozen BK222.out 3
                have hfz43_4 := blk_frozen BK222.out 4
                go_wp2_with (first | (go_at_call 31; (with_reducible refine (keystoneref04_whole.calls a0_4.re true _ A39.out).mono ?_); rintro e w' ⟨rfl, ⟨nd, rfl⟩⟩) | (go_at_call 31; (with_reducible refine (keystoneref04_whole.calls a0_4.im true _ A41.out).mono ?_); rintro e w' ⟨rfl, ⟨nd, rfl⟩⟩))
                go_ret
                exact ⟨by first | rfl | (simp [errW_none, errW_some] <;> rfl) | (simp [*, errW_none, errW_some] <;> rfl), by repeat (first | (with_reducible first | exact HB.out | apply below_alloc | apply pw_below_drewN | apply below_drew1 | refine below_set ?_ GE222.out) | exact HB.out)⟩
              replace c42 := Bool.eq_false_iff.mpr c42
              subst c42
              have H1 : (some 43) = some r := by rw [if_neg (show ¬ (false = true) by decide)] at H; exact H
              clear H
              have H := H1
              clear H1
              obtain rfl := Option.some.inj H
              have hcz44_0 : wc.cell? ⟨gb222, 0, none⟩ = some (.int .i64 a0_0) := (blk_cell BK222.out 0).trans rfl
              have hcz44_1 : wc.cell? ⟨gb222, 1, none⟩ = some (.int .i64 a0_1) := (blk_cell BK222.out 1).trans rfl
              have hcz44_2 : wc.cell? ⟨gb222, 2, none⟩ = some (.bool a0_2) := (blk_cell BK222.out 2).trans rfl
              have hcz44_3 : wc.cell? ⟨gb222, 3, none⟩ = some (.string a0_3) := (blk_cell BK222.out 3).trans rfl
              have hcz44_4 : wc.cell? ⟨gb222, 4, none⟩ = some (.complex .f64 a0_4.re a0_4.im) := (blk_cell BK222.out 4).trans rfl
              have hfz44_0 := blk_frozen BK222.out 0
              have hfz44_1 := blk_frozen BK222.out 1
              have hfz44_2 := blk_frozen BK222.out 2
              have hfz44_3 := blk_frozen BK222.out 3
              have hfz44_4 := blk_frozen BK222.out 4
              go_wp2_with (first | (go_at_call 31; (with_reducible refine (keystoneref04_whole.calls a0_4.re true _ A39.out).mono ?_); rintro e w' ⟨rfl, ⟨nd, rfl⟩⟩) | (go_at_call 31; (with_reducible refine (keystoneref04_whole.calls a0_4.im false _ A41.out).mono ?_); rintro e w' ⟨rfl, ⟨nd, rfl⟩⟩))
              go_ret
              exact ⟨by first | rfl | (simp [errW_none, errW_some] <;> rfl) | (simp [*, errW_none, errW_some] <;> rfl), by repeat (first | (with_reducible first | exact HB.out | apply below_alloc | apply pw_below_drewN | apply below_drew1 | refine below_set ?_ GE222.out) | exact HB.out)⟩

end Go.Proofs.YtdonndklddjfiaaDoor.KA
