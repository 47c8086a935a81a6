-- Written by a program (kp.py, wip/tools) for this claim, out of the translation.
import Derived.Test.YtmloklmcoedciaaDoorKAx0
import Derived.Test.YtmloklmcoedciaaDoorKAx7
namespace Go.Proofs.YtmloklmcoedciaaDoor.KA
open Go.RowKit Go.Proofs.YtmloklmcoedciaaDoorW.PrintWords Go.Proofs.YtmloklmcoedciaaDoorW.PrintLast Go.Proofs.YtmloklmcoedciaaDoorW.PrintMore
attribute [local go_sem] max2_int min2_int max_two min_two max_three min_three max_four min_four   -- for this text's walks alone
set_option linter.unusedVariables false
set_option linter.unusedSimpArgs false

/-! ### keystoneref12_quoted: function 49 -/
mutual
def keystoneref12_quoted.l0 : Nat → ByteArray → Int → Int → List Int → Option (ByteArray × Int × Int)
  | 0, _, _, _, _ => none
  | k + 1, x0, x1, x7, x8 => if x1 ≥ (x0.size : Int) then (some ((⟨#[]⟩ : ByteArray), (x0.size : Int), 123)) else (if 0 ≤ x1 then (if x1 < (x0.size : Int) then (if (bt x0 x1) = 34 then (if (x8.length : Int) > 4096 then (some ((⟨#[]⟩ : ByteArray), x7, 3)) else (some (strOfNums x8, wrap64 (x1 + 1), 0))) else (if (bt x0 x1) < 32 then (keystoneref12_quoted.j1 k x0 x1 x7 x8 (bt x0 x1) true) else (keystoneref12_quoted.j1 k x0 x1 x7 x8 (bt x0 x1) (decide ((bt x0 x1) > 126))))) else (none)) else (none))
def keystoneref12_quoted.j1 : Nat → ByteArray → Int → Int → List Int → Int → Bool → Option (ByteArray × Int × Int)
  | 0, _, _, _, _, _, _ => none
  | k + 1, x0, x1, x7, x8, x9, x30 => if x30 = true then (some ((⟨#[]⟩ : ByteArray), x1, 123)) else (if x9 = 92 then (if (wrap64 (x1 + 1)) ≥ (x0.size : Int) then (some ((⟨#[]⟩ : ByteArray), (x0.size : Int), 123)) else (if 0 ≤ (wrap64 (x1 + 1)) then (if (wrap64 (x1 + 1)) < (x0.size : Int) then (if (bt x0 (wrap64 (x1 + 1))) = 34 then (keystoneref12_quoted.j2 k x0 (wrap64 (x1 + 1)) x7 x8 (bt x0 (wrap64 (x1 + 1))) ((bt x0 (wrap64 (x1 + 1))) == 34)) else (keystoneref12_quoted.j2 k x0 (wrap64 (x1 + 1)) x7 x8 (bt x0 (wrap64 (x1 + 1))) ((bt x0 (wrap64 (x1 + 1))) == 92))) else (none)) else (none))) else (if x8.length < 140737488355328 then (keystoneref12_quoted.l0 k x0 (wrap64 (x1 + 1)) x7 (x8 ++ [x9])) else (none)))
def keystoneref12_quoted.j2 : Nat → ByteArray → Int → Int → List Int → Int → Bool → Option (ByteArray × Int × Int)
  | 0, _, _, _, _, _, _ => none
  | k + 1, x0, x1, x7, x8, x48, x50 => if x50 = true then (if 0 ≤ x1 then (if x1 < (x0.size : Int) then (if x8.length < 140737488355328 then (keystoneref12_quoted.l0 k x0 (wrap64 (x1 + 1)) x7 (x8 ++ [bt x0 x1])) else (none)) else (none)) else (none)) else (if x48 = 110 then (if x8.length < 140737488355328 then (keystoneref12_quoted.l0 k x0 (wrap64 (x1 + 1)) x7 (x8 ++ [10])) else (none)) else (if x48 = 116 then (if x8.length < 140737488355328 then (keystoneref12_quoted.l0 k x0 (wrap64 (x1 + 1)) x7 (x8 ++ [9])) else (none)) else (if x48 = 120 then (keystoneref12_quoted.l1 k x0 x1 x7 x8 1) else (some ((⟨#[]⟩ : ByteArray), x1, 123)))))
def keystoneref12_quoted.l1 : Nat → ByteArray → Int → Int → List Int → Int → Option (ByteArray × Int × Int)
  | 0, _, _, _, _, _ => none
  | k + 1, x0, x1, x7, x8, x10 => if x10 ≤ 2 then (if (wrap64 (x1 + x10)) ≥ (x0.size : Int) then (some ((⟨#[]⟩ : ByteArray), (x0.size : Int), 123)) else (if 0 ≤ (wrap64 (x1 + x10)) then (if (wrap64 (x1 + x10)) < (x0.size : Int) then ((keystoneref12_hex.f (bt x0 (wrap64 (x1 + x10)))).bind fun t232 => (if t232 < 0 then (some ((⟨#[]⟩ : ByteArray), wrap64 (x1 + x10), 123)) else (keystoneref12_quoted.l1 k x0 x1 x7 x8 (wrap64 (x10 + 1))))) else (none)) else (none))) else (if 0 ≤ (wrap64 (x1 + 1)) then (if (wrap64 (x1 + 1)) < (x0.size : Int) then ((keystoneref12_hex.f (bt x0 (wrap64 (x1 + 1)))).bind fun t227 => (if 0 ≤ (wrap64 (x1 + 2)) then (if (wrap64 (x1 + 2)) < (x0.size : Int) then ((keystoneref12_hex.f (bt x0 (wrap64 (x1 + 2)))).bind fun t228 => (if x8.length < 140737488355328 then (keystoneref12_quoted.l0 k x0 (wrap64 ((wrap64 (x1 + 2)) + 1)) x7 (x8 ++ [(wrap64 ((wrap64 (t227 * 16)) + t228)) % 256])) else (none))) else (none)) else (none))) else (none)) else (none))
end
def keystoneref12_quoted.f (k : Nat) (a0 : ByteArray) (a1 : Int) : Option (ByteArray × Int × Int) := keystoneref12_quoted.l0 k a0 (wrap64 (a1 + 1)) a1 ([] : List Int)
theorem keystoneref12_quoted.mono_l : ∀ k, (∀ y0 y1 y2 y3, LeO (keystoneref12_quoted.l0 k y0 y1 y2 y3) (keystoneref12_quoted.l0 (k + 1) y0 y1 y2 y3)) ∧ (∀ y0 y1 y2 y3 y4 y5, LeO (keystoneref12_quoted.j1 k y0 y1 y2 y3 y4 y5) (keystoneref12_quoted.j1 (k + 1) y0 y1 y2 y3 y4 y5)) ∧ (∀ y0 y1 y2 y3 y4 y5, LeO (keystoneref12_quoted.j2 k y0 y1 y2 y3 y4 y5) (keystoneref12_quoted.j2 (k + 1) y0 y1 y2 y3 y4 y5)) ∧ (∀ y0 y1 y2 y3 y4, LeO (keystoneref12_quoted.l1 k y0 y1 y2 y3 y4) (keystoneref12_quoted.l1 (k + 1) y0 y1 y2 y3 y4))
  | 0 => ⟨fun _ _ _ _ r h => by simp [keystoneref12_quoted.l0] at h, fun _ _ _ _ _ _ r h => by simp [keystoneref12_quoted.j1] at h, fun _ _ _ _ _ _ r h => by simp [keystoneref12_quoted.j2] at h, fun _ _ _ _ _ r h => by simp [keystoneref12_quoted.l1] at h⟩
  | k + 1 => by
    obtain ⟨ih0, ih1, ih2, ih3⟩ := keystoneref12_quoted.mono_l k
    refine ⟨?_, ?_, ?_, ?_⟩
    · intro y0 y1 y2 y3
      unfold keystoneref12_quoted.l0
      repeat' first
      | (with_reducible exact ih0 _ _ _ _)
      | (with_reducible exact ih1 _ _ _ _ _ _)
      | (with_reducible exact ih2 _ _ _ _ _ _)
      | (with_reducible exact ih3 _ _ _ _ _)
      | (with_reducible exact LeO.refl _)
      | (with_reducible exact LeO.none _)
      | (with_reducible refine LeO.ite ?_ ?_)
      | (with_reducible refine LeO.bind ?_ (fun _ => ?_))
      | exact ih0 _ _ _ _
      | exact ih1 _ _ _ _ _ _
      | exact ih2 _ _ _ _ _ _
      | exact ih3 _ _ _ _ _
      | exact LeO.none _
      | refine LeO.ite ?_ ?_
      | refine LeO.bind ?_ (fun _ => ?_)
    · intro y0 y1 y2 y3 y4 y5
      unfold keystoneref12_quoted.j1
      repeat' first
      | (with_reducible exact ih0 _ _ _ _)
      | (with_reducible exact ih1 _ _ _ _ _ _)
      | (with_reducible exact ih2 _ _ _ _ _ _)
      | (with_reducible exact ih3 _ _ _ _ _)
      | (with_reducible exact LeO.refl _)
      | (with_reducible exact LeO.none _)
      | (with_reducible refine LeO.ite ?_ ?_)
      | (with_reducible refine LeO.bind ?_ (fun _ => ?_))
      | exact ih0 _ _ _ _
      | exact ih1 _ _ _ _ _ _
      | exact ih2 _ _ _ _ _ _
      | exact ih3 _ _ _ _ _
      | exact LeO.none _
      | refine LeO.ite ?_ ?_
      | refine LeO.bind ?_ (fun _ => ?_)
    · intro y0 y1 y2 y3 y4 y5
      unfold keystoneref12_quoted.j2
      repeat' first
      | (with_reducible exact ih0 _ _ _ _)
      | (with_reducible exact ih1 _ _ _ _ _ _)
      | (with_reducible exact ih2 _ _ _ _ _ _)
      | (with_reducible exact ih3 _ _ _ _ _)
      | (with_reducible exact LeO.refl _)
      | (with_reducible exact LeO.none _)
      | (with_reducible refine LeO.ite ?_ ?_)
      | (with_reducible refine LeO.bind ?_ (fun _ => ?_))
      | exact ih0 _ _ _ _
      | exact ih1 _ _ _ _ _ _
      | exact ih2 _ _ _ _ _ _
      | exact ih3 _ _ _ _ _
      | exact LeO.none _
      | refine LeO.ite ?_ ?_
      | refine LeO.bind ?_ (fun _ => ?_)
    · intro y0 y1 y2 y3 y4
      unfold keystoneref12_quoted.l1
      repeat' first
      | (with_reducible exact ih0 _ _ _ _)
      | (with_reducible exact ih1 _ _ _ _ _ _)
      | (with_reducible exact ih2 _ _ _ _ _ _)
      | (with_reducible exact ih3 _ _ _ _ _)
      | (with_reducible exact LeO.refl _)
      | (with_reducible exact LeO.none _)
      | (with_reducible refine LeO.ite ?_ ?_)
      | (with_reducible refine LeO.bind ?_ (fun _ => ?_))
      | exact ih0 _ _ _ _
      | exact ih1 _ _ _ _ _ _
      | exact ih2 _ _ _ _ _ _
      | exact ih3 _ _ _ _ _
      | exact LeO.none _
      | refine LeO.ite ?_ ?_
      | refine LeO.bind ?_ (fun _ => ?_)
theorem keystoneref12_quoted.mono : ∀ a0 a1 k, LeO (keystoneref12_quoted.f k a0 a1) (keystoneref12_quoted.f (k + 1) a0 a1) := by
  intro a0 a1 k
  obtain ⟨ih0, ih1, ih2, ih3⟩ := keystoneref12_quoted.mono_l k
  unfold keystoneref12_quoted.f
  repeat' first
      | (with_reducible exact ih0 _ _ _ _)
      | (with_reducible exact ih1 _ _ _ _ _ _)
      | (with_reducible exact ih2 _ _ _ _ _ _)
      | (with_reducible exact ih3 _ _ _ _ _)
      | (with_reducible exact LeO.refl _)
      | (with_reducible exact LeO.none _)
      | (with_reducible refine LeO.ite ?_ ?_)
      | (with_reducible refine LeO.bind ?_ (fun _ => ?_))
      | exact ih0 _ _ _ _
      | exact ih1 _ _ _ _ _ _
      | exact ih2 _ _ _ _ _ _
      | exact ih3 _ _ _ _ _
      | exact LeO.none _
      | refine LeO.ite ?_ ?_
      | refine LeO.bind ?_ (fun _ => ?_)
def keystoneref12_quoted.T32 : Bool × List (List Nat × List Nat) := (true, [([], []), ([], []), ([], []), ([2], [2]), ([1, 3], [1, 3]), ([4], [4]), ([5], [5]), ([], []), ([], []), ([8], [8]), ([7, 9], [7, 9]), ([10, 5], [10]), ([6, 11], [6, 11]), ([12], [12]), ([13], [13]), ([0, 14, 11], [0, 14]), ([15, 15, 0, 1, 2, 3, 4, 5, 6, 7, 8, 9, 10, 11, 12, 13, 14, 15], [0, 15])])
def keystoneref12_quoted.B32 : List Nat := [0, 0, 0, 4, 14, 30, 62, 0, 0, 256, 896, 1982, 4094, 8190, 16382, 32767, 65535]
theorem keystoneref12_quoted.tab32 : rtab .any (opsOf Tryd.f49 32) = keystoneref12_quoted.T32 := by kernel_rfl
theorem keystoneref12_quoted.bits32 : waitsOk keystoneref12_quoted.T32.2 keystoneref12_quoted.B32 = true := by kernel_rfl
set_option maxHeartbeats 4000000 in
set_option maxRecDepth 100000 in
theorem keystoneref12_quoted.calls (k : Nat) (a0 : ByteArray) (a1 : Int) (r1 : ByteArray) (r2 : Int) (r3 : Int) (w : World) (h : keystoneref12_quoted.f k a0 a1 = some (r1, r2, r3)) :
    Calls Tryd.prog 49 #[.string a0, .int .i64 a1] w fun e w' => e = .returned (.tuple #[.string r1, .int .i64 r2, .int .i64 r3]) ∧ Below w.heap.size w w' := by
  have HB := Aside0.mk (Below.refl w.heap.size w)
  have H : (keystoneref12_quoted.l0 k a0 (wrap64 (a1 + 1)) a1 ([] : List Int)) = some (r1, r2, r3) := h
  clear h
  have H' := Aside0.mk H
  clear H
  go_enter Tryd.func49, Tryd.ntmps49
  go_wp2
  go_loopg [1, 8] k (fun kq v1 v8 w' => ∃ (x1_1 : Int) (x8_1 : List Int), v1 = .int .i64 x1_1 ∧ Aside0 (keystoneref12_quoted.l0 kq a0 x1_1 a1 x8_1 = some (r1, r2, r3)) ∧ Aside0 (kq ≤ k) ∧ Aside0 (Kd.R (Kd.int .u8) 5 w' w.heap.size (fun _ => True) v8 x8_1) ∧ Aside0 (Below w.heap.size w w'))
  case atStart => exact ⟨(wrap64 (a1 + 1)), (([] : List Int)), (by first | rfl | (simp; done) | (simp [*]; done)), H', ⟨Nat.le_refl _⟩, ⟨by first | exact Kd.R_nil _ _ _ _ _ | exact Kd.N_nil _ _ _ _ _ | exact Kd.V_nil _ _ _ _ _ | exact Kd.Q_nil _ _ _ _ _ | exact Kd.S_nil _ _ _ _ _⟩, ⟨by repeat (first | (with_reducible first | exact HB.out | apply below_alloc | apply pw_below_drewN | apply below_drew1) | exact HB.out)⟩⟩
  case round =>
    clear H'
    try clear p2
    obtain ⟨x1_1, x8_1, rfl, HA, HK1, HO_8, HB⟩ := hrel
    cases gk with
    | zero => exact absurd HA.out (by simp [keystoneref12_quoted.l0])
    | succ k1 =>
      have H := HA.out
      clear HA
      simp only [keystoneref12_quoted.l0] at H
      by_cases c3 : x1_1 ≥ (a0.size : Int)
      · rw [if_pos c3] at H
        have c3b0 : decide ((a0.size : Int) ≤ x1_1) = true := decide_eq_true c3
        clear c3
        simp only [Option.some.injEq, Prod.mk.injEq] at H
        obtain ⟨rfl, rfl, rfl⟩ := H
        go_wp2
        go_ret3
        exact ⟨by first | rfl | (simp [errW_none, errW_some] <;> rfl) | (simp [*, errW_none, errW_some] <;> rfl), by repeat (first | (with_reducible first | exact HB.out | apply below_alloc | apply pw_below_drewN | apply below_drew1) | exact HB.out)⟩
      · rw [if_neg c3] at H
        have c3b0 : decide ((a0.size : Int) ≤ x1_1) = false := decide_eq_false c3
        clear c3
        by_cases c4 : 0 ≤ x1_1
        · rw [if_pos c4] at H
          have c4b0 : decide (0 ≤ x1_1) = true := decide_eq_true c4
          clear c4
          by_cases c5 : x1_1 < (a0.size : Int)
          · rw [if_pos c5] at H
            have c5b0 : decide (x1_1 < (a0.size : Int)) = true := decide_eq_true c5
            clear c5
            by_cases c7 : (bt a0 x1_1) = 34
            · rw [if_pos c7] at H
              have c7b0 : ((bt a0 x1_1) == 34) = true := beq_iff_eq.mpr c7
              have c7b1 : ((bt a0 x1_1) != 34) = false := bne_eq_false_iff_eq.mpr c7
              clear c7
              by_cases c8 : (x8_1.length : Int) > 4096
              · rw [if_pos c8] at H
                have c8b0 : decide (4096 < (x8_1.length : Int)) = true := decide_eq_true c8
                have c8b1 : decide (4096 < x8_1.length) = true := decide_eq_true (by omega)
                clear c8
                simp only [Option.some.injEq, Prod.mk.injEq] at H
                obtain ⟨rfl, rfl, rfl⟩ := H
                have p6 : 0 ≤ (x1_1 : Int) := of_decide_eq_true (by first | (with_reducible assumption) | assumption)
                have q6 : x1_1 < (a0.size : Int) := of_decide_eq_true (by first | (with_reducible assumption) | assumption)
                have hx6 := bt_at a0 x1_1
                replace p6 := eq_true p6
                replace q6 := eq_true q6
                obtain ⟨Ao9, co9, eo9⟩ := Kd.R_slice HO_8.out
                subst eo9
                go_wp2
                go_ret3
                exact ⟨by first | rfl | (simp [errW_none, errW_some] <;> rfl) | (simp [*, errW_none, errW_some] <;> rfl), by repeat (first | (with_reducible first | exact HB.out | apply below_alloc | apply pw_below_drewN | apply below_drew1) | exact HB.out)⟩
              · rw [if_neg c8] at H
                have c8b0 : decide (4096 < (x8_1.length : Int)) = false := decide_eq_false c8
                have c8b1 : decide (4096 < x8_1.length) = false := decide_eq_false (by omega)
                clear c8
                simp only [Option.some.injEq, Prod.mk.injEq] at H
                obtain ⟨rfl, rfl, rfl⟩ := H
                have p6 : 0 ≤ (x1_1 : Int) := of_decide_eq_true (by first | (with_reducible assumption) | assumption)
                have q6 : x1_1 < (a0.size : Int) := of_decide_eq_true (by first | (with_reducible assumption) | assumption)
                have hx6 := bt_at a0 x1_1
                replace p6 := eq_true p6
                replace q6 := eq_true q6
                obtain ⟨Ao10, co10, eo10⟩ := Kd.R_slice HO_8.out
                subst eo10
                have hcv11 := own_string (P := Tryd.prog) Tryd.underlying57 Tryd.underlying5 Tryd.underlying9 (Kd.own_of_R HO_8.out)
                go_wp2
                go_ret3
                exact ⟨by first | rfl | (simp [errW_none, errW_some] <;> rfl) | (simp [*, errW_none, errW_some] <;> rfl), by repeat (first | (with_reducible first | exact HB.out | apply below_alloc | apply pw_below_drewN | apply below_drew1) | exact HB.out)⟩
            · rw [if_neg c7] at H
              have c7b0 : ((bt a0 x1_1) == 34) = false := beq_eq_false_iff_ne.mpr c7
              have c7b1 : ((bt a0 x1_1) != 34) = true := bne_iff_ne.mpr c7
              have HC12 := Aside0.mk H
              clear H
              have p6 : 0 ≤ (x1_1 : Int) := of_decide_eq_true (by first | (with_reducible assumption) | assumption)
              have q6 : x1_1 < (a0.size : Int) := of_decide_eq_true (by first | (with_reducible assumption) | assumption)
              have hx6 := bt_at a0 x1_1
              replace p6 := eq_true p6
              replace q6 := eq_true q6
              go_upto_region 8 with (fail)
              go_cut [30] (fun v30 wc => ∃ (kq : Nat) (x30_11 : Bool), v30 = .bool x30_11 ∧ Aside0 (keystoneref12_quoted.j1 kq a0 x1_1 a1 x8_1 (bt a0 x1_1) x30_11 = some (r1, r2, r3)) ∧ Aside0 (kq ≤ k1) ∧ Aside0 (Kd.R (Kd.int .u8) 5 wc w.heap.size (fun _ => True) u8 x8_1) ∧ Aside0 (Below w.heap.size w wc))
              case first =>
                have H := HC12.out
                clear HC12
                by_cases c13 : (bt a0 x1_1) < 32
                · rw [if_pos c13] at H
                  have c13b0 : decide ((bt a0 x1_1) < 32) = true := decide_eq_true c13
                  clear c13
                  (first | rw [c13b0] | (simp only [i64_w, i32_w]; rw [c13b0]) | skip)
                  have H' := Aside0.mk H
                  clear H
                  go_wp2
                  go_meet
                  case rel => exact ⟨_, (true), (by first | rfl | (simp; done) | (simp [*]; done)), H', ⟨by have := HK1.out; first | omega | exact Nat.le_refl _⟩, ⟨by (with_reducible repeat (first | apply Kd.R_alloc | apply Kd.R_drewN | apply Kd.R_drew)); exact HO_8.out⟩, ⟨by repeat (first | (with_reducible first | exact HB.out | apply below_alloc | apply pw_below_drewN | apply below_drew1) | exact HB.out)⟩⟩
                · rw [if_neg c13] at H
                  have c13b0 : decide ((bt a0 x1_1) < 32) = false := decide_eq_false c13
                  clear c13
                  (first | rw [c13b0] | (simp only [i64_w, i32_w]; rw [c13b0]) | skip)
                  have H' := Aside0.mk H
                  clear H
                  go_wp2
                  go_meet
                  case rel => exact ⟨_, (decide ((bt a0 x1_1) > 126)), (by first | rfl | (simp; done) | (simp [*]; done)), H', ⟨by have := HK1.out; first | omega | exact Nat.le_refl _⟩, ⟨by (with_reducible repeat (first | apply Kd.R_alloc | apply Kd.R_drewN | apply Kd.R_drew)); exact HO_8.out⟩, ⟨by repeat (first | (with_reducible first | exact HB.out | apply below_alloc | apply pw_below_drewN | apply below_drew1) | exact HB.out)⟩⟩
              case rest =>
                clear HC12
                try clear c1
                try clear hcv1
                try clear p2
                try clear c3
                try clear c3b0
                try clear c4
                try clear c4b0
                try clear c5
                try clear c5b0
                try clear p6
                try clear q6
                try clear hx6
                try clear c7
                try clear c7b0
                try clear c7b1
                try clear c8
                try clear c8b0
                try clear c8b1
                try clear hcv11
                try clear c13
                try clear c13b0
                try clear p2
                try clear p6
                try clear q6
                obtain ⟨kq, x30_11, rfl, HA, HJ11, HO_8, HB⟩ := hcut
                cases kq with
                | zero => exact absurd HA.out (by simp [keystoneref12_quoted.j1])
                | succ kj11 =>
                  have H := HA.out
                  clear HA
                  simp only [keystoneref12_quoted.j1] at H
                  by_cases c14 : x30_11 = true
                  · subst c14
                    have H1 : (some ((⟨#[]⟩ : ByteArray), x1_1, 123)) = some (r1, r2, r3) := by rw [if_pos rfl] at H; exact H
                    clear H
                    have H := H1
                    clear H1
                    simp only [Option.some.injEq, Prod.mk.injEq] at H
                    obtain ⟨rfl, rfl, rfl⟩ := H
                    go_wp2
                    go_ret3
                    exact ⟨by first | rfl | (simp [errW_none, errW_some] <;> rfl) | (simp [*, errW_none, errW_some] <;> rfl), by repeat (first | (with_reducible first | exact HB.out | apply below_alloc | apply pw_below_drewN | apply below_drew1) | exact HB.out)⟩
                  · replace c14 := Bool.eq_false_iff.mpr c14
                    subst c14
                    have H1 : (if (bt a0 x1_1) = 92 then (if (wrap64 (x1_1 + 1)) ≥ (a0.size : Int) then (some ((⟨#[]⟩ : ByteArray), (a0.size : Int), 123)) else (if 0 ≤ (wrap64 (x1_1 + 1)) then (if (wrap64 (x1_1 + 1)) < (a0.size : Int) then (if (bt a0 (wrap64 (x1_1 + 1))) = 34 then (keystoneref12_quoted.j2 kj11 a0 (wrap64 (x1_1 + 1)) a1 x8_1 (bt a0 (wrap64 (x1_1 + 1))) ((bt a0 (wrap64 (x1_1 + 1))) == 34)) else (keystoneref12_quoted.j2 kj11 a0 (wrap64 (x1_1 + 1)) a1 x8_1 (bt a0 (wrap64 (x1_1 + 1))) ((bt a0 (wrap64 (x1_1 + 1))) == 92))) else (none)) else (none))) else (if x8_1.length < 140737488355328 then (keystoneref12_quoted.l0 kj11 a0 (wrap64 (x1_1 + 1)) a1 (x8_1 ++ [(bt a0 x1_1)])) else (none))) = some (r1, r2, r3) := by rw [if_neg (show ¬ (false = true) by decide)] at H; exact H
                    clear H
                    have H := H1
                    clear H1
                    by_cases c15 : (bt a0 x1_1) = 92
                    · rw [if_pos c15] at H
                      have c15b0 : ((bt a0 x1_1) == 92) = true := beq_iff_eq.mpr c15
                      have c15b1 : ((bt a0 x1_1) != 92) = false := bne_eq_false_iff_eq.mpr c15
                      clear c15
                      by_cases c16 : (wrap64 (x1_1 + 1)) ≥ (a0.size : Int)
                      · rw [if_pos c16] at H
                        have c16b0 : decide ((a0.size : Int) ≤ (wrap64 (x1_1 + 1))) = true := decide_eq_true c16
                        clear c16
                        simp only [Option.some.injEq, Prod.mk.injEq] at H
                        obtain ⟨rfl, rfl, rfl⟩ := H
                        go_wp2
                        go_ret3
                        exact ⟨by first | rfl | (simp [errW_none, errW_some] <;> rfl) | (simp [*, errW_none, errW_some] <;> rfl), by repeat (first | (with_reducible first | exact HB.out | apply below_alloc | apply pw_below_drewN | apply below_drew1) | exact HB.out)⟩
                      · rw [if_neg c16] at H
                        have c16b0 : decide ((a0.size : Int) ≤ (wrap64 (x1_1 + 1))) = false := decide_eq_false c16
                        clear c16
                        obtain ⟨ji17, hji17⟩ : ∃ j_ : Int, (wrap64 (x1_1 + 1)) = j_ := ⟨_, rfl⟩
                        replace H : (if 0 ≤ (ji17) then (if (ji17) < (a0.size : Int) then (if (bt a0 (ji17)) = 34 then (keystoneref12_quoted.j2 kj11 a0 ji17 a1 x8_1 (bt a0 (ji17)) ((bt a0 (ji17)) == 34)) else (keystoneref12_quoted.j2 kj11 a0 ji17 a1 x8_1 (bt a0 (ji17)) ((bt a0 (ji17)) == 92))) else (none)) else (none)) = some (r1, r2, r3) := by first | (rw [hji17] at H; exact H) | (simp only [hji17] at H ⊢; exact H)
                        (try rw [hji17] at c16b0)
                        have hji17w : (IntKind.i64.wrap (x1_1 + 1)) = ji17 := (i64_w _).trans hji17
                        by_cases c18 : 0 ≤ (ji17)
                        · rw [if_pos c18] at H
                          have c18b0 : decide (0 ≤ (ji17)) = true := decide_eq_true c18
                          clear c18
                          by_cases c19 : (ji17) < (a0.size : Int)
                          · rw [if_pos c19] at H
                            have c19b0 : decide ((ji17) < (a0.size : Int)) = true := decide_eq_true c19
                            clear c19
                            have HC21 := Aside0.mk H
                            clear H
                            have p20 : 0 ≤ ((ji17) : Int) := of_decide_eq_true (by first | (with_reducible assumption) | assumption)
                            have q20 : (ji17) < (a0.size : Int) := of_decide_eq_true (by first | (with_reducible assumption) | assumption)
                            have hx20 := bt_at a0 (ji17)
                            replace p20 := eq_true p20
                            replace q20 := eq_true q20
                            go_upto_if 50 with (fail)
                            go_cut [50] (fun v50 wc => ∃ (kq : Nat) (x50_20 : Bool), v50 = .bool x50_20 ∧ Aside0 (keystoneref12_quoted.j2 kq a0 ji17 a1 x8_1 (bt a0 (ji17)) x50_20 = some (r1, r2, r3)) ∧ Aside0 (kq ≤ kj11) ∧ Aside0 (Kd.R (Kd.int .u8) 5 wc w.heap.size (fun _ => True) u8 x8_1) ∧ Aside0 (Below w.heap.size w wc))
                            case first =>
                              have H := HC21.out
                              clear HC21
                              by_cases c22 : (bt a0 (ji17)) = 34
                              · rw [if_pos c22] at H
                                have c22b0 : ((bt a0 (ji17)) == 34) = true := beq_iff_eq.mpr c22
                                have c22b1 : ((bt a0 (ji17)) != 34) = false := bne_eq_false_iff_eq.mpr c22
                                clear c22
                                (first | rw [c22b0] | (simp only [i64_w, i32_w]; rw [c22b0]) | skip)
                                have H' := Aside0.mk H
                                clear H
                                go_wp2
                                go_meet
                                case rel => exact ⟨_, (((bt a0 (ji17)) == 34)), (by first | rfl | (simp; done) | (simp only [← hji17] <;> (first | rfl | (simp; done))) | (simp [*]; done)), H', ⟨by have := HK1.out; have := HJ11.out; first | omega | exact Nat.le_refl _⟩, ⟨by (with_reducible repeat (first | apply Kd.R_alloc | apply Kd.R_drewN | apply Kd.R_drew)); exact HO_8.out⟩, ⟨by repeat (first | (with_reducible first | exact HB.out | apply below_alloc | apply pw_below_drewN | apply below_drew1) | exact HB.out)⟩⟩
                              · rw [if_neg c22] at H
                                have c22b0 : ((bt a0 (ji17)) == 34) = false := beq_eq_false_iff_ne.mpr c22
                                have c22b1 : ((bt a0 (ji17)) != 34) = true := bne_iff_ne.mpr c22
                                (first | rw [c22b0] | (simp only [i64_w, i32_w]; rw [c22b0]) | skip)
                                have H' := Aside0.mk H
                                clear H
                                go_wp2
                                go_meet
                                case rel => exact ⟨_, (((bt a0 (ji17)) == 92)), (by first | rfl | (simp; done) | (simp only [← hji17] <;> (first | rfl | (simp; done))) | (simp [*]; done)), H', ⟨by have := HK1.out; have := HJ11.out; first | omega | exact Nat.le_refl _⟩, ⟨by (with_reducible repeat (first | apply Kd.R_alloc | apply Kd.R_drewN | apply Kd.R_drew)); exact HO_8.out⟩, ⟨by repeat (first | (with_reducible first | exact HB.out | apply below_alloc | apply pw_below_drewN | apply below_drew1) | exact HB.out)⟩⟩
                            case rest =>
                              clear HC21
                              try clear c1
                              try clear hcv1
                              try clear c2
                              try clear p2
                              try clear q2
                              try clear hx2
                              try clear c3
                              try clear c3b0
                              try clear c4
                              try clear c4b0
                              try clear c5
                              try clear c5b0
                              try clear p6
                              try clear q6
                              try clear hx6
                              try clear c7
                              try clear c7b0
                              try clear c7b1
                              try clear c8
                              try clear c8b0
                              try clear c8b1
                              try clear hcv11
                              try clear c13
                              try clear c13b0
                              try clear c14
                              try clear c15
                              try clear c15b0
                              try clear c15b1
                              try clear c16
                              try clear c16b0
                              try clear c18
                              try clear c18b0
                              try clear c19
                              try clear c19b0
                              try clear p20
                              try clear q20
                              try clear hx20
                              try clear c22
                              try clear c22b0
                              try clear c22b1
                              try clear p2
                              try clear p20
                              try clear p6
                              try clear q20
                              try clear q6
                              obtain ⟨kq, x50_20, rfl, HA, HJ20, HO_8, HB⟩ := hcut
                              cases kq with
                              | zero => exact absurd HA.out (by simp [keystoneref12_quoted.j2])
                              | succ kj20 =>
                                have H := HA.out
                                clear HA
                                simp only [keystoneref12_quoted.j2] at H
                                by_cases c23 : x50_20 = true
                                · subst c23
                                  have H1 : (if 0 ≤ ji17 then (if ji17 < (a0.size : Int) then (if x8_1.length < 140737488355328 then (keystoneref12_quoted.l0 kj20 a0 (wrap64 (ji17 + 1)) a1 (x8_1 ++ [bt a0 ji17])) else (none)) else (none)) else (none)) = some (r1, r2, r3) := by rw [if_pos rfl] at H; exact H
                                  clear H
                                  have H := H1
                                  clear H1
                                  by_cases c24 : 0 ≤ ji17
                                  · rw [if_pos c24] at H
                                    have c24b0 : decide (0 ≤ ji17) = true := decide_eq_true c24
                                    clear c24
                                    by_cases c25 : ji17 < (a0.size : Int)
                                    · rw [if_pos c25] at H
                                      have c25b0 : decide (ji17 < (a0.size : Int)) = true := decide_eq_true c25
                                      clear c25
                                      by_cases c27 : x8_1.length < 140737488355328
                                      · rw [if_pos c27] at H
                                        have LMc27 := Aside0.mk c27
                                        clear c27
                                        obtain ⟨y218, hy218⟩ : ∃ y_ : List Int, y_ = (x8_1 ++ [bt a0 ji17]) := ⟨_, rfl⟩
                                        replace H : (keystoneref12_quoted.l0 kj20 a0 (wrap64 (ji17 + 1)) a1 y218) = some (r1, r2, r3) := by first | (rw [hy218]; with_reducible exact H) | (have H2_ := (Option.bind_some _ _).symm.trans H; rw [hy218]; with_reducible exact H2_) | (have H2_ := (Option.bind_some _ _).symm.trans H; with_reducible exact H2_) | with_reducible exact H | (rw [hy218]; exact H) | exact H
                                        have Ny218 := Aside0.mk hy218
                                        clear hy218
                                        have H' := Aside0.mk H
                                        clear H
                                        have p26 : 0 ≤ (ji17 : Int) := of_decide_eq_true (by first | (with_reducible assumption) | assumption)
                                        have q26 : ji17 < (a0.size : Int) := of_decide_eq_true (by first | (with_reducible assumption) | assumption)
                                        have hx26 := bt_at a0 ji17
                                        replace p26 := eq_true p26
                                        replace q26 := eq_true q26
                                        go_wp2_with (first | ((with_reducible refine gate_builtin (b := .append) (xs := #[.tmp 53, .tmp 57]) rfl ?_); at_builtin; refine Kd.R_append (Kd.int .u8) (w0 := w) w.heap.size rfl (.tmp 53) (.tmp 57) 57 5 (.int .u8 0) 1 rfl Tryd.underlying57 info5 rfl (by decide) (by omega) u8 x8_1 (bt a0 ji17) [.int .u8 (bt a0 ji17)] (fun _ => True) (fun _ => False) rfl rfl ?aP (fun _ hk => hk.elim) ?aF ?aO ?aB ?aS ?aL ?_; (case aP => exact rfl); (case aB => exact (by repeat (first | (with_reducible first | exact HB.out | apply below_alloc | apply pw_below_drewN | apply below_drew1) | exact HB.out))); (case aF => exact (fun _ _ => trivial)); (case aO => exact (by (with_reducible repeat (first | apply Kd.R_alloc | apply Kd.R_drewN | apply Kd.R_drew)); exact HO_8.out)); (case aS => exact (below_size (by repeat (first | (with_reducible first | exact HB.out | apply below_alloc | apply pw_below_drewN | apply below_drew1) | exact HB.out)))); (case aL => have := LMc27.out; first | omega | (simp only [ByteArray.size, List.size_toArray, List.length_cons, List.length_nil] at *; omega) | (show _ + (_ : Nat) ≤ _; simp only [ByteArray.size, List.size_toArray, List.length_cons, List.length_nil]; omega)); intro v219 w28 ho hb hg hat; rw [← Ny218.out] at ho; have n0_ := Aside0.mk (hb); have n1_ := Aside0.mk (ho); clear HB; clear HO_8; have HB := n0_; have HO220 := n1_; clear n0_ n1_; clear ho hb hg hat))
                                        go_roundg kj20
                                        case measure => have := HK1.out; have := HJ11.out; have := HJ20.out; omega
                                        case rel => exact ⟨(wrap64 (ji17 + 1)), (y218), (by first | rfl | (simp; done) | (simp only [← hji17] <;> (first | rfl | (simp; done))) | (simp [*]; done)), H', ⟨by have := HK1.out; have := HJ11.out; have := HJ20.out; omega⟩, ⟨by (with_reducible repeat (first | apply Kd.R_alloc | apply Kd.R_drewN | apply Kd.R_drew)); exact HO220.out⟩, ⟨by repeat (first | (with_reducible first | exact HB.out | apply below_alloc | apply pw_below_drewN | apply below_drew1) | exact HB.out)⟩⟩
                                      · rw [if_neg c27] at H
                                        exact absurd H (by simp)
                                    · rw [if_neg c25] at H
                                      exact absurd H (by simp)
                                  · rw [if_neg c24] at H
                                    exact absurd H (by simp)
                                · replace c23 := Bool.eq_false_iff.mpr c23
                                  subst c23
                                  have H1 : (if (bt a0 (ji17)) = 110 then (if x8_1.length < 140737488355328 then (keystoneref12_quoted.l0 kj20 a0 (wrap64 (ji17 + 1)) a1 (x8_1 ++ [10])) else (none)) else (if (bt a0 (ji17)) = 116 then (if x8_1.length < 140737488355328 then (keystoneref12_quoted.l0 kj20 a0 (wrap64 (ji17 + 1)) a1 (x8_1 ++ [9])) else (none)) else (if (bt a0 (ji17)) = 120 then (keystoneref12_quoted.l1 kj20 a0 ji17 a1 x8_1 1) else (some ((⟨#[]⟩ : ByteArray), ji17, 123))))) = some (r1, r2, r3) := by rw [if_neg (show ¬ (false = true) by decide)] at H; exact H
                                  clear H
                                  have H := H1
                                  clear H1
                                  by_cases c29 : (bt a0 (ji17)) = 110
                                  · rw [if_pos c29] at H
                                    have c29b0 : ((bt a0 (ji17)) == 110) = true := beq_iff_eq.mpr c29
                                    have c29b1 : ((bt a0 (ji17)) != 110) = false := bne_eq_false_iff_eq.mpr c29
                                    clear c29
                                    by_cases c30 : x8_1.length < 140737488355328
                                    · rw [if_pos c30] at H
                                      have LMc30 := Aside0.mk c30
                                      clear c30
                                      obtain ⟨y221, hy221⟩ : ∃ y_ : List Int, y_ = (x8_1 ++ [10]) := ⟨_, rfl⟩
                                      replace H : (keystoneref12_quoted.l0 kj20 a0 (wrap64 (ji17 + 1)) a1 y221) = some (r1, r2, r3) := by first | (rw [hy221]; with_reducible exact H) | (have H2_ := (Option.bind_some _ _).symm.trans H; rw [hy221]; with_reducible exact H2_) | (have H2_ := (Option.bind_some _ _).symm.trans H; with_reducible exact H2_) | with_reducible exact H | (rw [hy221]; exact H) | exact H
                                      have Ny221 := Aside0.mk hy221
                                      clear hy221
                                      have H' := Aside0.mk H
                                      clear H
                                      go_wp2_with (first | ((with_reducible refine gate_builtin (b := .append) (xs := #[.tmp 61, .tmp 62]) rfl ?_); at_builtin; refine Kd.R_append (Kd.int .u8) (w0 := w) w.heap.size rfl (.tmp 61) (.tmp 62) 57 5 (.int .u8 0) 1 rfl Tryd.underlying57 info5 rfl (by decide) (by omega) u8 x8_1 10 [.int .u8 10] (fun _ => True) (fun _ => False) rfl rfl ?aP (fun _ hk => hk.elim) ?aF ?aO ?aB ?aS ?aL ?_; (case aP => exact rfl); (case aB => exact (by repeat (first | (with_reducible first | exact HB.out | apply below_alloc | apply pw_below_drewN | apply below_drew1) | exact HB.out))); (case aF => exact (fun _ _ => trivial)); (case aO => exact (by (with_reducible repeat (first | apply Kd.R_alloc | apply Kd.R_drewN | apply Kd.R_drew)); exact HO_8.out)); (case aS => exact (below_size (by repeat (first | (with_reducible first | exact HB.out | apply below_alloc | apply pw_below_drewN | apply below_drew1) | exact HB.out)))); (case aL => have := LMc30.out; first | omega | (simp only [ByteArray.size, List.size_toArray, List.length_cons, List.length_nil] at *; omega) | (show _ + (_ : Nat) ≤ _; simp only [ByteArray.size, List.size_toArray, List.length_cons, List.length_nil]; omega)); intro v222 w31 ho hb hg hat; rw [← Ny221.out] at ho; have n0_ := Aside0.mk (hb); have n1_ := Aside0.mk (ho); clear HB; clear HO_8; have HB := n0_; have HO223 := n1_; clear n0_ n1_; clear ho hb hg hat))
                                      go_roundg kj20
                                      case measure => have := HK1.out; have := HJ11.out; have := HJ20.out; omega
                                      case rel => exact ⟨(wrap64 (ji17 + 1)), (y221), (by first | rfl | (simp; done) | (simp only [← hji17] <;> (first | rfl | (simp; done))) | (simp [*]; done)), H', ⟨by have := HK1.out; have := HJ11.out; have := HJ20.out; omega⟩, ⟨by (with_reducible repeat (first | apply Kd.R_alloc | apply Kd.R_drewN | apply Kd.R_drew)); exact HO223.out⟩, ⟨by repeat (first | (with_reducible first | exact HB.out | apply below_alloc | apply pw_below_drewN | apply below_drew1) | exact HB.out)⟩⟩
                                    · rw [if_neg c30] at H
                                      exact absurd H (by simp)
                                  · rw [if_neg c29] at H
                                    have c29b0 : ((bt a0 (ji17)) == 110) = false := beq_eq_false_iff_ne.mpr c29
                                    have c29b1 : ((bt a0 (ji17)) != 110) = true := bne_iff_ne.mpr c29
                                    by_cases c32 : (bt a0 (ji17)) = 116
                                    · rw [if_pos c32] at H
                                      have c32b0 : ((bt a0 (ji17)) == 116) = true := beq_iff_eq.mpr c32
                                      have c32b1 : ((bt a0 (ji17)) != 116) = false := bne_eq_false_iff_eq.mpr c32
                                      clear c32
                                      by_cases c33 : x8_1.length < 140737488355328
                                      · rw [if_pos c33] at H
                                        have LMc33 := Aside0.mk c33
                                        clear c33
                                        obtain ⟨y224, hy224⟩ : ∃ y_ : List Int, y_ = (x8_1 ++ [9]) := ⟨_, rfl⟩
                                        replace H : (keystoneref12_quoted.l0 kj20 a0 (wrap64 (ji17 + 1)) a1 y224) = some (r1, r2, r3) := by first | (rw [hy224]; with_reducible exact H) | (have H2_ := (Option.bind_some _ _).symm.trans H; rw [hy224]; with_reducible exact H2_) | (have H2_ := (Option.bind_some _ _).symm.trans H; with_reducible exact H2_) | with_reducible exact H | (rw [hy224]; exact H) | exact H
                                        have Ny224 := Aside0.mk hy224
                                        clear hy224
                                        have H' := Aside0.mk H
                                        clear H
                                        go_wp2_with (first | ((with_reducible refine gate_builtin (b := .append) (xs := #[.tmp 66, .tmp 67]) rfl ?_); at_builtin; refine Kd.R_append (Kd.int .u8) (w0 := w) w.heap.size rfl (.tmp 66) (.tmp 67) 57 5 (.int .u8 0) 1 rfl Tryd.underlying57 info5 rfl (by decide) (by omega) u8 x8_1 9 [.int .u8 9] (fun _ => True) (fun _ => False) rfl rfl ?aP (fun _ hk => hk.elim) ?aF ?aO ?aB ?aS ?aL ?_; (case aP => exact rfl); (case aB => exact (by repeat (first | (with_reducible first | exact HB.out | apply below_alloc | apply pw_below_drewN | apply below_drew1) | exact HB.out))); (case aF => exact (fun _ _ => trivial)); (case aO => exact (by (with_reducible repeat (first | apply Kd.R_alloc | apply Kd.R_drewN | apply Kd.R_drew)); exact HO_8.out)); (case aS => exact (below_size (by repeat (first | (with_reducible first | exact HB.out | apply below_alloc | apply pw_below_drewN | apply below_drew1) | exact HB.out)))); (case aL => have := LMc33.out; first | omega | (simp only [ByteArray.size, List.size_toArray, List.length_cons, List.length_nil] at *; omega) | (show _ + (_ : Nat) ≤ _; simp only [ByteArray.size, List.size_toArray, List.length_cons, List.length_nil]; omega)); intro v225 w34 ho hb hg hat; rw [← Ny224.out] at ho; have n0_ := Aside0.mk (hb); have n1_ := Aside0.mk (ho); clear HB; clear HO_8; have HB := n0_; have HO226 := n1_; clear n0_ n1_; clear ho hb hg hat))
                                        go_roundg kj20
                                        case measure => have := HK1.out; have := HJ11.out; have := HJ20.out; omega
                                        case rel => exact ⟨(wrap64 (ji17 + 1)), (y224), (by first | rfl | (simp; done) | (simp only [← hji17] <;> (first | rfl | (simp; done))) | (simp [*]; done)), H', ⟨by have := HK1.out; have := HJ11.out; have := HJ20.out; omega⟩, ⟨by (with_reducible repeat (first | apply Kd.R_alloc | apply Kd.R_drewN | apply Kd.R_drew)); exact HO226.out⟩, ⟨by repeat (first | (with_reducible first | exact HB.out | apply below_alloc | apply pw_below_drewN | apply below_drew1) | exact HB.out)⟩⟩
                                      · rw [if_neg c33] at H
                                        exact absurd H (by simp)
                                    · rw [if_neg c32] at H
                                      have c32b0 : ((bt a0 (ji17)) == 116) = false := beq_eq_false_iff_ne.mpr c32
                                      have c32b1 : ((bt a0 (ji17)) != 116) = true := bne_iff_ne.mpr c32
                                      by_cases c35 : (bt a0 (ji17)) = 120
                                      · rw [if_pos c35] at H
                                        have c35b0 : ((bt a0 (ji17)) == 120) = true := beq_iff_eq.mpr c35
                                        have c35b1 : ((bt a0 (ji17)) != 120) = false := bne_eq_false_iff_eq.mpr c35
                                        clear c35
                                        have H' := Aside0.mk H
                                        clear H
                                        go_wp2
                                        go_loopg [10] kj20 (fun kq v10 w' => ∃ (x10_4 : Int), v10 = .int .i64 x10_4 ∧ Aside0 (keystoneref12_quoted.l1 kq a0 ji17 a1 x8_1 x10_4 = some (r1, r2, r3)) ∧ Aside0 (kq ≤ kj20) ∧ Aside0 (Kd.R (Kd.int .u8) 5 w' w.heap.size (fun _ => True) u8 x8_1) ∧ Aside0 (Below w.heap.size w w'))
                                        case atStart => exact ⟨(1), (by first | rfl | (simp; done) | (simp [*]; done)), H', ⟨Nat.le_refl _⟩, ⟨by (with_reducible repeat (first | apply Kd.R_alloc | apply Kd.R_drewN | apply Kd.R_drew)); exact HO_8.out⟩, ⟨by repeat (first | (with_reducible first | exact HB.out | apply below_alloc | apply pw_below_drewN | apply below_drew1) | exact HB.out)⟩⟩
                                        case round =>
                                          clear H'
                                          try clear c1
                                          try clear hcv1
                                          try clear c2
                                          try clear p2
                                          try clear q2
                                          try clear hx2
                                          try clear c3
                                          try clear c3b0
                                          try clear c4
                                          try clear c4b0
                                          try clear c5
                                          try clear c5b0
                                          try clear p6
                                          try clear q6
                                          try clear hx6
                                          try clear c7
                                          try clear c7b0
                                          try clear c7b1
                                          try clear c8
                                          try clear c8b0
                                          try clear c8b1
                                          try clear hcv11
                                          try clear c13
                                          try clear c13b0
                                          try clear c14
                                          try clear c15
                                          try clear c15b0
                                          try clear c15b1
                                          try clear c16
                                          try clear c16b0
                                          try clear c18
                                          try clear c18b0
                                          try clear c19
                                          try clear c19b0
                                          try clear p20
                                          try clear q20
                                          try clear hx20
                                          try clear c22
                                          try clear c22b0
                                          try clear c22b1
                                          try clear c23
                                          try clear c24
                                          try clear c24b0
                                          try clear c25
                                          try clear c25b0
                                          try clear p26
                                          try clear q26
                                          try clear hx26
                                          try clear c27
                                          try clear c29
                                          try clear c29b0
                                          try clear c29b1
                                          try clear c30
                                          try clear c32
                                          try clear c32b0
                                          try clear c32b1
                                          try clear c33
                                          try clear c35
                                          try clear c35b0
                                          try clear c35b1
                                          try clear p2
                                          try clear p20
                                          try clear p26
                                          try clear p6
                                          try clear q2
                                          try clear q20
                                          try clear q26
                                          try clear q6
                                          obtain ⟨x10_4, rfl, HA, HK4, HO_8, HB⟩ := hrel
                                          cases gk with
                                          | zero => exact absurd HA.out (by simp [keystoneref12_quoted.l1])
                                          | succ k4 =>
                                            have H := HA.out
                                            clear HA
                                            simp only [keystoneref12_quoted.l1] at H
                                            by_cases c36 : x10_4 ≤ 2
                                            · rw [if_pos c36] at H
                                              have c36b0 : decide (x10_4 ≤ 2) = true := decide_eq_true c36
                                              clear c36
                                              by_cases c37 : (wrap64 (ji17 + x10_4)) ≥ (a0.size : Int)
                                              · rw [if_pos c37] at H
                                                have c37b0 : decide ((a0.size : Int) ≤ (wrap64 (ji17 + x10_4))) = true := decide_eq_true c37
                                                clear c37
                                                simp only [Option.some.injEq, Prod.mk.injEq] at H
                                                obtain ⟨rfl, rfl, rfl⟩ := H
                                                go_wp2
                                                go_ret3
                                                exact ⟨by first | rfl | (simp [errW_none, errW_some] <;> rfl) | (simp only [← hji17]; first | rfl | (simp [errW_none, errW_some] <;> rfl)) | (simp [*, errW_none, errW_some] <;> rfl), by repeat (first | (with_reducible first | exact HB.out | apply below_alloc | apply pw_below_drewN | apply below_drew1) | exact HB.out)⟩
                                              · rw [if_neg c37] at H
                                                have c37b0 : decide ((a0.size : Int) ≤ (wrap64 (ji17 + x10_4))) = false := decide_eq_false c37
                                                clear c37
                                                obtain ⟨ji38, hji38⟩ : ∃ j_ : Int, (wrap64 (ji17 + x10_4)) = j_ := ⟨_, rfl⟩
                                                replace H : (if 0 ≤ (ji38) then (if (ji38) < (a0.size : Int) then ((keystoneref12_hex.f (bt a0 (ji38))).bind fun t232 => (if t232 < 0 then (some ((⟨#[]⟩ : ByteArray), ji38, 123)) else (keystoneref12_quoted.l1 k4 a0 ji17 a1 x8_1 (wrap64 (x10_4 + 1))))) else (none)) else (none)) = some (r1, r2, r3) := by first | (rw [hji38] at H; exact H) | (simp only [hji38] at H ⊢; exact H)
                                                (try rw [hji38] at c37b0)
                                                have hji38w : (IntKind.i64.wrap (ji17 + x10_4)) = ji38 := (i64_w _).trans hji38
                                                by_cases c39 : 0 ≤ (ji38)
                                                · rw [if_pos c39] at H
                                                  have c39b0 : decide (0 ≤ (ji38)) = true := decide_eq_true c39
                                                  clear c39
                                                  by_cases c40 : (ji38) < (a0.size : Int)
                                                  · rw [if_pos c40] at H
                                                    have c40b0 : decide ((ji38) < (a0.size : Int)) = true := decide_eq_true c40
                                                    clear c40
                                                    replace H := Option.bind_eq_some_iff.mp H
                                                    obtain ⟨t232, A420, H⟩ := H
                                                    replace H : (if t232 < 0 then (some ((⟨#[]⟩ : ByteArray), ji38, 123)) else (keystoneref12_quoted.l1 k4 a0 ji17 a1 x8_1 (wrap64 (x10_4 + 1)))) = some (r1, r2, r3) := H
                                                    have A42 := Aside0.mk A420
                                                    clear A420
                                                    by_cases c43 : t232 < 0
                                                    · rw [if_pos c43] at H
                                                      have c43b0 : decide (t232 < 0) = true := decide_eq_true c43
                                                      clear c43
                                                      simp only [Option.some.injEq, Prod.mk.injEq] at H
                                                      obtain ⟨rfl, rfl, rfl⟩ := H
                                                      have p41 : 0 ≤ ((ji38) : Int) := of_decide_eq_true (by first | (with_reducible assumption) | assumption)
                                                      have q41 : (ji38) < (a0.size : Int) := of_decide_eq_true (by first | (with_reducible assumption) | assumption)
                                                      have hx41 := bt_at a0 (ji38)
                                                      replace p41 := eq_true p41
                                                      replace q41 := eq_true q41
                                                      go_wp2_with (first | ((with_reducible refine gate_callee (f := 62) rfl ?_); refine goesL_ (some 88) rfl rfl Tryd.func62 (by kernel_rfl) rfl #[.int .u8 (bt a0 (ji38))] rfl (by (try simp only [List.map_toArray, List.map_cons, List.map_nil]); first | done | (simp only [hji38]; rfl) | rfl | (simp only [List.length_drop, List.length_take]; rfl)) ?_; (with_reducible refine (keystoneref12_hex.calls (bt a0 (ji38)) t232 _ A42.out).mono ?_); rintro e w' ⟨rfl, ⟨nd, rfl⟩⟩; refine ⟨_, rfl, ?_⟩))
                                                      go_ret3
                                                      exact ⟨by first | rfl | (simp [errW_none, errW_some] <;> rfl) | (simp only [← hji17, ← hji38]; first | rfl | (simp [errW_none, errW_some] <;> rfl)) | (simp [*, errW_none, errW_some] <;> rfl), by repeat (first | (with_reducible first | exact HB.out | apply below_alloc | apply pw_below_drewN | apply below_drew1) | exact HB.out)⟩
                                                    · rw [if_neg c43] at H
                                                      have c43b0 : decide (t232 < 0) = false := decide_eq_false c43
                                                      clear c43
                                                      have H' := Aside0.mk H
                                                      clear H
                                                      have p41 : 0 ≤ ((ji38) : Int) := of_decide_eq_true (by first | (with_reducible assumption) | assumption)
                                                      have q41 : (ji38) < (a0.size : Int) := of_decide_eq_true (by first | (with_reducible assumption) | assumption)
                                                      have hx41 := bt_at a0 (ji38)
                                                      replace p41 := eq_true p41
                                                      replace q41 := eq_true q41
                                                      go_wp2_with (first | ((with_reducible refine gate_callee (f := 62) rfl ?_); refine goesL_ (some 88) rfl rfl Tryd.func62 (by kernel_rfl) rfl #[.int .u8 (bt a0 (ji38))] rfl (by (try simp only [List.map_toArray, List.map_cons, List.map_nil]); first | done | (simp only [hji38]; rfl) | rfl | (simp only [List.length_drop, List.length_take]; rfl)) ?_; (with_reducible refine (keystoneref12_hex.calls (bt a0 (ji38)) t232 _ A42.out).mono ?_); rintro e w' ⟨rfl, ⟨nd, rfl⟩⟩; refine ⟨_, rfl, ?_⟩))
                                                      go_roundg k4
                                                      case measure => have := HK1.out; have := HJ11.out; have := HJ20.out; have := HK4.out; omega
                                                      case rel => exact ⟨(wrap64 (x10_4 + 1)), (by first | rfl | (simp; done) | (simp [*]; done)), H', ⟨by have := HK1.out; have := HJ11.out; have := HJ20.out; have := HK4.out; omega⟩, ⟨by (with_reducible repeat (first | apply Kd.R_alloc | apply Kd.R_drewN | apply Kd.R_drew)); exact HO_8.out⟩, ⟨by repeat (first | (with_reducible first | exact HB.out | apply below_alloc | apply pw_below_drewN | apply below_drew1) | exact HB.out)⟩⟩
                                                  · rw [if_neg c40] at H
                                                    exact absurd H (by simp)
                                                · rw [if_neg c39] at H
                                                  exact absurd H (by simp)
                                            · rw [if_neg c36] at H
                                              have c36b0 : decide (x10_4 ≤ 2) = false := decide_eq_false c36
                                              clear c36
                                              obtain ⟨ji44, hji44⟩ : ∃ j_ : Int, (wrap64 (ji17 + 1)) = j_ := ⟨_, rfl⟩
                                              replace H : (if 0 ≤ (ji44) then (if (ji44) < (a0.size : Int) then ((keystoneref12_hex.f (bt a0 (ji44))).bind fun t227 => (if 0 ≤ (wrap64 (ji17 + 2)) then (if (wrap64 (ji17 + 2)) < (a0.size : Int) then ((keystoneref12_hex.f (bt a0 (wrap64 (ji17 + 2)))).bind fun t228 => (if x8_1.length < 140737488355328 then (keystoneref12_quoted.l0 k4 a0 (wrap64 ((wrap64 (ji17 + 2)) + 1)) a1 (x8_1 ++ [(wrap64 ((wrap64 (t227 * 16)) + t228)) % 256])) else (none))) else (none)) else (none))) else (none)) else (none)) = some (r1, r2, r3) := by first | (rw [hji44] at H; exact H) | (simp only [hji44] at H ⊢; exact H)
                                              have hji44w : (IntKind.i64.wrap (ji17 + 1)) = ji44 := (i64_w _).trans hji44
                                              by_cases c45 : 0 ≤ (ji44)
                                              · rw [if_pos c45] at H
                                                have c45b0 : decide (0 ≤ (ji44)) = true := decide_eq_true c45
                                                clear c45
                                                by_cases c46 : (ji44) < (a0.size : Int)
                                                · rw [if_pos c46] at H
                                                  have c46b0 : decide ((ji44) < (a0.size : Int)) = true := decide_eq_true c46
                                                  clear c46
                                                  replace H := Option.bind_eq_some_iff.mp H
                                                  obtain ⟨t227, A480, H⟩ := H
                                                  replace H : (if 0 ≤ (wrap64 (ji17 + 2)) then (if (wrap64 (ji17 + 2)) < (a0.size : Int) then ((keystoneref12_hex.f (bt a0 (wrap64 (ji17 + 2)))).bind fun t228 => (if x8_1.length < 140737488355328 then (keystoneref12_quoted.l0 k4 a0 (wrap64 ((wrap64 (ji17 + 2)) + 1)) a1 (x8_1 ++ [(wrap64 ((wrap64 (t227 * 16)) + t228)) % 256])) else (none))) else (none)) else (none)) = some (r1, r2, r3) := H
                                                  have A48 := Aside0.mk A480
                                                  clear A480
                                                  obtain ⟨ji49, hji49⟩ : ∃ j_ : Int, (wrap64 (ji17 + 2)) = j_ := ⟨_, rfl⟩
                                                  replace H : (if 0 ≤ (ji49) then (if (ji49) < (a0.size : Int) then ((keystoneref12_hex.f (bt a0 (ji49))).bind fun t228 => (if x8_1.length < 140737488355328 then (keystoneref12_quoted.l0 k4 a0 (wrap64 ((ji49) + 1)) a1 (x8_1 ++ [(wrap64 ((wrap64 (t227 * 16)) + t228)) % 256])) else (none))) else (none)) else (none)) = some (r1, r2, r3) := by first | (rw [hji49] at H; exact H) | (simp only [hji49] at H ⊢; exact H)
                                                  (try rw [hji49] at A48)
                                                  have hji49w : (IntKind.i64.wrap (ji17 + 2)) = ji49 := (i64_w _).trans hji49
                                                  by_cases c50 : 0 ≤ (ji49)
                                                  · rw [if_pos c50] at H
                                                    have c50b0 : decide (0 ≤ (ji49)) = true := decide_eq_true c50
                                                    clear c50
                                                    by_cases c51 : (ji49) < (a0.size : Int)
                                                    · rw [if_pos c51] at H
                                                      have c51b0 : decide ((ji49) < (a0.size : Int)) = true := decide_eq_true c51
                                                      clear c51
                                                      replace H := Option.bind_eq_some_iff.mp H
                                                      obtain ⟨t228, A530, H⟩ := H
                                                      replace H : (if x8_1.length < 140737488355328 then (keystoneref12_quoted.l0 k4 a0 (wrap64 ((ji49) + 1)) a1 (x8_1 ++ [(wrap64 ((wrap64 (t227 * 16)) + t228)) % 256])) else (none)) = some (r1, r2, r3) := H
                                                      have A53 := Aside0.mk A530
                                                      clear A530
                                                      by_cases c54 : x8_1.length < 140737488355328
                                                      · rw [if_pos c54] at H
                                                        have LMc54 := Aside0.mk c54
                                                        clear c54
                                                        obtain ⟨y229, hy229⟩ : ∃ y_ : List Int, y_ = (x8_1 ++ [(wrap64 ((wrap64 (t227 * 16)) + t228)) % 256]) := ⟨_, rfl⟩
                                                        replace H : (keystoneref12_quoted.l0 k4 a0 (wrap64 ((ji49) + 1)) a1 y229) = some (r1, r2, r3) := by first | (rw [hy229]; with_reducible exact H) | (have H2_ := (Option.bind_some _ _).symm.trans H; rw [hy229]; with_reducible exact H2_) | (have H2_ := (Option.bind_some _ _).symm.trans H; with_reducible exact H2_) | with_reducible exact H | (rw [hy229]; exact H) | exact H
                                                        have Ny229 := Aside0.mk hy229
                                                        clear hy229
                                                        have H' := Aside0.mk H
                                                        clear H
                                                        try go_wp2
                                                        have n0_ := Aside0.mk (Kd.R_drew HO_8.out)
                                                        have n1_ := Aside0.mk (below_drew1 HB.out)
                                                        clear HO_8
                                                        clear HB
                                                        have HO_8 := n0_
                                                        have HB := n1_
                                                        clear n0_ n1_
                                                        have p47 : 0 ≤ ((ji44) : Int) := of_decide_eq_true (by first | (with_reducible assumption) | assumption)
                                                        have q47 : (ji44) < (a0.size : Int) := of_decide_eq_true (by first | (with_reducible assumption) | assumption)
                                                        have hx47 := bt_at a0 (ji44)
                                                        replace p47 := eq_true p47
                                                        replace q47 := eq_true q47
                                                        have p52 : 0 ≤ ((ji49) : Int) := of_decide_eq_true (by first | (with_reducible assumption) | assumption)
                                                        have q52 : (ji49) < (a0.size : Int) := of_decide_eq_true (by first | (with_reducible assumption) | assumption)
                                                        have hx52 := bt_at a0 (ji49)
                                                        replace p52 := eq_true p52
                                                        replace q52 := eq_true q52
                                                        refine start_ (n := 17) (S := fun w' => True) (ds := []) #[false, false, false, false, false, false, false, false, false, false, false, false, false, false, false, false, false] (by kernel_rfl) rfl rfl trivial (fun hHeld => ?_); refine with_tabW keystoneref12_quoted.tab32 keystoneref12_quoted.bits32 (fun HT_ HW_ => ?_)
                                                        generalize wr.drew = w55 at HO_8 HB hHeld ⊢
                                                        refine pure_ (i := 0) (N := some 93) (v := ?_) (a' := ?_) #[true, false, false, false, false, false, false, false, false, false, false, false, false, false, false, false, false] rfl rfl (any_of HT_.out (by kernel_rfl)) (fun _ _ _ h => h) (Or.inl ⟨by rfl, ?_⟩) ?_ ?_
                                                        rotate_left
                                                        · intro w'
                                                          go_simp
                                                          with_reducible rfl
                                                        rotate_left
                                                        · simp only [Act.put, List.setIfInBounds_toArray, List.set_cons_zero, List.set_cons_succ, i64_w, i32_w]
                                                          rfl
                                                        refine pure_ (i := 1) (N := some 94) (v := ?_) (a' := ?_) #[true, true, false, false, false, false, false, false, false, false, false, false, false, false, false, false, false] rfl rfl (any_of HT_.out (by kernel_rfl)) (fun _ _ _ h => h) (Or.inl ⟨by rfl, ?_⟩) ?_ ?_
                                                        rotate_left
                                                        · intro w'
                                                          go_simp
                                                          with_reducible rfl
                                                        rotate_left
                                                        · simp only [Act.put, List.setIfInBounds_toArray, List.set_cons_zero, List.set_cons_succ, i64_w, i32_w]
                                                          rfl
                                                        refine pure_ (i := 2) (N := some 95) (v := ?_) (a' := ?_) #[true, true, true, false, false, false, false, false, false, false, false, false, false, false, false, false, false] rfl rfl (any_of HT_.out (by kernel_rfl)) (fun _ _ _ h => h) (Or.inl ⟨by rfl, ?_⟩) ?_ ?_
                                                        rotate_left
                                                        · intro w'
                                                          go_simp
                                                          with_reducible rfl
                                                        rotate_left
                                                        · simp only [Act.put, List.setIfInBounds_toArray, List.set_cons_zero, List.set_cons_succ, i64_w, i32_w]
                                                          rfl
                                                        refine pure_ (i := 3) (N := some 96) (v := ?_) (a' := ?_) #[true, true, true, true, false, false, false, false, false, false, false, false, false, false, false, false, false] rfl rfl (any_of HT_.out (by kernel_rfl)) (fun _ _ _ h => h) (Or.inl ⟨by rfl, ?_⟩) ?_ ?_
                                                        rotate_left
                                                        · intro w'
                                                          go_simp
                                                          with_reducible rfl
                                                        rotate_left
                                                        · simp only [Act.put, List.setIfInBounds_toArray, List.set_cons_zero, List.set_cons_succ, i64_w, i32_w]
                                                          rfl
                                                        refine pure_ (i := 7) (N := some 100) (v := ?_) (a' := ?_) #[true, true, true, true, false, false, false, true, false, false, false, false, false, false, false, false, false] rfl rfl (any_of HT_.out (by kernel_rfl)) (fun _ _ _ h => h) (Or.inl ⟨by rfl, ?_⟩) ?_ ?_
                                                        rotate_left
                                                        · intro w'
                                                          go_simp
                                                          with_reducible rfl
                                                        rotate_left
                                                        · simp only [Act.put, List.setIfInBounds_toArray, List.set_cons_zero, List.set_cons_succ, i64_w, i32_w]
                                                          rfl
                                                        refine pure_ (i := 8) (N := some 101) (v := ?_) (a' := ?_) #[true, true, true, true, false, false, false, true, true, false, false, false, false, false, false, false, false] rfl rfl (any_of HT_.out (by kernel_rfl)) (fun _ _ _ h => h) (Or.inl ⟨by rfl, ?_⟩) ?_ ?_
                                                        rotate_left
                                                        · intro w'
                                                          go_simp
                                                          with_reducible rfl
                                                        rotate_left
                                                        · simp only [Act.put, List.setIfInBounds_toArray, List.set_cons_zero, List.set_cons_succ, i64_w, i32_w]
                                                          rfl
                                                        refine pure_ (i := 9) (N := some 102) (v := ?_) (a' := ?_) #[true, true, true, true, false, false, false, true, true, true, false, false, false, false, false, false, false] rfl rfl (any_of HT_.out (by kernel_rfl)) (fun _ _ _ h => h) (Or.inl ⟨by rfl, ?_⟩) ?_ ?_
                                                        rotate_left
                                                        · intro w'
                                                          go_simp
                                                          with_reducible rfl
                                                        rotate_left
                                                        · simp only [Act.put, List.setIfInBounds_toArray, List.set_cons_zero, List.set_cons_succ, i64_w, i32_w]
                                                          rfl
                                                        refine take_ (i := 4) (N := some 97) (v := ?_) (a' := ?_) #[true, true, true, true, true, false, false, true, true, true, false, false, false, false, false, false, false] rfl rfl (take_ofW HT_.out HW_.out (by kernel_rfl)) (fun _ _ _ h => h) (Or.inl ⟨by rfl, ?_⟩) hHeld ?_ ?_
                                                        rotate_left
                                                        · intro w' _
                                                          go_simp
                                                          with_reducible rfl
                                                        rotate_left
                                                        · simp only [Act.put, List.setIfInBounds_toArray, List.set_cons_zero, List.set_cons_succ, i64_w, i32_w]
                                                          rfl
                                                        refine take_ (i := 10) (N := some 103) (v := ?_) (a' := ?_) #[true, true, true, true, true, false, false, true, true, true, true, false, false, false, false, false, false] rfl rfl (take_ofW HT_.out HW_.out (by kernel_rfl)) (fun _ _ _ h => h) (Or.inl ⟨by rfl, ?_⟩) hHeld ?_ ?_
                                                        rotate_left
                                                        · intro w' _
                                                          go_simp
                                                          with_reducible rfl
                                                        rotate_left
                                                        · simp only [Act.put, List.setIfInBounds_toArray, List.set_cons_zero, List.set_cons_succ, i64_w, i32_w]
                                                          rfl
                                                        refine one_ (i := 5) (N := some 98) #[true, true, true, true, true, true, false, true, true, true, true, false, false, false, false, false, false] rfl rfl (one_of HT_.out (by kernel_rfl)) (by decide) (fun K hK => ?_)
                                                        refine goes_ Tryd.func62 (by kernel_rfl) rfl #[.int .u8 (bt a0 (ji44))] (by rfl) rfl rfl (by (try simp only [List.map_toArray, List.map_cons, List.map_nil]); first | done | (simp only [hji44]; rfl) | rfl | (simp only [List.length_drop, List.length_take]; rfl)) ?_
                                                        with_reducible refine (keystoneref12_hex.calls (bt a0 (ji44)) t227 _ A48.out).mono ?_
                                                        rintro e w' ⟨rfl, ⟨nd, rfl⟩⟩
                                                        refine ⟨_, rfl, ?_⟩
                                                        refine hK.out _ _ trivial (fun hHeld => ?_)
                                                        clear hK K
                                                        refine norm_ (a' := ?_) ?_ ?_
                                                        rotate_left
                                                        · show Act.put _ (some 98) _ = _
                                                          simp only [Act.put, List.setIfInBounds_toArray, List.set_cons_zero, List.set_cons_succ, i64_w, i32_w]
                                                          rfl
                                                        refine pure_ (i := 6) (N := some 99) (v := ?_) (a' := ?_) #[true, true, true, true, true, true, true, true, true, true, true, false, false, false, false, false, false] rfl rfl (any_of HT_.out (by kernel_rfl)) (fun _ _ _ h => h) (Or.inl ⟨by rfl, ?_⟩) ?_ ?_
                                                        rotate_left
                                                        · intro w'
                                                          go_simp
                                                          with_reducible rfl
                                                        rotate_left
                                                        · simp only [Act.put, List.setIfInBounds_toArray, List.set_cons_zero, List.set_cons_succ, i64_w, i32_w]
                                                          rfl
                                                        refine one_ (i := 11) (N := some 104) #[true, true, true, true, true, true, true, true, true, true, true, true, false, false, false, false, false] rfl rfl (one_of HT_.out (by kernel_rfl)) (by decide) (fun K hK => ?_)
                                                        refine goes_ Tryd.func62 (by kernel_rfl) rfl #[.int .u8 (bt a0 (ji49))] (by rfl) rfl rfl (by (try simp only [List.map_toArray, List.map_cons, List.map_nil]); first | done | (simp only [hji49]; rfl) | rfl | (simp only [List.length_drop, List.length_take]; rfl)) ?_
                                                        with_reducible refine (keystoneref12_hex.calls (bt a0 (ji49)) t228 _ A53.out).mono ?_
                                                        rintro e w' ⟨rfl, ⟨nd, rfl⟩⟩
                                                        refine ⟨_, rfl, ?_⟩
                                                        refine hK.out _ _ trivial (fun hHeld => ?_)
                                                        clear hK K
                                                        refine norm_ (a' := ?_) ?_ ?_
                                                        rotate_left
                                                        · show Act.put _ (some 104) _ = _
                                                          simp only [Act.put, List.setIfInBounds_toArray, List.set_cons_zero, List.set_cons_succ, i64_w, i32_w]
                                                          rfl
                                                        refine pure_ (i := 12) (N := some 105) (v := ?_) (a' := ?_) #[true, true, true, true, true, true, true, true, true, true, true, true, true, false, false, false, false] rfl rfl (any_of HT_.out (by kernel_rfl)) (fun _ _ _ h => h) (Or.inl ⟨by rfl, ?_⟩) ?_ ?_
                                                        rotate_left
                                                        · intro w'
                                                          go_simp
                                                          with_reducible rfl
                                                        rotate_left
                                                        · simp only [Act.put, List.setIfInBounds_toArray, List.set_cons_zero, List.set_cons_succ, i64_w, i32_w]
                                                          rfl
                                                        refine pure_ (i := 13) (N := some 106) (v := ?_) (a' := ?_) #[true, true, true, true, true, true, true, true, true, true, true, true, true, true, false, false, false] rfl rfl (any_of HT_.out (by kernel_rfl)) (fun _ _ _ h => h) (Or.inl ⟨by rfl, ?_⟩) ?_ ?_
                                                        rotate_left
                                                        · intro w'
                                                          go_simp
                                                          with_reducible rfl
                                                        rotate_left
                                                        · simp only [Act.put, List.setIfInBounds_toArray, List.set_cons_zero, List.set_cons_succ, i64_w, i32_w]
                                                          rfl
                                                        refine one_ (i := 14) (N := some 107) #[true, true, true, true, true, true, true, true, true, true, true, true, true, true, true, false, false] rfl rfl (one_of HT_.out (by kernel_rfl)) (by decide) (fun K hK => ?_)
                                                        refine value_ (w1 := ?_) (v := ?_) (by rfl) rfl ?_ ?_
                                                        rotate_left 2
                                                        · go_simp
                                                          constructor
                                                          · rfl
                                                          · rfl
                                                        refine hK.out _ _ trivial (fun hHeld => ?_)
                                                        clear hK K
                                                        refine norm_ (a' := ?_) ?_ ?_
                                                        rotate_left
                                                        · show Act.put _ (some 107) _ = _
                                                          simp only [Act.put, List.setIfInBounds_toArray, List.set_cons_zero, List.set_cons_succ, i64_w, i32_w]
                                                          rfl
                                                        refine one_ (i := 15) (N := some 108) #[true, true, true, true, true, true, true, true, true, true, true, true, true, true, true, true, false] rfl rfl (one_of HT_.out (by kernel_rfl)) (by decide) (fun K hK => ?_)
                                                        refine Kd.R_append_step (Kd.int .u8) (w0 := w) w.heap.size (by rfl) (.tmp 93) (.tmp 107) 57 5 (.int .u8 0) 1 rfl Tryd.underlying57 info5 rfl (by decide) (by omega) u8 x8_1 ((wrap64 ((wrap64 (t227 * 16)) + t228)) % 256) [.int .u8 ((wrap64 ((wrap64 (t227 * 16)) + t228)) % 256)] (fun _ => True) (fun _ => False) rfl rfl ?aP (fun _ hk => hk.elim) ?aF ?aO ?aB ?aS ?aL ?_
                                                        (case aP => exact rfl)
                                                        (case aB => exact (by repeat (first | (with_reducible first | exact HB.out | apply below_alloc | apply pw_below_drewN | apply below_drew1) | exact HB.out)))
                                                        (case aF => exact (fun _ _ => trivial))
                                                        (case aO => exact (by (with_reducible repeat (first | apply Kd.R_alloc | apply Kd.R_drewN | apply Kd.R_drew)); exact HO_8.out))
                                                        (case aS => exact (below_size (by repeat (first | (with_reducible first | exact HB.out | apply below_alloc | apply pw_below_drewN | apply below_drew1) | exact HB.out))))
                                                        (case aL => have := LMc54.out; first | omega | (simp only [ByteArray.size, List.size_toArray, List.length_cons, List.length_nil] at *; omega) | (show _ + (_ : Nat) ≤ _; simp only [ByteArray.size, List.size_toArray, List.length_cons, List.length_nil]; omega))
                                                        intro v230 w56 ho hb hg hat
                                                        rw [← Ny229.out] at ho
                                                        have n0_ := Aside0.mk (hb)
                                                        have n1_ := Aside0.mk (ho)
                                                        clear HB
                                                        clear HO_8
                                                        have HB := n0_
                                                        have HO231 := n1_
                                                        clear n0_ n1_
                                                        clear ho hb hg hat
                                                        refine hK.out _ _ trivial (fun hHeld => ?_)
                                                        clear hK K
                                                        refine norm_ (a' := ?_) ?_ ?_
                                                        rotate_left
                                                        · show Act.put _ (some 108) _ = _
                                                          simp only [Act.put, List.setIfInBounds_toArray, List.set_cons_zero, List.set_cons_succ, i64_w, i32_w]
                                                          rfl
                                                        refine pure_ (i := 16) (N := some 8) (v := ?_) (a' := ?_) #[true, true, true, true, true, true, true, true, true, true, true, true, true, true, true, true, true] rfl rfl (any_of HT_.out (by kernel_rfl)) (fun _ _ _ h => h) (Or.inl ⟨by rfl, ?_⟩) ?_ ?_
                                                        rotate_left
                                                        · intro w'
                                                          go_simp
                                                          with_reducible rfl
                                                        rotate_left
                                                        · simp only [Act.put, List.setIfInBounds_toArray, List.set_cons_zero, List.set_cons_succ, i64_w, i32_w]
                                                          rfl
                                                        refine done_ (done_of HT_.out (by kernel_rfl)) ?_
                                                        try go_wp2
                                                        go_roundg k4
                                                        case measure => have := HK1.out; have := HJ11.out; have := HJ20.out; have := HK4.out; omega
                                                        case rel => exact ⟨(wrap64 ((ji49) + 1)), (y229), (by first | rfl | (simp; done) | (simp only [← hji49] <;> (first | rfl | (simp; done))) | (simp [*]; done)), H', ⟨by have := HK1.out; have := HJ11.out; have := HJ20.out; have := HK4.out; omega⟩, ⟨by (with_reducible repeat (first | apply Kd.R_alloc | apply Kd.R_drewN | apply Kd.R_drew)); exact HO231.out⟩, ⟨by repeat (first | (with_reducible first | exact HB.out | apply below_alloc | apply pw_below_drewN | apply below_drew1) | exact HB.out)⟩⟩
                                                      · rw [if_neg c54] at H
                                                        exact absurd H (by simp)
                                                    · rw [if_neg c51] at H
                                                      exact absurd H (by simp)
                                                  · rw [if_neg c50] at H
                                                    exact absurd H (by simp)
                                                · rw [if_neg c46] at H
                                                  exact absurd H (by simp)
                                              · rw [if_neg c45] at H
                                                exact absurd H (by simp)
                                      · rw [if_neg c35] at H
                                        have c35b0 : ((bt a0 (ji17)) == 120) = false := beq_eq_false_iff_ne.mpr c35
                                        have c35b1 : ((bt a0 (ji17)) != 120) = true := bne_iff_ne.mpr c35
                                        simp only [Option.some.injEq, Prod.mk.injEq] at H
                                        obtain ⟨rfl, rfl, rfl⟩ := H
                                        go_wp2
                                        go_ret3
                                        exact ⟨by first | rfl | (simp [errW_none, errW_some] <;> rfl) | (simp only [← hji17]; first | rfl | (simp [errW_none, errW_some] <;> rfl)) | (simp [*, errW_none, errW_some] <;> rfl), by repeat (first | (with_reducible first | exact HB.out | apply below_alloc | apply pw_below_drewN | apply below_drew1) | exact HB.out)⟩
                          · rw [if_neg c19] at H
                            exact absurd H (by simp)
                        · rw [if_neg c18] at H
                          exact absurd H (by simp)
                    · rw [if_neg c15] at H
                      have c15b0 : ((bt a0 x1_1) == 92) = false := beq_eq_false_iff_ne.mpr c15
                      have c15b1 : ((bt a0 x1_1) != 92) = true := bne_iff_ne.mpr c15
                      by_cases c57 : x8_1.length < 140737488355328
                      · rw [if_pos c57] at H
                        have LMc57 := Aside0.mk c57
                        clear c57
                        obtain ⟨y215, hy215⟩ : ∃ y_ : List Int, y_ = (x8_1 ++ [(bt a0 x1_1)]) := ⟨_, rfl⟩
                        replace H : (keystoneref12_quoted.l0 kj11 a0 (wrap64 (x1_1 + 1)) a1 y215) = some (r1, r2, r3) := by first | (rw [hy215]; with_reducible exact H) | (have H2_ := (Option.bind_some _ _).symm.trans H; rw [hy215]; with_reducible exact H2_) | (have H2_ := (Option.bind_some _ _).symm.trans H; with_reducible exact H2_) | with_reducible exact H | (rw [hy215]; exact H) | exact H
                        have Ny215 := Aside0.mk hy215
                        clear hy215
                        have H' := Aside0.mk H
                        clear H
                        go_wp2_with (first | ((with_reducible refine gate_builtin (b := .append) (xs := #[.tmp 36, .tmp 38]) rfl ?_); at_builtin; refine Kd.R_append (Kd.int .u8) (w0 := w) w.heap.size rfl (.tmp 36) (.tmp 38) 57 5 (.int .u8 0) 1 rfl Tryd.underlying57 info5 rfl (by decide) (by omega) u8 x8_1 (bt a0 x1_1) [.int .u8 (bt a0 x1_1)] (fun _ => True) (fun _ => False) rfl rfl ?aP (fun _ hk => hk.elim) ?aF ?aO ?aB ?aS ?aL ?_; (case aP => exact rfl); (case aB => exact (by repeat (first | (with_reducible first | exact HB.out | apply below_alloc | apply pw_below_drewN | apply below_drew1) | exact HB.out))); (case aF => exact (fun _ _ => trivial)); (case aO => exact (by (with_reducible repeat (first | apply Kd.R_alloc | apply Kd.R_drewN | apply Kd.R_drew)); exact HO_8.out)); (case aS => exact (below_size (by repeat (first | (with_reducible first | exact HB.out | apply below_alloc | apply pw_below_drewN | apply below_drew1) | exact HB.out)))); (case aL => have := LMc57.out; first | omega | (simp only [ByteArray.size, List.size_toArray, List.length_cons, List.length_nil] at *; omega) | (show _ + (_ : Nat) ≤ _; simp only [ByteArray.size, List.size_toArray, List.length_cons, List.length_nil]; omega)); intro v216 w58 ho hb hg hat; rw [← Ny215.out] at ho; have n0_ := Aside0.mk (hb); have n1_ := Aside0.mk (ho); clear HB; clear HO_8; have HB := n0_; have HO217 := n1_; clear n0_ n1_; clear ho hb hg hat))
                        go_roundg kj11
                        case measure => have := HK1.out; have := HJ11.out; omega
                        case rel => exact ⟨(wrap64 (x1_1 + 1)), (y215), (by first | rfl | (simp; done) | (simp [*]; done)), H', ⟨by have := HK1.out; have := HJ11.out; omega⟩, ⟨by (with_reducible repeat (first | apply Kd.R_alloc | apply Kd.R_drewN | apply Kd.R_drew)); exact HO217.out⟩, ⟨by repeat (first | (with_reducible first | exact HB.out | apply below_alloc | apply pw_below_drewN | apply below_drew1) | exact HB.out)⟩⟩
                      · rw [if_neg c57] at H
                        exact absurd H (by simp)
          · rw [if_neg c5] at H
            exact absurd H (by simp)
        · rw [if_neg c4] at H
          exact absurd H (by simp)

end Go.Proofs.YtmloklmcoedciaaDoor.KA
