-- Written by a program (kp.py, wip/tools) for this claim, out of the translation.
import Derived.Test.YtmloklmcoedciaaDoorKBx0
import Derived.Test.YtmloklmcoedciaaDoorKBx1
import Derived.Test.YtmloklmcoedciaaDoorKBx6
import Derived.Test.YtmloklmcoedciaaDoorKBx7
import Derived.Test.YtmloklmcoedciaaDoorKBx8
import Derived.Test.YtmloklmcoedciaaDoorKBx9
namespace Go.Proofs.YtmloklmcoedciaaDoor.KB
open Go.RowKit Go.Proofs.YtmloklmcoedciaaDoorW.PrintWords Go.Proofs.YtmloklmcoedciaaDoorW.PrintLast Go.Proofs.YtmloklmcoedciaaDoorW.PrintMore
attribute [local go_sem] max2_int min2_int max_two min_two max_three min_three max_four min_four   -- for this text's walks alone
set_option linter.unusedVariables false
set_option linter.unusedSimpArgs false

/-! ### keystonelaw12_LexisBack: function 7 -/
mutual
def keystonelaw12_LexisBack.j0 : Nat → ByteArray → Option (Bool)
  | 0, _ => none
  | k + 1, x1 => (lexis_Tokens.f k x1).bind fun bt285 => (if bt285.2.2 = 0 then (keystonelaw12_LexisBack.l0 k bt285.1 (⟨#[]⟩ : ByteArray) bt285.1 (bt285.1.length : Int) 0) else (some true))
def keystonelaw12_LexisBack.l0 : Nat → List (S35) → ByteArray → List (S35) → Int → Int → Option (Bool)
  | 0, _, _, _, _, _ => none
  | k + 1, x9, x11, x54, x55, x56 => if x56 < x55 then (if 0 ≤ x56 then (if x56 < (x54.length : Int) then ((keystonelaw12_written.f k ((rd_T35 x54 x56).f0) ((rd_T35 x54 x56).f1) ((rd_T35 x54 x56).f2.f0) ((rd_T35 x54 x56).f2.f1) ((rd_T35 x54 x56).f2.f2) ((rd_T35 x54 x56).f2.f3) ((rd_T35 x54 x56).f2.f4) ((rd_T35 x54 x56).f3)).bind fun bt292 => (if bt292.2 = true then (if bt292.1.size + 1 ≤ 9223372036854775807 then (if x11.size + (bt292.1 ++ (⟨#[32]⟩ : ByteArray)).size ≤ 9223372036854775807 then (keystonelaw12_LexisBack.l0 k x9 (x11 ++ (bt292.1 ++ (⟨#[32]⟩ : ByteArray))) x54 x55 (wrap64 (x56 + 1))) else (none)) else (none)) else (some false))) else (none)) else (none)) else (if (x11.size : Int) > 65536 then (some true) else ((lexis_Tokens.f k x11).bind fun bt294 => (if bt294.2.2 = 0 then (keystonelaw12_LexisBack.j2 k x9 bt294.1 ((bt294.1.length : Int) != (x9.length : Int))) else (keystonelaw12_LexisBack.j2 k x9 bt294.1 true))))
def keystonelaw12_LexisBack.j2 : Nat → List (S35) → List (S35) → Bool → Option (Bool)
  | 0, _, _, _ => none
  | k + 1, x9, x16, x89 => if x89 = true then (some false) else (keystonelaw12_LexisBack.l1 k x9 x16 (x9.length : Int) 0)
def keystonelaw12_LexisBack.l1 : Nat → List (S35) → List (S35) → Int → Int → Option (Bool)
  | 0, _, _, _, _ => none
  | k + 1, x9, x16, x91, x92 => if x92 < x91 then (if 0 ≤ x92 then (if x92 < (x9.length : Int) then (if x92 < (x16.length : Int) then (keystonelaw12_LexisBack.l1 k x9 (x16.set (x92 : Int).toNat (⟨(rd_T35 x16 x92).f0, (rd_T35 x16 x92).f1, (⟨(rd_T35 x16 x92).f2.f0, (rd_T35 x16 x92).f2.f1, (rd_T35 x16 x92).f2.f2, (rd_T35 x16 x92).f2.f3, (rd_T35 x16 x92).f2.f4⟩ : S33), (rd_T35 x9 x92).f3⟩ : S35)) x91 (wrap64 (x92 + 1))) else (none)) else (none)) else (none)) else ((keystonelaw12_same.f k x9 x16).bind fun t301 => (some t301))
end
def keystonelaw12_LexisBack.f (k : Nat) (a0 : ByteArray) (a1 : ByteArray) : Option (Bool) := (keystonelaw12_begun.f k).bind fun t280 => (if t280 = true then ((lexis_Quote.f k a0).bind fun bt281 => (if ((bt281.2 == 0) != (decide ((a0.size : Int) ≤ 4096))) = true then (some false) else (if bt281.2 = 0 then ((lexis_Unquote.f k bt281.1).bind fun bt283 => (if bt283.2 = 0 then (if bt283.1.toList = a0.toList then (keystonelaw12_LexisBack.j0 k a1) else (some false)) else (some false))) else (keystonelaw12_LexisBack.j0 k a1)))) else (some false))
theorem keystonelaw12_LexisBack.mono_l : ∀ k, (∀ y0, LeO (keystonelaw12_LexisBack.j0 k y0) (keystonelaw12_LexisBack.j0 (k + 1) y0)) ∧ (∀ y0 y1 y2 y3 y4, LeO (keystonelaw12_LexisBack.l0 k y0 y1 y2 y3 y4) (keystonelaw12_LexisBack.l0 (k + 1) y0 y1 y2 y3 y4)) ∧ (∀ y0 y1 y2, LeO (keystonelaw12_LexisBack.j2 k y0 y1 y2) (keystonelaw12_LexisBack.j2 (k + 1) y0 y1 y2)) ∧ (∀ y0 y1 y2 y3, LeO (keystonelaw12_LexisBack.l1 k y0 y1 y2 y3) (keystonelaw12_LexisBack.l1 (k + 1) y0 y1 y2 y3))
  | 0 => ⟨fun _ r h => by simp [keystonelaw12_LexisBack.j0] at h, fun _ _ _ _ _ r h => by simp [keystonelaw12_LexisBack.l0] at h, fun _ _ _ r h => by simp [keystonelaw12_LexisBack.j2] at h, fun _ _ _ _ r h => by simp [keystonelaw12_LexisBack.l1] at h⟩
  | k + 1 => by
    obtain ⟨ih0, ih1, ih2, ih3⟩ := keystonelaw12_LexisBack.mono_l k
    refine ⟨?_, ?_, ?_, ?_⟩
    · intro y0
      unfold keystonelaw12_LexisBack.j0
      repeat' first
      | (with_reducible exact ih0 _)
      | (with_reducible exact ih1 _ _ _ _ _)
      | (with_reducible exact ih2 _ _ _)
      | (with_reducible exact ih3 _ _ _ _)
      | (with_reducible exact keystonelaw12_begun.mono _)
      | (with_reducible exact keystonelaw12_same.mono _ _ _)
      | (with_reducible exact keystonelaw12_written.mono _ _ _ _ _ _ _ _ _)
      | (with_reducible exact lexis_Quote.mono _ _)
      | (with_reducible exact lexis_Tokens.mono _ _)
      | (with_reducible exact lexis_Unquote.mono _ _)
      | (with_reducible exact LeO.refl _)
      | (with_reducible exact LeO.none _)
      | (with_reducible refine LeO.ite ?_ ?_)
      | (with_reducible refine LeO.bind ?_ (fun _ => ?_))
      | exact ih0 _
      | exact ih1 _ _ _ _ _
      | exact ih2 _ _ _
      | exact ih3 _ _ _ _
      | exact keystonelaw12_begun.mono _
      | exact keystonelaw12_same.mono _ _ _
      | exact keystonelaw12_written.mono _ _ _ _ _ _ _ _ _
      | exact lexis_Quote.mono _ _
      | exact lexis_Tokens.mono _ _
      | exact lexis_Unquote.mono _ _
      | exact LeO.none _
      | refine LeO.ite ?_ ?_
      | refine LeO.bind ?_ (fun _ => ?_)
    · intro y0 y1 y2 y3 y4
      unfold keystonelaw12_LexisBack.l0
      repeat' first
      | (with_reducible exact ih0 _)
      | (with_reducible exact ih1 _ _ _ _ _)
      | (with_reducible exact ih2 _ _ _)
      | (with_reducible exact ih3 _ _ _ _)
      | (with_reducible exact keystonelaw12_begun.mono _)
      | (with_reducible exact keystonelaw12_same.mono _ _ _)
      | (with_reducible exact keystonelaw12_written.mono _ _ _ _ _ _ _ _ _)
      | (with_reducible exact lexis_Quote.mono _ _)
      | (with_reducible exact lexis_Tokens.mono _ _)
      | (with_reducible exact lexis_Unquote.mono _ _)
      | (with_reducible exact LeO.refl _)
      | (with_reducible exact LeO.none _)
      | (with_reducible refine LeO.ite ?_ ?_)
      | (with_reducible refine LeO.bind ?_ (fun _ => ?_))
      | exact ih0 _
      | exact ih1 _ _ _ _ _
      | exact ih2 _ _ _
      | exact ih3 _ _ _ _
      | exact keystonelaw12_begun.mono _
      | exact keystonelaw12_same.mono _ _ _
      | exact keystonelaw12_written.mono _ _ _ _ _ _ _ _ _
      | exact lexis_Quote.mono _ _
      | exact lexis_Tokens.mono _ _
      | exact lexis_Unquote.mono _ _
      | exact LeO.none _
      | refine LeO.ite ?_ ?_
      | refine LeO.bind ?_ (fun _ => ?_)
    · intro y0 y1 y2
      unfold keystonelaw12_LexisBack.j2
      repeat' first
      | (with_reducible exact ih0 _)
      | (with_reducible exact ih1 _ _ _ _ _)
      | (with_reducible exact ih2 _ _ _)
      | (with_reducible exact ih3 _ _ _ _)
      | (with_reducible exact keystonelaw12_begun.mono _)
      | (with_reducible exact keystonelaw12_same.mono _ _ _)
      | (with_reducible exact keystonelaw12_written.mono _ _ _ _ _ _ _ _ _)
      | (with_reducible exact lexis_Quote.mono _ _)
      | (with_reducible exact lexis_Tokens.mono _ _)
      | (with_reducible exact lexis_Unquote.mono _ _)
      | (with_reducible exact LeO.refl _)
      | (with_reducible exact LeO.none _)
      | (with_reducible refine LeO.ite ?_ ?_)
      | (with_reducible refine LeO.bind ?_ (fun _ => ?_))
      | exact ih0 _
      | exact ih1 _ _ _ _ _
      | exact ih2 _ _ _
      | exact ih3 _ _ _ _
      | exact keystonelaw12_begun.mono _
      | exact keystonelaw12_same.mono _ _ _
      | exact keystonelaw12_written.mono _ _ _ _ _ _ _ _ _
      | exact lexis_Quote.mono _ _
      | exact lexis_Tokens.mono _ _
      | exact lexis_Unquote.mono _ _
      | exact LeO.none _
      | refine LeO.ite ?_ ?_
      | refine LeO.bind ?_ (fun _ => ?_)
    · intro y0 y1 y2 y3
      unfold keystonelaw12_LexisBack.l1
      repeat' first
      | (with_reducible exact ih0 _)
      | (with_reducible exact ih1 _ _ _ _ _)
      | (with_reducible exact ih2 _ _ _)
      | (with_reducible exact ih3 _ _ _ _)
      | (with_reducible exact keystonelaw12_begun.mono _)
      | (with_reducible exact keystonelaw12_same.mono _ _ _)
      | (with_reducible exact keystonelaw12_written.mono _ _ _ _ _ _ _ _ _)
      | (with_reducible exact lexis_Quote.mono _ _)
      | (with_reducible exact lexis_Tokens.mono _ _)
      | (with_reducible exact lexis_Unquote.mono _ _)
      | (with_reducible exact LeO.refl _)
      | (with_reducible exact LeO.none _)
      | (with_reducible refine LeO.ite ?_ ?_)
      | (with_reducible refine LeO.bind ?_ (fun _ => ?_))
      | exact ih0 _
      | exact ih1 _ _ _ _ _
      | exact ih2 _ _ _
      | exact ih3 _ _ _ _
      | exact keystonelaw12_begun.mono _
      | exact keystonelaw12_same.mono _ _ _
      | exact keystonelaw12_written.mono _ _ _ _ _ _ _ _ _
      | exact lexis_Quote.mono _ _
      | exact lexis_Tokens.mono _ _
      | exact lexis_Unquote.mono _ _
      | exact LeO.none _
      | refine LeO.ite ?_ ?_
      | refine LeO.bind ?_ (fun _ => ?_)
theorem keystonelaw12_LexisBack.mono : ∀ a0 a1 k, LeO (keystonelaw12_LexisBack.f k a0 a1) (keystonelaw12_LexisBack.f (k + 1) a0 a1) := by
  intro a0 a1 k
  obtain ⟨ih0, ih1, ih2, ih3⟩ := keystonelaw12_LexisBack.mono_l k
  unfold keystonelaw12_LexisBack.f
  repeat' first
      | (with_reducible exact ih0 _)
      | (with_reducible exact ih1 _ _ _ _ _)
      | (with_reducible exact ih2 _ _ _)
      | (with_reducible exact ih3 _ _ _ _)
      | (with_reducible exact keystonelaw12_begun.mono _)
      | (with_reducible exact keystonelaw12_same.mono _ _ _)
      | (with_reducible exact keystonelaw12_written.mono _ _ _ _ _ _ _ _ _)
      | (with_reducible exact lexis_Quote.mono _ _)
      | (with_reducible exact lexis_Tokens.mono _ _)
      | (with_reducible exact lexis_Unquote.mono _ _)
      | (with_reducible exact LeO.refl _)
      | (with_reducible exact LeO.none _)
      | (with_reducible refine LeO.ite ?_ ?_)
      | (with_reducible refine LeO.bind ?_ (fun _ => ?_))
      | exact ih0 _
      | exact ih1 _ _ _ _ _
      | exact ih2 _ _ _
      | exact ih3 _ _ _ _
      | exact keystonelaw12_begun.mono _
      | exact keystonelaw12_same.mono _ _ _
      | exact keystonelaw12_written.mono _ _ _ _ _ _ _ _ _
      | exact lexis_Quote.mono _ _
      | exact lexis_Tokens.mono _ _
      | exact lexis_Unquote.mono _ _
      | exact LeO.none _
      | refine LeO.ite ?_ ?_
      | refine LeO.bind ?_ (fun _ => ?_)
set_option maxHeartbeats 4000000 in
set_option maxRecDepth 100000 in
theorem keystonelaw12_LexisBack.calls (k : Nat) (a0 : ByteArray) (a1 : ByteArray) (r : Bool) (hr_ : r = true) (w : World) (hGE : GE w) (h : keystonelaw12_LexisBack.f k a0 a1 = some r) :
    Calls Tryd.prog 7 #[.string a0, .string a1] w fun e w' => e = .returned (.bool r) ∧ Below w.heap.size w w' := by
  have hu35 := Tryd.underlying35
  have HB := Aside0.mk (Below.refl w.heap.size w)
  have H : ((keystonelaw12_begun.f k).bind fun t280 => (if t280 = true then ((lexis_Quote.f k a0).bind fun bt281 => (if ((bt281.2 == 0) != (decide ((a0.size : Int) ≤ 4096))) = true then (some false) else (if bt281.2 = 0 then ((lexis_Unquote.f k bt281.1).bind fun bt283 => (if bt283.2 = 0 then (if bt283.1.toList = a0.toList then (keystonelaw12_LexisBack.j0 k a1) else (some false)) else (some false))) else (keystonelaw12_LexisBack.j0 k a1)))) else (some false))) = some r := h
  clear h
  have HGE := Aside0.mk hGE
  clear hGE
  replace H := Option.bind_eq_some_iff.mp H
  obtain ⟨t280, A30, H⟩ := H
  replace H : (if t280 = true then ((lexis_Quote.f k a0).bind fun bt281 => (if ((bt281.2 == 0) != (decide ((a0.size : Int) ≤ 4096))) = true then (some false) else (if bt281.2 = 0 then ((lexis_Unquote.f k bt281.1).bind fun bt283 => (if bt283.2 = 0 then (if bt283.1.toList = a0.toList then (keystonelaw12_LexisBack.j0 k a1) else (some false)) else (some false))) else (keystonelaw12_LexisBack.j0 k a1)))) else (some false)) = some r := H
  have A3 := Aside0.mk A30
  clear A30
  by_cases c4 : t280 = true
  rotate_left
  · replace c4 := Bool.eq_false_iff.mpr c4
    subst c4
    have H1 : (some false) = some r := by rw [if_neg (show ¬ (false = true) by decide)] at H; exact H
    clear H
    have H := H1
    clear H1
    obtain rfl := Option.some.inj H
    exact absurd hr_ (by simp)
  subst c4
  have H1 : ((lexis_Quote.f k a0).bind fun bt281 => (if ((bt281.2 == 0) != (decide ((a0.size : Int) ≤ 4096))) = true then (some false) else (if bt281.2 = 0 then ((lexis_Unquote.f k bt281.1).bind fun bt283 => (if bt283.2 = 0 then (if bt283.1.toList = a0.toList then (keystonelaw12_LexisBack.j0 k a1) else (some false)) else (some false))) else (keystonelaw12_LexisBack.j0 k a1)))) = some r := by rw [if_pos rfl] at H; exact H
  clear H
  have H := H1
  clear H1
  replace H := Option.bind_eq_some_iff.mp H
  obtain ⟨⟨t281, t282⟩, A50, H⟩ := H
  replace H : (if ((t282 == 0) != (decide ((a0.size : Int) ≤ 4096))) = true then (some false) else (if t282 = 0 then ((lexis_Unquote.f k t281).bind fun bt283 => (if bt283.2 = 0 then (if bt283.1.toList = a0.toList then (keystonelaw12_LexisBack.j0 k a1) else (some false)) else (some false))) else (keystonelaw12_LexisBack.j0 k a1))) = some r := H
  have A5 := Aside0.mk A50
  clear A50
  by_cases c6 : ((t282 == 0) != (decide ((a0.size : Int) ≤ 4096))) = true
  · rw [if_pos c6] at H
    have c6b0 : ((t282 == 0) != (decide ((a0.size : Int) ≤ 4096))) = true := c6
    (try (have c6b1 : decide ((t282 == 0) = (decide ((a0.size : Int) ≤ 4096))) = false := by simpa using c6))
    (try (have c6b2 : ((t282 == 0) == (decide ((a0.size : Int) ≤ 4096))) = false := by simpa using c6))
    (try (have c6b3 : ¬ ((t282 == 0) = (decide ((a0.size : Int) ≤ 4096))) := by simpa using c6))
    clear c6
    obtain rfl := Option.some.inj H
    exact absurd hr_ (by simp)
  rw [if_neg c6] at H
  have c6b0 : ((t282 == 0) != (decide ((a0.size : Int) ≤ 4096))) = false := by simpa using c6
  (try (have c6b1 : decide ((t282 == 0) = (decide ((a0.size : Int) ≤ 4096))) = true := by simpa using c6))
  (try (have c6b2 : ((t282 == 0) == (decide ((a0.size : Int) ≤ 4096))) = true := by simpa using c6))
  clear c6
  have HC7 := Aside0.mk H
  clear H
  go_enter Tryd.func7, Tryd.ntmps7
  go_upto_if 33 with (first | ((with_reducible refine gate_callee (f := 15) rfl ?_); refine goesL_ (some 19) rfl rfl Tryd.func15 (by kernel_rfl) rfl #[] rfl (by (try simp only [List.map_toArray, List.map_cons, List.map_nil]); first | done | rfl | (simp only [List.length_drop, List.length_take]; rfl)) ?_; (with_reducible refine (keystonelaw12_begun.calls k  true _ ?side1 A3.out).mono ?_); (case side1 => first | exact HGE.out | exact GE_below HGE.out (by repeat (first | (with_reducible first | exact HB.out | apply below_alloc | apply pw_below_drewN | apply below_drew1) | exact HB.out))); rintro e w8 ⟨rfl, hb⟩; refine ⟨_, rfl, ?_⟩; have n0_ := Aside0.mk (below_step (by repeat (first | (with_reducible first | exact HB.out | apply below_alloc | apply pw_below_drewN | apply below_drew1) | exact HB.out)) hb); clear HB; have HB := n0_; clear n0_; (try clear hb); (try clear hb2); (try clear hk); (try clear hi)) | ((with_reducible refine gate_callee (f := 22) rfl ?_); refine goesL_ (some 23) rfl rfl Tryd.func22 (by kernel_rfl) rfl #[.string a0] rfl (by (try simp only [List.map_toArray, List.map_cons, List.map_nil]); first | done | rfl | (simp only [List.length_drop, List.length_take]; rfl)) ?_; (with_reducible refine (lexis_Quote.calls k a0 t281 t282 _ A5.out).mono ?_); rintro e w9 ⟨rfl, hb⟩; refine ⟨_, rfl, ?_⟩; have n0_ := Aside0.mk (below_step (by repeat (first | (with_reducible first | exact HB.out | apply below_alloc | apply pw_below_drewN | apply below_drew1) | exact HB.out)) hb); clear HB; have HB := n0_; clear n0_; (try clear hb); (try clear hb2); (try clear hk); (try clear hi)))
  (try simp only [Act.put, List.setIfInBounds_toArray, List.set_cons_zero, List.set_cons_succ])
  go_cut [] (fun wc => ∃ (kq : Nat), Aside0 (keystonelaw12_LexisBack.j0 kq a1 = some r) ∧ Aside0 (kq ≤ k) ∧ Aside0 (Below w.heap.size w wc))
  case first =>
    have H := HC7.out
    clear HC7
    by_cases c10 : t282 = 0
    rotate_left
    · rw [if_neg c10] at H
      have c10b0 : (t282 == 0) = false := beq_eq_false_iff_ne.mpr c10
      have c10b1 : (t282 != 0) = true := bne_iff_ne.mpr c10
      (first | rw [c10b0] | (simp only [i64_w, i32_w]; rw [c10b0]) | skip)
      have H' := Aside0.mk H
      clear H
      go_wp2
      go_meet
      case rel => exact ⟨_, H', ⟨by first | omega | exact Nat.le_refl _⟩, ⟨by repeat (first | (with_reducible first | exact HB.out | apply below_alloc | apply pw_below_drewN | apply below_drew1) | exact HB.out)⟩⟩
    rw [if_pos c10] at H
    have c10b0 : (t282 == 0) = true := beq_iff_eq.mpr c10
    have c10b1 : (t282 != 0) = false := bne_eq_false_iff_eq.mpr c10
    clear c10
    (first | rw [c10b0] | (simp only [i64_w, i32_w]; rw [c10b0]) | skip)
    replace H := Option.bind_eq_some_iff.mp H
    obtain ⟨⟨t283, t284⟩, A110, H⟩ := H
    replace H : (if t284 = 0 then (if t283.toList = a0.toList then (keystonelaw12_LexisBack.j0 k a1) else (some false)) else (some false)) = some r := H
    have A11 := Aside0.mk A110
    clear A110
    by_cases c12 : t284 = 0
    rotate_left
    · rw [if_neg c12] at H
      have c12b0 : (t284 == 0) = false := beq_eq_false_iff_ne.mpr c12
      have c12b1 : (t284 != 0) = true := bne_iff_ne.mpr c12
      obtain rfl := Option.some.inj H
      exact absurd hr_ (by simp)
    rw [if_pos c12] at H
    have c12b0 : (t284 == 0) = true := beq_iff_eq.mpr c12
    have c12b1 : (t284 != 0) = false := bne_eq_false_iff_eq.mpr c12
    clear c12
    by_cases c13 : t283.toList = a0.toList
    rotate_left
    · rw [if_neg c13] at H
      have c13b0 : (t283.toList == a0.toList) = false := beq_eq_false_iff_ne.mpr c13
      have c13b1 : (t283.toList != a0.toList) = true := bne_iff_ne.mpr c13
      obtain rfl := Option.some.inj H
      exact absurd hr_ (by simp)
    rw [if_pos c13] at H
    have c13b0 : (t283.toList == a0.toList) = true := beq_iff_eq.mpr c13
    have c13b1 : (t283.toList != a0.toList) = false := bne_eq_false_iff_eq.mpr c13
    clear c13
    have H' := Aside0.mk H
    clear H
    go_wp2_with (first | ((with_reducible refine gate_callee (f := 23) rfl ?_); refine goesL_ (some 36) rfl rfl Tryd.func23 (by kernel_rfl) rfl #[.string t281] rfl (by (try simp only [List.map_toArray, List.map_cons, List.map_nil]); first | done | rfl | (simp only [List.length_drop, List.length_take]; rfl)) ?_; (with_reducible refine (lexis_Unquote.calls k t281 t283 t284 _ ?side1 A11.out).mono ?_); (case side1 => first | exact HGE.out | exact GE_below HGE.out (by repeat (first | (with_reducible first | exact HB.out | apply below_alloc | apply pw_below_drewN | apply below_drew1) | exact HB.out))); rintro e w14 ⟨rfl, hb⟩; refine ⟨_, rfl, ?_⟩; have n0_ := Aside0.mk (below_step (by repeat (first | (with_reducible first | exact HB.out | apply below_alloc | apply pw_below_drewN | apply below_drew1) | exact HB.out)) hb); clear HB; have HB := n0_; clear n0_; (try clear hb); (try clear hb2); (try clear hk); (try clear hi)))
    go_meet
    case rel => exact ⟨_, H', ⟨by first | omega | exact Nat.le_refl _⟩, ⟨by repeat (first | (with_reducible first | exact HB.out | apply below_alloc | apply pw_below_drewN | apply below_drew1) | exact HB.out)⟩⟩
  case rest =>
    clear HC7
    try clear c1
    try clear c2
    try clear p2
    try clear c4
    try clear c6
    try clear c6b0
    try clear c6b1
    try clear c6b2
    try clear c7
    try clear c10
    try clear c10b0
    try clear c10b1
    try clear c12
    try clear c12b0
    try clear c12b1
    try clear c13
    try clear c13b0
    try clear c13b1
    obtain ⟨kq, HA, HJ6, HB⟩ := hcut
    cases kq with
    | zero => exact absurd HA.out (by simp [keystonelaw12_LexisBack.j0])
    | succ kj6 =>
      have H := HA.out
      clear HA
      simp only [keystonelaw12_LexisBack.j0] at H
      replace H := Option.bind_eq_some_iff.mp H
      obtain ⟨⟨t285, t286, t287⟩, A150, H⟩ := H
      replace H : (if t287 = 0 then (keystonelaw12_LexisBack.l0 kj6 t285 (⟨#[]⟩ : ByteArray) t285 (t285.length : Int) 0) else (some true)) = some r := H
      have A15 := Aside0.mk A150
      clear A150
      by_cases c16 : t287 = 0
      rotate_left
      · rw [if_neg c16] at H
        have c16b0 : (t287 == 0) = false := beq_eq_false_iff_ne.mpr c16
        have c16b1 : (t287 != 0) = true := bne_iff_ne.mpr c16
        obtain rfl := Option.some.inj H
        go_wp2_with (first | ((with_reducible refine gate_callee (f := 13) rfl ?_); refine goesL_ (some 48) rfl rfl Tryd.func13 (by kernel_rfl) rfl #[.string a1] rfl (by (try simp only [List.map_toArray, List.map_cons, List.map_nil]); first | done | rfl | (simp only [List.length_drop, List.length_take]; rfl)) ?_; (with_reducible refine (lexis_Tokens.calls kj6 a1 t285 t286 t287 _ ?side1 A15.out).mono ?_); (case side1 => first | exact HGE.out | exact GE_below HGE.out (by repeat (first | (with_reducible first | exact HB.out | apply below_alloc | apply pw_below_drewN | apply below_drew1) | exact HB.out))); rintro e w46 ⟨v288, rfl, ho0, hb⟩; refine ⟨_, rfl, ?_⟩; have n0_ := Aside0.mk (Kd.R_lower ho0 (below_size (by repeat (first | (with_reducible first | exact HB.out | apply below_alloc | apply pw_below_drewN | apply below_drew1) | exact HB.out)))); have n1_ := Aside0.mk (below_step (by repeat (first | (with_reducible first | exact HB.out | apply below_alloc | apply pw_below_drewN | apply below_drew1) | exact HB.out)) hb); clear HB; have HO289 := n0_; have HB := n1_; clear n0_ n1_; (try clear hb); (try clear hb2); (try clear hk); (try clear hi); (try clear ho0)))
        go_ret
        exact ⟨by first | rfl | (simp [errW_none, errW_some] <;> rfl) | (simp [*, errW_none, errW_some] <;> rfl), by repeat (first | (with_reducible first | exact HB.out | apply below_alloc | apply pw_below_drewN | apply below_drew1) | exact HB.out)⟩
      rw [if_pos c16] at H
      have c16b0 : (t287 == 0) = true := beq_iff_eq.mpr c16
      have c16b1 : (t287 != 0) = false := bne_eq_false_iff_eq.mpr c16
      clear c16
      have H' := Aside0.mk H
      clear H
      go_wp2_with (first | ((with_reducible refine gate_callee (f := 13) rfl ?_); refine goesL_ (some 48) rfl rfl Tryd.func13 (by kernel_rfl) rfl #[.string a1] rfl (by (try simp only [List.map_toArray, List.map_cons, List.map_nil]); first | done | rfl | (simp only [List.length_drop, List.length_take]; rfl)) ?_; (with_reducible refine (lexis_Tokens.calls kj6 a1 t285 t286 t287 _ ?side1 A15.out).mono ?_); (case side1 => first | exact HGE.out | exact GE_below HGE.out (by repeat (first | (with_reducible first | exact HB.out | apply below_alloc | apply pw_below_drewN | apply below_drew1) | exact HB.out))); rintro e w17 ⟨v288, rfl, ho0, hb⟩; refine ⟨_, rfl, ?_⟩; have n0_ := Aside0.mk (Kd.R_lower ho0 (below_size (by repeat (first | (with_reducible first | exact HB.out | apply below_alloc | apply pw_below_drewN | apply below_drew1) | exact HB.out)))); have n1_ := Aside0.mk (below_step (by repeat (first | (with_reducible first | exact HB.out | apply below_alloc | apply pw_below_drewN | apply below_drew1) | exact HB.out)) hb); clear HB; have HO289 := n0_; have HB := n1_; clear n0_ n1_; (try clear hb); (try clear hb2); (try clear hk); (try clear hi); (try clear ho0); obtain ⟨Ao18, co18, eo18⟩ := Kd.R_slice HO289.out; subst eo18))
      go_loopg [11, 56] kj6 (fun kq v11 v56 w' => ∃ (x11_2 : ByteArray) (x56_2 : Int), v11 = .string x11_2 ∧ v56 = .int .i64 x56_2 ∧ Aside0 (keystonelaw12_LexisBack.l0 kq t285 x11_2 t285 (t285.length : Int) x56_2 = some r) ∧ Aside0 (kq ≤ kj6) ∧ Aside0 (Kd.R k35 35 w' w.heap.size (fun _ => True) (.slice Ao18 t285.length co18) t285) ∧ Aside0 (Kd.R k35 35 w' w.heap.size (fun _ => True) (.slice Ao18 t285.length co18) t285) ∧ Aside0 (Below w.heap.size w w'))
      case atStart => exact ⟨((⟨#[]⟩ : ByteArray)), (0), (by first | rfl | (simp; done) | (simp [*]; done)), (by first | rfl | (simp; done) | (simp [*]; done)), H', ⟨Nat.le_refl _⟩, ⟨by (with_reducible repeat (first | apply Kd.R_alloc | apply Kd.R_drewN | apply Kd.R_drew)); exact HO289.out⟩, ⟨by (with_reducible repeat (first | apply Kd.R_alloc | apply Kd.R_drewN | apply Kd.R_drew)); exact HO289.out⟩, ⟨by repeat (first | (with_reducible first | exact HB.out | apply below_alloc | apply pw_below_drewN | apply below_drew1) | exact HB.out)⟩⟩
      case round =>
        clear H'
        try clear c1
        try clear c2
        try clear p2
        try clear c4
        try clear c6
        try clear c6b0
        try clear c6b1
        try clear c6b2
        try clear c7
        try clear c10
        try clear c10b0
        try clear c10b1
        try clear c12
        try clear c12b0
        try clear c12b1
        try clear c13
        try clear c13b0
        try clear c13b1
        try clear c15
        try clear c16
        try clear c16b0
        try clear c16b1
        try clear p2
        obtain ⟨x11_2, x56_2, rfl, rfl, HA, HK2, HO_9, HO_54, HB⟩ := hrel
        cases gk with
        | zero => exact absurd HA.out (by simp [keystonelaw12_LexisBack.l0])
        | succ k2 =>
          have H := HA.out
          clear HA
          simp only [keystonelaw12_LexisBack.l0] at H
          by_cases c19 : x56_2 < (t285.length : Int)
          · rw [if_pos c19] at H
            have c19b0 : decide (x56_2 < (t285.length : Int)) = true := decide_eq_true c19
            clear c19
            by_cases c20 : 0 ≤ x56_2
            rotate_left
            · rw [if_neg c20] at H
              exact absurd H (by simp)
            rw [if_pos c20] at H
            have c20b0 : decide (0 ≤ x56_2) = true := decide_eq_true c20
            clear c20
            by_cases c21 : x56_2 < (t285.length : Int)
            rotate_left
            · rw [if_neg c21] at H
              exact absurd H (by simp)
            rw [if_pos c21] at H
            have c21b0 : decide (x56_2 < (t285.length : Int)) = true := decide_eq_true c21
            clear c21
            replace H := Option.bind_eq_some_iff.mp H
            obtain ⟨⟨t292, t293⟩, A220, H⟩ := H
            replace H : (if t293 = true then (if t292.size + 1 ≤ 9223372036854775807 then (if x11_2.size + (t292 ++ (⟨#[32]⟩ : ByteArray)).size ≤ 9223372036854775807 then (keystonelaw12_LexisBack.l0 k2 t285 (x11_2 ++ (t292 ++ (⟨#[32]⟩ : ByteArray))) t285 (t285.length : Int) (wrap64 (x56_2 + 1))) else (none)) else (none)) else (some false)) = some r := H
            have A22 := Aside0.mk A220
            clear A220
            by_cases c23 : t293 = true
            rotate_left
            · replace c23 := Bool.eq_false_iff.mpr c23
              subst c23
              have H1 : (some false) = some r := by rw [if_neg (show ¬ (false = true) by decide)] at H; exact H
              clear H
              have H := H1
              clear H1
              obtain rfl := Option.some.inj H
              exact absurd hr_ (by simp)
            subst c23
            have H1 : (if t292.size + 1 ≤ 9223372036854775807 then (if x11_2.size + (t292 ++ (⟨#[32]⟩ : ByteArray)).size ≤ 9223372036854775807 then (keystonelaw12_LexisBack.l0 k2 t285 (x11_2 ++ (t292 ++ (⟨#[32]⟩ : ByteArray))) t285 (t285.length : Int) (wrap64 (x56_2 + 1))) else (none)) else (none)) = some r := by rw [if_pos rfl] at H; exact H
            clear H
            have H := H1
            clear H1
            by_cases c24 : t292.size + 1 ≤ 9223372036854775807
            rotate_left
            · rw [if_neg c24] at H
              exact absurd H (by simp)
            rw [if_pos c24] at H
            have c24b0 := eq_true c24
            have c24b1 : decide (t292.size + 1 ≤ 9223372036854775807) = true := decide_eq_true c24
            try have c24b2 : (9223372036854775807 < t292.size + 1) = False := eq_false (Nat.not_lt.2 c24)
            by_cases c25 : x11_2.size + (t292 ++ (⟨#[32]⟩ : ByteArray)).size ≤ 9223372036854775807
            rotate_left
            · rw [if_neg c25] at H
              exact absurd H (by simp)
            rw [if_pos c25] at H
            have c25b0 := eq_true c25
            have c25b1 : decide (x11_2.size + (t292 ++ (⟨#[32]⟩ : ByteArray)).size ≤ 9223372036854775807) = true := decide_eq_true c25
            try have c25b2 : (9223372036854775807 < x11_2.size + (t292 ++ (⟨#[32]⟩ : ByteArray)).size) = False := eq_false (Nat.not_lt.2 c25)
            have H' := Aside0.mk H
            clear H
            have p290 : 0 ≤ (x56_2 : Int) := of_decide_eq_true (by first | (with_reducible assumption) | assumption)
            have q290 : x56_2 < (t285.length : Int) := of_decide_eq_true (by first | (with_reducible assumption) | assumption)
            obtain ⟨ad290, e290, hx290_0, hx290_1, hx290_2, hx290_3, hx290_4, hx290_5, hx290_6, hx290_7⟩ := at_T35 (Kd.R_reads' HO_54.out).2.2 x56_2 p290 q290
            cases e290
            replace p290 := eq_true p290
            replace q290 := eq_true q290
            go_wp2_with (first | ((with_reducible refine gate_dst (N := 13) rfl ?_); (try (refine gate_guard (by rfl) ?_; dsimp only)); refine box_event ?hg (N := 13) ?hd (cs := #[.int .i64 0, .string (⟨#[]⟩ : ByteArray), .int .i64 0, .int .i64 0, .bool false, .string (⟨#[]⟩ : ByteArray), .complex .f64 0 0, .int .i64 0]) (t := 35) ?hr ?_; (case hd => rfl); (case hg => rfl); (case hr => first | (go_simp; done) | (go_simp; rfl)); intro gb291 hg w26 hbox hb; have n0_ := Aside0.mk (Kd.R_below (Kd.R_elderB (by (with_reducible repeat (first | apply Kd.R_alloc | apply Kd.R_drewN | apply Kd.R_drew)); exact HO_9.out) gb291 (Nat.le_of_eq hg.symm)) hb); have n1_ := Aside0.mk (Kd.R_below (Kd.R_elderB (by (with_reducible repeat (first | apply Kd.R_alloc | apply Kd.R_drewN | apply Kd.R_drew)); exact HO_54.out) gb291 (Nat.le_of_eq hg.symm)) hb); have n2_ := Aside0.mk (below_step (by repeat (first | (with_reducible first | exact HB.out | apply below_alloc | apply pw_below_drewN | apply below_drew1) | exact HB.out)) hb); have n3_ := Aside0.mk (hbox); have n4_ := Aside0.mk ((by rw [hg]; exact (below_size (by repeat (first | (with_reducible first | exact HB.out | apply below_alloc | apply pw_below_drewN | apply below_drew1) | exact HB.out))) : w.heap.size ≤ gb291)); have n5_ := Aside0.mk ((by rw [hg]; exact (below_size (by repeat (first | (with_reducible first | exact HB.out | apply below_alloc | apply pw_below_drewN | apply below_drew1) | exact HB.out))) : w.heap.size ≤ gb291)); clear HO_9; clear HO_54; clear HB; have HO_9 := n0_; have HO_54 := n1_; have HB := n2_; have BK291 := n3_; have GW291 := n4_; have GE291 := n5_; clear n0_ n1_ n2_ n3_ n4_ n5_; clear hb hbox hg; have hcz27_0 : w26.cell? ⟨gb291, 0, none⟩ = some (.int .i64 0) := (blk_cell BK291.out 0).trans rfl; have hcz27_1 : w26.cell? ⟨gb291, 1, none⟩ = some (.string (⟨#[]⟩ : ByteArray)) := (blk_cell BK291.out 1).trans rfl; have hcz27_2 : w26.cell? ⟨gb291, 2, none⟩ = some (.int .i64 0) := (blk_cell BK291.out 2).trans rfl; have hcz27_3 : w26.cell? ⟨gb291, 3, none⟩ = some (.int .i64 0) := (blk_cell BK291.out 3).trans rfl; have hcz27_4 : w26.cell? ⟨gb291, 4, none⟩ = some (.bool false) := (blk_cell BK291.out 4).trans rfl; have hcz27_5 : w26.cell? ⟨gb291, 5, none⟩ = some (.string (⟨#[]⟩ : ByteArray)) := (blk_cell BK291.out 5).trans rfl; have hcz27_6 : w26.cell? ⟨gb291, 6, none⟩ = some (.complex .f64 0 0) := (blk_cell BK291.out 6).trans rfl; have hcz27_7 : w26.cell? ⟨gb291, 7, none⟩ = some (.int .i64 0) := (blk_cell BK291.out 7).trans rfl; have hfz27_0 := blk_frozen BK291.out 0; have hfz27_1 := blk_frozen BK291.out 1; have hfz27_2 := blk_frozen BK291.out 2; have hfz27_3 := blk_frozen BK291.out 3; have hfz27_4 := blk_frozen BK291.out 4; have hfz27_5 := blk_frozen BK291.out 5; have hfz27_6 := blk_frozen BK291.out 6; have hfz27_7 := blk_frozen BK291.out 7) | ((with_reducible refine gate_callee (f := 24) rfl ?_); refine goesL_ (some 62) rfl rfl Tryd.func24 (by kernel_rfl) rfl #[.agg #[.int .i64 ((rd_T35 t285 x56_2).f0), .string ((rd_T35 t285 x56_2).f1), .int .i64 ((rd_T35 t285 x56_2).f2.f0), .int .i64 ((rd_T35 t285 x56_2).f2.f1), .bool ((rd_T35 t285 x56_2).f2.f2), .string ((rd_T35 t285 x56_2).f2.f3), .complex .f64 (((rd_T35 t285 x56_2).f2.f4).re) (((rd_T35 t285 x56_2).f2.f4).im), .int .i64 ((rd_T35 t285 x56_2).f3)]] rfl (by (try simp only [List.map_toArray, List.map_cons, List.map_nil]); first | done | rfl | (simp only [List.length_drop, List.length_take]; rfl)) ?_; (with_reducible refine (keystonelaw12_written.calls k2 ((rd_T35 t285 x56_2).f0) ((rd_T35 t285 x56_2).f1) ((rd_T35 t285 x56_2).f2.f0) ((rd_T35 t285 x56_2).f2.f1) ((rd_T35 t285 x56_2).f2.f2) ((rd_T35 t285 x56_2).f2.f3) ((rd_T35 t285 x56_2).f2.f4) ((rd_T35 t285 x56_2).f3) t292 true _ A22.out).mono ?_); rintro e w28 ⟨rfl, hb⟩; refine ⟨_, rfl, ?_⟩; have n0_ := Aside0.mk (Kd.R_below (by (with_reducible repeat (first | apply Kd.R_alloc | apply Kd.R_drewN | apply Kd.R_drew)); exact (Kd.R_mono (Kd.R_far (p := ⟨gb291, 7, none⟩) (Kd.R_far (p := ⟨gb291, 6, none⟩) (Kd.R_far (p := ⟨gb291, 5, none⟩) (Kd.R_far (p := ⟨gb291, 4, none⟩) (Kd.R_far (p := ⟨gb291, 3, none⟩) (Kd.R_far (p := ⟨gb291, 2, none⟩) (Kd.R_far (p := ⟨gb291, 1, none⟩) (Kd.R_far (p := ⟨gb291, 0, none⟩) (Kd.R_mono HO_9.out (fun k_ hk => (⟨hk, hk.2⟩ : _ ∧ k_ ≠ gb291))) (fun _ hk => hk.2) (.int .i64 ((rd_T35 t285 x56_2).f0))) (fun _ hk => hk.2) (.string ((rd_T35 t285 x56_2).f1))) (fun _ hk => hk.2) (.int .i64 ((rd_T35 t285 x56_2).f2.f0))) (fun _ hk => hk.2) (.int .i64 ((rd_T35 t285 x56_2).f2.f1))) (fun _ hk => hk.2) (.bool ((rd_T35 t285 x56_2).f2.f2))) (fun _ hk => hk.2) (.string ((rd_T35 t285 x56_2).f2.f3))) (fun _ hk => hk.2) (.complex .f64 (((rd_T35 t285 x56_2).f2.f4).re) (((rd_T35 t285 x56_2).f2.f4).im))) (fun _ hk => hk.2) (.int .i64 ((rd_T35 t285 x56_2).f3))) (fun _ h_ => h_.1))) hb); have n1_ := Aside0.mk (Kd.R_below (by (with_reducible repeat (first | apply Kd.R_alloc | apply Kd.R_drewN | apply Kd.R_drew)); exact (Kd.R_mono (Kd.R_far (p := ⟨gb291, 7, none⟩) (Kd.R_far (p := ⟨gb291, 6, none⟩) (Kd.R_far (p := ⟨gb291, 5, none⟩) (Kd.R_far (p := ⟨gb291, 4, none⟩) (Kd.R_far (p := ⟨gb291, 3, none⟩) (Kd.R_far (p := ⟨gb291, 2, none⟩) (Kd.R_far (p := ⟨gb291, 1, none⟩) (Kd.R_far (p := ⟨gb291, 0, none⟩) (Kd.R_mono HO_54.out (fun k_ hk => (⟨hk, hk.2⟩ : _ ∧ k_ ≠ gb291))) (fun _ hk => hk.2) (.int .i64 ((rd_T35 t285 x56_2).f0))) (fun _ hk => hk.2) (.string ((rd_T35 t285 x56_2).f1))) (fun _ hk => hk.2) (.int .i64 ((rd_T35 t285 x56_2).f2.f0))) (fun _ hk => hk.2) (.int .i64 ((rd_T35 t285 x56_2).f2.f1))) (fun _ hk => hk.2) (.bool ((rd_T35 t285 x56_2).f2.f2))) (fun _ hk => hk.2) (.string ((rd_T35 t285 x56_2).f2.f3))) (fun _ hk => hk.2) (.complex .f64 (((rd_T35 t285 x56_2).f2.f4).re) (((rd_T35 t285 x56_2).f2.f4).im))) (fun _ hk => hk.2) (.int .i64 ((rd_T35 t285 x56_2).f3))) (fun _ h_ => h_.1))) hb); have n2_ := Aside0.mk (blk_below (g := gb291) (o := .cells #[.int .i64 ((rd_T35 t285 x56_2).f0), .string ((rd_T35 t285 x56_2).f1), .int .i64 ((rd_T35 t285 x56_2).f2.f0), .int .i64 ((rd_T35 t285 x56_2).f2.f1), .bool ((rd_T35 t285 x56_2).f2.f2), .string ((rd_T35 t285 x56_2).f2.f3), .complex .f64 (((rd_T35 t285 x56_2).f2.f4).re) (((rd_T35 t285 x56_2).f2.f4).im), .int .i64 ((rd_T35 t285 x56_2).f3)] 35 (0, 0)) (by (with_reducible repeat (first | refine blk_drewN ?_ _ | refine blk_drew ?_ | refine blk_alloc ?_ _)); refine blk_put (cs := #[.int .i64 ((rd_T35 t285 x56_2).f0), .string ((rd_T35 t285 x56_2).f1), .int .i64 ((rd_T35 t285 x56_2).f2.f0), .int .i64 ((rd_T35 t285 x56_2).f2.f1), .bool ((rd_T35 t285 x56_2).f2.f2), .string ((rd_T35 t285 x56_2).f2.f3), .complex .f64 (((rd_T35 t285 x56_2).f2.f4).re) (((rd_T35 t285 x56_2).f2.f4).im), .int .i64 0]) ?_ 7 _ rfl; (with_reducible repeat (first | refine blk_drewN ?_ _ | refine blk_drew ?_ | refine blk_alloc ?_ _)); refine blk_put (cs := #[.int .i64 ((rd_T35 t285 x56_2).f0), .string ((rd_T35 t285 x56_2).f1), .int .i64 ((rd_T35 t285 x56_2).f2.f0), .int .i64 ((rd_T35 t285 x56_2).f2.f1), .bool ((rd_T35 t285 x56_2).f2.f2), .string ((rd_T35 t285 x56_2).f2.f3), .complex .f64 0 0, .int .i64 0]) ?_ 6 _ rfl; (with_reducible repeat (first | refine blk_drewN ?_ _ | refine blk_drew ?_ | refine blk_alloc ?_ _)); refine blk_put (cs := #[.int .i64 ((rd_T35 t285 x56_2).f0), .string ((rd_T35 t285 x56_2).f1), .int .i64 ((rd_T35 t285 x56_2).f2.f0), .int .i64 ((rd_T35 t285 x56_2).f2.f1), .bool ((rd_T35 t285 x56_2).f2.f2), .string (⟨#[]⟩ : ByteArray), .complex .f64 0 0, .int .i64 0]) ?_ 5 _ rfl; (with_reducible repeat (first | refine blk_drewN ?_ _ | refine blk_drew ?_ | refine blk_alloc ?_ _)); refine blk_put (cs := #[.int .i64 ((rd_T35 t285 x56_2).f0), .string ((rd_T35 t285 x56_2).f1), .int .i64 ((rd_T35 t285 x56_2).f2.f0), .int .i64 ((rd_T35 t285 x56_2).f2.f1), .bool false, .string (⟨#[]⟩ : ByteArray), .complex .f64 0 0, .int .i64 0]) ?_ 4 _ rfl; (with_reducible repeat (first | refine blk_drewN ?_ _ | refine blk_drew ?_ | refine blk_alloc ?_ _)); refine blk_put (cs := #[.int .i64 ((rd_T35 t285 x56_2).f0), .string ((rd_T35 t285 x56_2).f1), .int .i64 ((rd_T35 t285 x56_2).f2.f0), .int .i64 0, .bool false, .string (⟨#[]⟩ : ByteArray), .complex .f64 0 0, .int .i64 0]) ?_ 3 _ rfl; (with_reducible repeat (first | refine blk_drewN ?_ _ | refine blk_drew ?_ | refine blk_alloc ?_ _)); refine blk_put (cs := #[.int .i64 ((rd_T35 t285 x56_2).f0), .string ((rd_T35 t285 x56_2).f1), .int .i64 0, .int .i64 0, .bool false, .string (⟨#[]⟩ : ByteArray), .complex .f64 0 0, .int .i64 0]) ?_ 2 _ rfl; (with_reducible repeat (first | refine blk_drewN ?_ _ | refine blk_drew ?_ | refine blk_alloc ?_ _)); refine blk_put (cs := #[.int .i64 ((rd_T35 t285 x56_2).f0), .string (⟨#[]⟩ : ByteArray), .int .i64 0, .int .i64 0, .bool false, .string (⟨#[]⟩ : ByteArray), .complex .f64 0 0, .int .i64 0]) ?_ 1 _ rfl; (with_reducible repeat (first | refine blk_drewN ?_ _ | refine blk_drew ?_ | refine blk_alloc ?_ _)); refine blk_put (cs := #[.int .i64 0, .string (⟨#[]⟩ : ByteArray), .int .i64 0, .int .i64 0, .bool false, .string (⟨#[]⟩ : ByteArray), .complex .f64 0 0, .int .i64 0]) ?_ 0 _ rfl; (with_reducible repeat (first | refine blk_drewN ?_ _ | refine blk_drew ?_ | refine blk_alloc ?_ _)); exact BK291.out) hb); have n3_ := Aside0.mk (below_step (by repeat (first | (with_reducible first | exact HB.out | apply below_alloc | apply pw_below_drewN | apply below_drew1 | refine below_set ?_ GE291.out) | exact HB.out)) hb); clear HO_9; clear HO_54; clear BK291; clear HB; have HO_9 := n0_; have HO_54 := n1_; have BK291 := n2_; have HB := n3_; clear n0_ n1_ n2_ n3_; (try clear hb); (try clear hb2); (try clear hk); (try clear hi)))
            go_roundg k2
            case measure => have := HJ6.out; have := HK2.out; omega
            case rel => exact ⟨(x11_2 ++ (t292 ++ (⟨#[32]⟩ : ByteArray))), (wrap64 (x56_2 + 1)), (by first | rfl | (simp; done) | (simp [*]; done)), (by first | rfl | (simp; done) | (simp [*]; done)), H', ⟨by have := HJ6.out; have := HK2.out; omega⟩, ⟨by (with_reducible repeat (first | apply Kd.R_alloc | apply Kd.R_drewN | apply Kd.R_drew)); exact Kd.R_mono HO_9.out (fun _ hk => trivial)⟩, ⟨by (with_reducible repeat (first | apply Kd.R_alloc | apply Kd.R_drewN | apply Kd.R_drew)); exact Kd.R_mono HO_54.out (fun _ hk => trivial)⟩, ⟨by repeat (first | (with_reducible first | exact HB.out | apply below_alloc | apply pw_below_drewN | apply below_drew1 | refine below_set ?_ GE291.out) | exact HB.out)⟩⟩
          rw [if_neg c19] at H
          have c19b0 : decide (x56_2 < (t285.length : Int)) = false := decide_eq_false c19
          clear c19
          by_cases c29 : (x11_2.size : Int) > 65536
          · rw [if_pos c29] at H
            have c29b0 : decide (65536 < (x11_2.size : Int)) = true := decide_eq_true c29
            have c29b1 : decide (65536 < x11_2.size) = true := decide_eq_true (by omega)
            clear c29
            obtain rfl := Option.some.inj H
            go_wp2
            go_ret
            exact ⟨by first | rfl | (simp [errW_none, errW_some] <;> rfl) | (simp [*, errW_none, errW_some] <;> rfl), by repeat (first | (with_reducible first | exact HB.out | apply below_alloc | apply pw_below_drewN | apply below_drew1) | exact HB.out)⟩
          rw [if_neg c29] at H
          have c29b0 : decide (65536 < (x11_2.size : Int)) = false := decide_eq_false c29
          have c29b1 : decide (65536 < x11_2.size) = false := decide_eq_false (by omega)
          clear c29
          replace H := Option.bind_eq_some_iff.mp H
          obtain ⟨⟨t294, t295, t296⟩, A300, H⟩ := H
          replace H : (if t296 = 0 then (keystonelaw12_LexisBack.j2 k2 t285 t294 ((t294.length : Int) != (t285.length : Int))) else (keystonelaw12_LexisBack.j2 k2 t285 t294 true)) = some r := H
          have A30 := Aside0.mk A300
          clear A300
          have HC31 := Aside0.mk H
          clear H
          go_upto_region 25 with (first | ((with_reducible refine gate_callee (f := 13) rfl ?_); refine goesL_ (some 77) rfl rfl Tryd.func13 (by kernel_rfl) rfl #[.string x11_2] rfl (by (try simp only [List.map_toArray, List.map_cons, List.map_nil]); first | done | rfl | (simp only [List.length_drop, List.length_take]; rfl)) ?_; (with_reducible refine (lexis_Tokens.calls k2 x11_2 t294 t295 t296 _ ?side1 A30.out).mono ?_); (case side1 => first | exact HGE.out | exact GE_below HGE.out (by repeat (first | (with_reducible first | exact HB.out | apply below_alloc | apply pw_below_drewN | apply below_drew1) | exact HB.out))); rintro e w32 ⟨v297, rfl, ho0, hb⟩; refine ⟨_, rfl, ?_⟩; have n0_ := Aside0.mk (Kd.R_elder' (by (with_reducible repeat (first | apply Kd.R_alloc | apply Kd.R_drewN | apply Kd.R_drew)); exact HO_9.out) (Kd.R_base ho0) hb); have n1_ := Aside0.mk (Kd.R_elder' (by (with_reducible repeat (first | apply Kd.R_alloc | apply Kd.R_drewN | apply Kd.R_drew)); exact HO_54.out) (Kd.R_base ho0) hb); have n2_ := Aside0.mk (Kd.R_lower (Kd.R_new' (Kd.R_new' ho0 (Kd.R_lt (by (with_reducible repeat (first | apply Kd.R_alloc | apply Kd.R_drewN | apply Kd.R_drew)); exact HO_9.out))) (Kd.R_lt (by (with_reducible repeat (first | apply Kd.R_alloc | apply Kd.R_drewN | apply Kd.R_drew)); exact HO_54.out))) (below_size (by repeat (first | (with_reducible first | exact HB.out | apply below_alloc | apply pw_below_drewN | apply below_drew1) | exact HB.out)))); have n3_ := Aside0.mk (below_step (by repeat (first | (with_reducible first | exact HB.out | apply below_alloc | apply pw_below_drewN | apply below_drew1) | exact HB.out)) hb); clear HO_9; clear HO_54; clear HB; have HO_9 := n0_; have HO_54 := n1_; have HO298 := n2_; have HB := n3_; clear n0_ n1_ n2_ n3_; (try clear hb); (try clear hb2); (try clear hk); (try clear hi); (try clear ho0)))
          (try simp only [Act.put, List.setIfInBounds_toArray, List.set_cons_zero, List.set_cons_succ])
          go_cut [89] (fun v89 wc => ∃ (kq : Nat) (x89_30 : Bool), v89 = .bool x89_30 ∧ Aside0 (keystonelaw12_LexisBack.j2 kq t285 t294 x89_30 = some r) ∧ Aside0 (kq ≤ k2) ∧ Aside0 (Kd.R k35 35 wc w.heap.size (fun k_ => some k_ ≠ (v297 : Value).ownBlock) (.slice Ao18 t285.length co18) t285) ∧ Aside0 (Kd.R k35 35 wc w.heap.size (fun k_ => some k_ ≠ ((.slice Ao18 t285.length co18) : Value).ownBlock) v297 t294) ∧ Aside0 (Below w.heap.size w wc))
          case first =>
            have H := HC31.out
            clear HC31
            by_cases c33 : t296 = 0
            rotate_left
            · rw [if_neg c33] at H
              have c33b0 : (t296 == 0) = false := beq_eq_false_iff_ne.mpr c33
              have c33b1 : (t296 != 0) = true := bne_iff_ne.mpr c33
              (first | rw [c33b0] | (simp only [i64_w, i32_w]; rw [c33b0]) | skip)
              have H' := Aside0.mk H
              clear H
              go_wp2
              go_meet
              case rel => exact ⟨_, (true), (by first | rfl | (simp; done) | (simp [*]; done)), H', ⟨by have := HJ6.out; have := HK2.out; first | omega | exact Nat.le_refl _⟩, ⟨by (with_reducible repeat (first | apply Kd.R_alloc | apply Kd.R_drewN | apply Kd.R_drew)); exact Kd.R_mono HO_9.out (fun _ hk => hk.2)⟩, ⟨by (with_reducible repeat (first | apply Kd.R_alloc | apply Kd.R_drewN | apply Kd.R_drew)); exact Kd.R_mono HO298.out (fun _ hk => hk.1.2)⟩, ⟨by repeat (first | (with_reducible first | exact HB.out | apply below_alloc | apply pw_below_drewN | apply below_drew1) | exact HB.out)⟩⟩
            rw [if_pos c33] at H
            have c33b0 : (t296 == 0) = true := beq_iff_eq.mpr c33
            have c33b1 : (t296 != 0) = false := bne_eq_false_iff_eq.mpr c33
            clear c33
            (first | rw [c33b0] | (simp only [i64_w, i32_w]; rw [c33b0]) | skip)
            have H' := Aside0.mk H
            clear H
            obtain ⟨Ao34, co34, eo34⟩ := Kd.R_slice HO298.out
            subst eo34
            go_wp2
            go_meet
            case rel => exact ⟨_, (((t294.length : Int) != (t285.length : Int))), (by first | rfl | (simp; done) | (simp [*]; done)), H', ⟨by have := HJ6.out; have := HK2.out; first | omega | exact Nat.le_refl _⟩, ⟨by (with_reducible repeat (first | apply Kd.R_alloc | apply Kd.R_drewN | apply Kd.R_drew)); exact Kd.R_mono HO_9.out (fun _ hk => hk.2)⟩, ⟨by (with_reducible repeat (first | apply Kd.R_alloc | apply Kd.R_drewN | apply Kd.R_drew)); exact Kd.R_mono HO298.out (fun _ hk => hk.1.2)⟩, ⟨by repeat (first | (with_reducible first | exact HB.out | apply below_alloc | apply pw_below_drewN | apply below_drew1) | exact HB.out)⟩⟩
          case rest =>
            clear HC31
            try clear c1
            try clear c2
            try clear p2
            try clear q2
            try clear hx2
            try clear c3
            try clear c4
            try clear c6
            try clear c6b0
            try clear c6b1
            try clear c6b2
            try clear p6
            try clear c7
            try clear c10
            try clear c10b0
            try clear c10b1
            try clear c12
            try clear c12b0
            try clear c12b1
            try clear c13
            try clear c13b0
            try clear c13b1
            try clear c15
            try clear c16
            try clear c16b0
            try clear c16b1
            try clear c19
            try clear c19b0
            try clear c20
            try clear c20b0
            try clear c21
            try clear c21b0
            try clear c22
            try clear c23
            try clear c24
            try clear c24b0
            try clear c24b1
            try clear c24b2
            try clear c25
            try clear c25b0
            try clear c25b1
            try clear c25b2
            try clear c29
            try clear c29b0
            try clear c29b1
            try clear p29
            try clear q29
            try clear hx29
            try clear c33
            try clear c33b0
            try clear c33b1
            try clear hcz27_0
            try clear hcz27_1
            try clear hcz27_2
            try clear hcz27_3
            try clear hcz27_4
            try clear hcz27_5
            try clear hcz27_6
            try clear hcz27_7
            try clear hfz27_0
            try clear hfz27_1
            try clear hfz27_2
            try clear hfz27_3
            try clear hfz27_4
            try clear hfz27_5
            try clear hfz27_6
            try clear hfz27_7
            try clear hx290_0
            try clear hx290_1
            try clear hx290_2
            try clear hx290_3
            try clear hx290_4
            try clear hx290_5
            try clear hx290_6
            try clear hx290_7
            try clear p2
            try clear p290
            try clear q290
            obtain ⟨kq, x89_30, rfl, HA, HJ30, HO_9, HO_16, HB⟩ := hcut
            cases kq with
            | zero => exact absurd HA.out (by simp [keystonelaw12_LexisBack.j2])
            | succ kj30 =>
              have H := HA.out
              clear HA
              simp only [keystonelaw12_LexisBack.j2] at H
              by_cases c35 : x89_30 = true
              · subst c35
                have H1 : (some false) = some r := by rw [if_pos rfl] at H; exact H
                clear H
                have H := H1
                clear H1
                obtain rfl := Option.some.inj H
                exact absurd hr_ (by simp)
              replace c35 := Bool.eq_false_iff.mpr c35
              subst c35
              have H1 : (keystonelaw12_LexisBack.l1 kj30 t285 t294 (t285.length : Int) 0) = some r := by rw [if_neg (show ¬ (false = true) by decide)] at H; exact H
              clear H
              have H := H1
              clear H1
              have H' := Aside0.mk H
              clear H
              go_wp2
              go_loopg [92] kj30 (fun kq v92 w' => ∃ (x16_4 : List (S35)) (x92_4 : Int), v92 = .int .i64 x92_4 ∧ Aside0 (keystonelaw12_LexisBack.l1 kq t285 x16_4 (t285.length : Int) x92_4 = some r) ∧ Aside0 (kq ≤ kj30) ∧ Aside0 (Kd.R k35 35 w' w.heap.size (fun k_ => some k_ ≠ (v297 : Value).ownBlock) (.slice Ao18 t285.length co18) t285) ∧ Aside0 (Kd.R k35 35 w' w.heap.size (fun k_ => some k_ ≠ ((.slice Ao18 t285.length co18) : Value).ownBlock) v297 x16_4) ∧ Aside0 (Below w.heap.size w w'))
              case atStart => exact ⟨(t294), (0), (by first | rfl | (simp; done) | (simp [*]; done)), H', ⟨Nat.le_refl _⟩, ⟨by (with_reducible repeat (first | apply Kd.R_alloc | apply Kd.R_drewN | apply Kd.R_drew)); exact HO_9.out⟩, ⟨by (with_reducible repeat (first | apply Kd.R_alloc | apply Kd.R_drewN | apply Kd.R_drew)); exact HO_16.out⟩, ⟨by repeat (first | (with_reducible first | exact HB.out | apply below_alloc | apply pw_below_drewN | apply below_drew1) | exact HB.out)⟩⟩
              case round =>
                clear H'
                try clear c1
                try clear c2
                try clear p2
                try clear q2
                try clear hx2
                try clear c3
                try clear c4
                try clear c6
                try clear c6b0
                try clear c6b1
                try clear c6b2
                try clear p6
                try clear c7
                try clear c10
                try clear c10b0
                try clear c10b1
                try clear c12
                try clear c12b0
                try clear c12b1
                try clear c13
                try clear c13b0
                try clear c13b1
                try clear c15
                try clear c16
                try clear c16b0
                try clear c16b1
                try clear c19
                try clear c19b0
                try clear c20
                try clear c20b0
                try clear c21
                try clear c21b0
                try clear c22
                try clear c23
                try clear c24
                try clear c24b0
                try clear c24b1
                try clear c24b2
                try clear c25
                try clear c25b0
                try clear c25b1
                try clear c25b2
                try clear c29
                try clear c29b0
                try clear c29b1
                try clear p29
                try clear q29
                try clear hx29
                try clear c33
                try clear c33b0
                try clear c33b1
                try clear c35
                try clear hcz27_0
                try clear hcz27_1
                try clear hcz27_2
                try clear hcz27_3
                try clear hcz27_4
                try clear hcz27_5
                try clear hcz27_6
                try clear hcz27_7
                try clear hfz27_0
                try clear hfz27_1
                try clear hfz27_2
                try clear hfz27_3
                try clear hfz27_4
                try clear hfz27_5
                try clear hfz27_6
                try clear hfz27_7
                try clear hx290_0
                try clear hx290_1
                try clear hx290_2
                try clear hx290_3
                try clear hx290_4
                try clear hx290_5
                try clear hx290_6
                try clear hx290_7
                try clear p2
                try clear p29
                try clear p290
                try clear p6
                try clear q2
                try clear q29
                try clear q290
                obtain ⟨x16_4, x92_4, rfl, HA, HK4, HO_9, HO_16, HB⟩ := hrel
                cases gk with
                | zero => exact absurd HA.out (by simp [keystonelaw12_LexisBack.l1])
                | succ k4 =>
                  have H := HA.out
                  clear HA
                  simp only [keystonelaw12_LexisBack.l1] at H
                  by_cases c36 : x92_4 < (t285.length : Int)
                  rotate_left
                  · rw [if_neg c36] at H
                    have c36b0 : decide (x92_4 < (t285.length : Int)) = false := decide_eq_false c36
                    clear c36
                    replace H := Option.bind_eq_some_iff.mp H
                    obtain ⟨t301, A430, H⟩ := H
                    replace H : (some t301) = some r := H
                    have A43 := Aside0.mk A430
                    clear A430
                    obtain rfl := Option.some.inj H
                    obtain ⟨Ao44, co44, eo44⟩ := Kd.R_slice HO_16.out
                    subst eo44
                    go_wp2_with (first | ((with_reducible refine gate_callee (f := 16) rfl ?_); refine goesL_ (some 107) rfl rfl Tryd.func16 (by kernel_rfl) rfl #[.slice Ao18 t285.length co18, .slice Ao44 x16_4.length co44] rfl (by (try simp only [List.map_toArray, List.map_cons, List.map_nil]); first | done | rfl | (simp only [List.length_drop, List.length_take]; rfl)) ?_; (with_reducible refine (keystonelaw12_same.calls k4 _ _ t285 _ _ x16_4 t301 _ ?side1 ?side2 ?side3 ?side4 A43.out).mono ?_); (case side1 => repeat (first | exact (Kd.R_reads' HO_9.out).2.2 | (with_reducible refine Kd.C_alloc ?_ _) | (with_reducible refine Kd.C_drewN ?_ _) | (with_reducible refine Kd.C_drew ?_))); (case side2 => exact (Kd.R_reads' HO_9.out).2.1); (case side3 => repeat (first | exact (Kd.R_reads' HO_16.out).2.2 | (with_reducible refine Kd.C_alloc ?_ _) | (with_reducible refine Kd.C_drewN ?_ _) | (with_reducible refine Kd.C_drew ?_))); (case side4 => exact (Kd.R_reads' HO_16.out).2.1); rintro e w45 ⟨rfl, hb⟩; refine ⟨_, rfl, ?_⟩; have n0_ := Aside0.mk (Kd.R_below (by (with_reducible repeat (first | apply Kd.R_alloc | apply Kd.R_drewN | apply Kd.R_drew)); exact HO_9.out) hb); have n1_ := Aside0.mk (Kd.R_below (by (with_reducible repeat (first | apply Kd.R_alloc | apply Kd.R_drewN | apply Kd.R_drew)); exact HO_16.out) hb); have n2_ := Aside0.mk (below_step (by repeat (first | (with_reducible first | exact HB.out | apply below_alloc | apply pw_below_drewN | apply below_drew1) | exact HB.out)) hb); clear HO_9; clear HO_16; clear HB; have HO_9 := n0_; have HO_16 := n1_; have HB := n2_; clear n0_ n1_ n2_; (try clear hb); (try clear hb2); (try clear hk); (try clear hi)))
                    go_ret
                    exact ⟨by first | rfl | (simp [errW_none, errW_some] <;> rfl) | (simp [*, errW_none, errW_some] <;> rfl), by repeat (first | (with_reducible first | exact HB.out | apply below_alloc | apply pw_below_drewN | apply below_drew1) | exact HB.out)⟩
                  rw [if_pos c36] at H
                  have c36b0 : decide (x92_4 < (t285.length : Int)) = true := decide_eq_true c36
                  clear c36
                  by_cases c37 : 0 ≤ x92_4
                  rotate_left
                  · rw [if_neg c37] at H
                    exact absurd H (by simp)
                  rw [if_pos c37] at H
                  have c37b0 : decide (0 ≤ x92_4) = true := decide_eq_true c37
                  clear c37
                  by_cases c38 : x92_4 < (t285.length : Int)
                  rotate_left
                  · rw [if_neg c38] at H
                    exact absurd H (by simp)
                  rw [if_pos c38] at H
                  have c38b0 : decide (x92_4 < (t285.length : Int)) = true := decide_eq_true c38
                  clear c38
                  by_cases c39 : x92_4 < (x16_4.length : Int)
                  rotate_left
                  · rw [if_neg c39] at H
                    exact absurd H (by simp)
                  rw [if_pos c39] at H
                  have c39b0 : decide (x92_4 < (x16_4.length : Int)) = true := decide_eq_true c39
                  clear c39
                  obtain ⟨y300, hy300⟩ : ∃ y_ : List (S35), y_ = (x16_4.set (x92_4 : Int).toNat (⟨(rd_T35 x16_4 x92_4).f0, (rd_T35 x16_4 x92_4).f1, (⟨(rd_T35 x16_4 x92_4).f2.f0, (rd_T35 x16_4 x92_4).f2.f1, (rd_T35 x16_4 x92_4).f2.f2, (rd_T35 x16_4 x92_4).f2.f3, (rd_T35 x16_4 x92_4).f2.f4⟩ : S33), (rd_T35 t285 x92_4).f3⟩ : S35)) := ⟨_, rfl⟩
                  replace H : (keystonelaw12_LexisBack.l1 k4 t285 y300 (t285.length : Int) (wrap64 (x92_4 + 1))) = some r := by first | (rw [hy300]; with_reducible exact H) | (have H2_ := (Option.bind_some _ _).symm.trans H; rw [hy300]; with_reducible exact H2_) | (have H2_ := (Option.bind_some _ _).symm.trans H; with_reducible exact H2_) | with_reducible exact H | (rw [hy300]; exact H) | exact H
                  have Ny300 := Aside0.mk hy300
                  clear hy300
                  have H' := Aside0.mk H
                  clear H
                  have p299 : 0 ≤ (x92_4 : Int) := of_decide_eq_true (by first | (with_reducible assumption) | assumption)
                  have q299 : x92_4 < (t285.length : Int) := of_decide_eq_true (by first | (with_reducible assumption) | assumption)
                  obtain ⟨ad299, e299, hx299_0, hx299_1, hx299_2, hx299_3, hx299_4, hx299_5, hx299_6, hx299_7⟩ := at_T35 (Kd.R_reads' HO_9.out).2.2 x92_4 p299 q299
                  cases e299
                  replace p299 := eq_true p299
                  replace q299 := eq_true q299
                  have p40 : 0 ≤ (x92_4 : Int) := of_decide_eq_true (by first | (with_reducible assumption) | assumption)
                  have q40 : (x92_4 : Int) < ((x16_4.length : Int) : Int) := of_decide_eq_true (by first | (with_reducible assumption) | assumption)
                  obtain ⟨go40, co40, eo40, gb40, gl40, cl40, HG40⟩ := Kd.R_form HO_16.out (by omega)
                  (first | cases eo40 | (injection eo40 with ea_ en_ ec_; (first | subst ea_ | (injection ea_ with ea_; subst ea_)); subst ec_; clear en_))
                  have GB40 := Aside0.mk gb40
                  have GG40 := Aside0.mk HG40
                  clear gb40 gl40 HG40
                  obtain ⟨ce40, hcl40, hM40, hcc40, hfr40⟩ := Kd.R_elem HO_16.out z35 (x92_4 : Int) p40 q40
                  obtain rfl := k35_openM hM40
                  have hx40_0 : wr.cell? ⟨go40, (x92_4 : Int).toNat * 8, none⟩ = some (.int .i64 ((rd_T35 x16_4 x92_4).f0)) := hcc40 0 _ rfl
                  have hx40_1 : wr.cell? ⟨go40, (x92_4 : Int).toNat * 8 + 1, none⟩ = some (.string ((rd_T35 x16_4 x92_4).f1)) := hcc40 1 _ rfl
                  have hx40_2 : wr.cell? ⟨go40, (x92_4 : Int).toNat * 8 + 2, none⟩ = some (.int .i64 ((rd_T35 x16_4 x92_4).f2.f0)) := hcc40 2 _ rfl
                  have hx40_3 : wr.cell? ⟨go40, (x92_4 : Int).toNat * 8 + 3, none⟩ = some (.int .i64 ((rd_T35 x16_4 x92_4).f2.f1)) := hcc40 3 _ rfl
                  have hx40_4 : wr.cell? ⟨go40, (x92_4 : Int).toNat * 8 + 4, none⟩ = some (.bool ((rd_T35 x16_4 x92_4).f2.f2)) := hcc40 4 _ rfl
                  have hx40_5 : wr.cell? ⟨go40, (x92_4 : Int).toNat * 8 + 5, none⟩ = some (.string ((rd_T35 x16_4 x92_4).f2.f3)) := hcc40 5 _ rfl
                  have hx40_6 : wr.cell? ⟨go40, (x92_4 : Int).toNat * 8 + 6, none⟩ = some (.complex .f64 (((rd_T35 x16_4 x92_4).f2.f4).re) (((rd_T35 x16_4 x92_4).f2.f4).im)) := hcc40 6 _ rfl
                  have hx40_7 : wr.cell? ⟨go40, (x92_4 : Int).toNat * 8 + 7, none⟩ = some (.int .i64 ((rd_T35 x16_4 x92_4).f3)) := hcc40 7 _ rfl
                  have hf40_0 : wr.frozen? ⟨go40, (x92_4 : Int).toNat * 8, none⟩ = false := hfr40 0
                  have hf40_1 : wr.frozen? ⟨go40, (x92_4 : Int).toNat * 8 + 1, none⟩ = false := hfr40 1
                  have hf40_2 : wr.frozen? ⟨go40, (x92_4 : Int).toNat * 8 + 2, none⟩ = false := hfr40 2
                  have hf40_3 : wr.frozen? ⟨go40, (x92_4 : Int).toNat * 8 + 3, none⟩ = false := hfr40 3
                  have hf40_4 : wr.frozen? ⟨go40, (x92_4 : Int).toNat * 8 + 4, none⟩ = false := hfr40 4
                  have hf40_5 : wr.frozen? ⟨go40, (x92_4 : Int).toNat * 8 + 5, none⟩ = false := hfr40 5
                  have hf40_6 : wr.frozen? ⟨go40, (x92_4 : Int).toNat * 8 + 6, none⟩ = false := hfr40 6
                  have hf40_7 : wr.frozen? ⟨go40, (x92_4 : Int).toNat * 8 + 7, none⟩ = false := hfr40 7
                  clear hcl40 hcc40 hfr40 hM40
                  replace p40 := eq_true p40
                  replace q40 := eq_true q40
                  have HX41 := Aside0.mk (show Kd.R k35 35 wr w.heap.size (fun k_ => some k_ ≠ (.slice (some ad299) t285.length co18 : Value).ownBlock) (.slice (some ⟨go40, 0, none⟩) x16_4.length co40) x16_4 from (by (with_reducible repeat (first | apply Kd.R_alloc | apply Kd.R_drewN | apply Kd.R_drew)); exact HO_16.out))
                  obtain ⟨ce41, hcl41, hM41, hcc41, hfr41⟩ := Kd.R_elem HX41.out z35 (x92_4 : Int) (of_decide_eq_true (by first | (with_reducible assumption) | assumption)) (by have h_ : (x92_4 : Int) < ((x16_4.length : Int) : Int) := of_decide_eq_true (by first | (with_reducible assumption) | assumption); first | exact h_ | (have e_ := (Kd.R_reads' HO_16.out).1; omega) | simpa using h_)
                  obtain rfl := k35_openM hM41
                  have HP41 := Kd.R_seg HX41.out (x92_4 : Int) (of_decide_eq_true (by first | (with_reducible assumption) | assumption)) (by have h_ : (x92_4 : Int) < ((x16_4.length : Int) : Int) := of_decide_eq_true (by first | (with_reducible assumption) | assumption); first | exact h_ | (have e_ := (Kd.R_reads' HO_16.out).1; omega) | simpa using h_) (seg := [.int .i64 ((rd_T35 t285 x92_4).f3)]) (j := 7) hcl41 hcc41 (show 8 ≤ 8 from by decide) (x' := (⟨(rd_T35 x16_4 x92_4).f0, (rd_T35 x16_4 x92_4).f1, (⟨(rd_T35 x16_4 x92_4).f2.f0, (rd_T35 x16_4 x92_4).f2.f1, (rd_T35 x16_4 x92_4).f2.f2, (rd_T35 x16_4 x92_4).f2.f3, (rd_T35 x16_4 x92_4).f2.f4⟩ : S33), (rd_T35 t285 x92_4).f3⟩ : S35)) (k35_mkM _ _ _ (⟨(rd_T35 x16_4 x92_4).f0, (rd_T35 x16_4 x92_4).f1, (⟨(rd_T35 x16_4 x92_4).f2.f0, (rd_T35 x16_4 x92_4).f2.f1, (rd_T35 x16_4 x92_4).f2.f2, (rd_T35 x16_4 x92_4).f2.f3, (rd_T35 x16_4 x92_4).f2.f4⟩ : S33), (rd_T35 t285 x92_4).f3⟩ : S35) ) (fun _ hk => hk)
                  have hx41_7 := hcc41 7 _ rfl
                  (try simp only [show (k35).sz = 8 from rfl, Nat.mul_one, Nat.add_zero] at hx41_7)
                  have hf41_7 := hfr41 7
                  (try simp only [show (k35).sz = 8 from rfl, Nat.mul_one, Nat.add_zero] at hf41_7)
                  clear hcl41 hcc41 hfr41 hM41
                  go_wp2_with (first | ((with_reducible refine gate_store (t := 3) (p := 103) rfl ?_); refine store_event (t := 3) (p := 103) (v := ?vo_w42) (w1 := (wr.setCell ⟨go40, (x92_4 : Int).toNat * 8 + 7, none⟩ (.int .i64 ((rd_T35 t285 x92_4).f3)))) ?hg ?ho ?hn ?hr ?_; (case ho => rfl); (case hg => rfl); (case hn => rfl); (case hr => first | (go_simp; done) | (go_simp; rfl)); intro w42 hw; have hg : wr.grownBy w42 (some go40) := (by rw [hw]; exact HP41.2); have hp_ : Kd.R k35 35 w42 w.heap.size (fun k_ => some k_ ≠ (.slice (some ad299) t285.length co18 : Value).ownBlock) (.slice (some ⟨go40, 0, none⟩) x16_4.length co40) y300 := (by rw [hw, Ny300.out]; exact HP41.1); clear HP41; have n0_ := Aside0.mk (Kd.R_after (v := (.slice (some ⟨go40, 0, none⟩) x16_4.length co40)) (v1 := (.slice (some ⟨go40, 0, none⟩) x16_4.length co40)) (ok := (fun _ => True)) (by (with_reducible repeat (first | apply Kd.R_alloc | apply Kd.R_drewN | apply Kd.R_drew)); exact Kd.R_mono HO_9.out (fun _ hk => ⟨trivial, hk⟩)) hg (.inl rfl)); have n1_ := Aside0.mk (hp_); have n2_ := Aside0.mk ((by rw [hw]; exact below_set (HB.out) GB40.out : Below w.heap.size w w42)); clear HO_9; clear HO_16; clear HB; have HO_9 := n0_; have HO_16 := n1_; have HB := n2_; clear n0_ n1_ n2_; clear hg hw hp_))
                  go_roundg k4
                  case measure => have := HJ6.out; have := HK2.out; have := HJ30.out; have := HK4.out; omega
                  case rel => exact ⟨(y300), (wrap64 (x92_4 + 1)), (by first | rfl | (simp; done) | (simp [*]; done)), H', ⟨by have := HJ6.out; have := HK2.out; have := HJ30.out; have := HK4.out; omega⟩, ⟨by (with_reducible repeat (first | apply Kd.R_alloc | apply Kd.R_drewN | apply Kd.R_drew)); exact Kd.R_mono HO_9.out (fun _ hk => hk.2)⟩, ⟨by (with_reducible repeat (first | apply Kd.R_alloc | apply Kd.R_drewN | apply Kd.R_drew)); exact HO_16.out⟩, ⟨by repeat (first | (with_reducible first | exact HB.out | apply below_alloc | apply pw_below_drewN | apply below_drew1) | exact HB.out)⟩⟩

/-- THE ONE PURE STATEMENT of keystonelaw12_LexisBack: yours. -/
def keystonelaw12_LexisBack.Pure : Prop := ∀ (a0 : ByteArray) (a1 : ByteArray), a0.size ≤ 140737488351232 → a1.size ≤ 140737488351232 → ∃ k, keystonelaw12_LexisBack.f k a0 a1 = some true
theorem keystonelaw12_LexisBack.walk (P : keystonelaw12_LexisBack.Pure) (a0 : ByteArray) (a1 : ByteArray) (w : World) (w0 : a0.size ≤ 140737488351232) (w1 : a1.size ≤ 140737488351232) (hGE : GE w) :
    Calls Tryd.prog 7 #[.string a0, .string a1] w fun e w' => e = .returned (.bool true) ∧ Below w.heap.size w w' := by
  obtain ⟨k, h⟩ := P a0 a1 w0 w1
  refine (keystonelaw12_LexisBack.calls k a0 a1 true rfl w hGE h).mono ?_
  rintro e w' ⟨rfl, hd⟩
  exact ⟨rfl, hd⟩

end Go.Proofs.YtmloklmcoedciaaDoor.KB
