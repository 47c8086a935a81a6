-- Written by a program (kp.py, wip/tools) for this claim, out of the translation.
import Derived.Test.YtmloklmcoedciaaDoorKBx0
import Derived.Test.YtmloklmcoedciaaDoorKBx1
import Derived.Test.YtmloklmcoedciaaDoorKBx6
import Derived.Test.YtmloklmcoedciaaDoorKBx11
namespace Go.Proofs.YtmloklmcoedciaaDoor.KB
open Go.RowKit Go.Proofs.YtmloklmcoedciaaDoorW.PrintWords Go.Proofs.YtmloklmcoedciaaDoorW.PrintLast Go.Proofs.YtmloklmcoedciaaDoorW.PrintMore
attribute [local go_sem] max2_int min2_int max_two min_two max_three min_three max_four min_four   -- for this text's walks alone
set_option linter.unusedVariables false
set_option linter.unusedSimpArgs false

/-! ### keystonelaw12_LexisLoses: function 5 -/
mutual
def keystonelaw12_LexisLoses.l0 : Nat → ByteArray → List (S35) → Int → List (S35) → Int → Int → Option (Bool)
  | 0, _, _, _, _, _, _ => none
  | k + 1, x0, x3, x6, x38, x39, x40 => if x40 < x39 then (if 0 ≤ x40 then (if x40 < (x38.length : Int) then (if ((rd_T35 x38 x40).f3) < x6 then (keystonelaw12_LexisLoses.j1 k x0 x3 x40 x38 x39 x40 true ((rd_T35 x38 x40).f0) ((rd_T35 x38 x40).f1) ((rd_T35 x38 x40).f2.f0) ((rd_T35 x38 x40).f2.f1) ((rd_T35 x38 x40).f2.f2) ((rd_T35 x38 x40).f2.f3) ((rd_T35 x38 x40).f2.f4) ((rd_T35 x38 x40).f3)) else (if ((rd_T35 x38 x40).f3) ≥ (x0.size : Int) then (keystonelaw12_LexisLoses.j1 k x0 x3 x40 x38 x39 x40 true ((rd_T35 x38 x40).f0) ((rd_T35 x38 x40).f1) ((rd_T35 x38 x40).f2.f0) ((rd_T35 x38 x40).f2.f1) ((rd_T35 x38 x40).f2.f2) ((rd_T35 x38 x40).f2.f3) ((rd_T35 x38 x40).f2.f4) ((rd_T35 x38 x40).f3)) else (if 0 ≤ x6 then (if x6 ≤ ((rd_T35 x38 x40).f3) then (if ((rd_T35 x38 x40).f3) ≤ (x0.size : Int) then ((keystonelaw12_blanks.f k (x0.extract (x6 : Int).toNat (((rd_T35 x38 x40).f3) : Int).toNat)).bind fun t311 => (keystonelaw12_LexisLoses.j1 k x0 x3 x40 x38 x39 x40 (!t311) ((rd_T35 x38 x40).f0) ((rd_T35 x38 x40).f1) ((rd_T35 x38 x40).f2.f0) ((rd_T35 x38 x40).f2.f1) ((rd_T35 x38 x40).f2.f2) ((rd_T35 x38 x40).f2.f3) ((rd_T35 x38 x40).f2.f4) ((rd_T35 x38 x40).f3))) else (none)) else (none)) else (none)))) else (none)) else (none)) else (if 0 ≤ x6 then (if x6 ≤ (x0.size : Int) then ((keystonelaw12_blanks.f k (x0.extract (x6 : Int).toNat x0.size)).bind fun t308 => (some t308)) else (none)) else (none))
def keystonelaw12_LexisLoses.j1 : Nat → ByteArray → List (S35) → Int → List (S35) → Int → Int → Bool → Int → ByteArray → Int → Int → Bool → ByteArray → CPt → Int → Option (Bool)
  | 0, _, _, _, _, _, _, _, _, _, _, _, _, _, _, _ => none
  | k + 1, x0, x3, x7, x38, x39, x40, x64, x311000, x311001, x311002, x311003, x311004, x311005, x311006, x311007 => if x64 = true then (some false) else (if (wrap64 (x7 + 1)) < (x3.length : Int) then (if 0 ≤ (wrap64 (x7 + 1)) then (keystonelaw12_LexisLoses.j2 k x0 x3 ((rd_T35 x3 (wrap64 (x7 + 1))).f3) x38 x39 x40 x311000 x311001 x311002 x311003 x311004 x311005 x311006 x311007) else (none)) else (keystonelaw12_LexisLoses.j2 k x0 x3 (x0.size : Int) x38 x39 x40 x311000 x311001 x311002 x311003 x311004 x311005 x311006 x311007))
def keystonelaw12_LexisLoses.j2 : Nat → ByteArray → List (S35) → Int → List (S35) → Int → Int → Int → ByteArray → Int → Int → Bool → ByteArray → CPt → Int → Option (Bool)
  | 0, _, _, _, _, _, _, _, _, _, _, _, _, _, _ => none
  | k + 1, x0, x3, x9, x38, x39, x40, x311000, x311001, x311002, x311003, x311004, x311005, x311006, x311007 => if x9 ≤ x311007 then (keystonelaw12_LexisLoses.j3 k x0 x3 x9 x38 x39 x40 true x311000 x311001 x311002 x311003 x311004 x311005 x311006 x311007) else (keystonelaw12_LexisLoses.j3 k x0 x3 x9 x38 x39 x40 (decide (x9 > (x0.size : Int))) x311000 x311001 x311002 x311003 x311004 x311005 x311006 x311007)
def keystonelaw12_LexisLoses.j3 : Nat → ByteArray → List (S35) → Int → List (S35) → Int → Int → Bool → Int → ByteArray → Int → Int → Bool → ByteArray → CPt → Int → Option (Bool)
  | 0, _, _, _, _, _, _, _, _, _, _, _, _, _, _, _ => none
  | k + 1, x0, x3, x9, x38, x39, x40, x87, x311000, x311001, x311002, x311003, x311004, x311005, x311006, x311007 => if x87 = true then (some false) else (keystonelaw12_LexisLoses.l1 k x0 x3 x9 0 1 x38 x39 x40 x311000 x311001 x311002 x311003 x311004 x311005 x311006 x311007)
def keystonelaw12_LexisLoses.j6 : Nat → ByteArray → List (S35) → Int → List (S35) → Int → Int → Int → ByteArray → Int → Int → Bool → ByteArray → CPt → Int → Option (Bool)
  | 0, _, _, _, _, _, _, _, _, _, _, _, _, _, _ => none
  | k + 1, x0, x3, x10, x38, x39, x40, x311000, x311001, x311002, x311003, x311004, x311005, x311006, x311007 => if x10 = 0 then (some false) else (keystonelaw12_LexisLoses.l0 k x0 x3 (wrap64 (x311007 + x10)) x38 x39 (wrap64 (x40 + 1)))
def keystonelaw12_LexisLoses.l1 : Nat → ByteArray → List (S35) → Int → Int → Int → List (S35) → Int → Int → Int → ByteArray → Int → Int → Bool → ByteArray → CPt → Int → Option (Bool)
  | 0, _, _, _, _, _, _, _, _, _, _, _, _, _, _, _, _ => none
  | k + 1, x0, x3, x9, x10, x11, x38, x39, x40, x311000, x311001, x311002, x311003, x311004, x311005, x311006, x311007 => if x11 ≤ (wrap64 (x9 - x311007)) then (if 0 ≤ x311007 then (if x311007 ≤ (wrap64 (x311007 + x11)) then (if (wrap64 (x311007 + x11)) ≤ (x0.size : Int) then ((lexis_Tokens.f k (x0.extract (x311007 : Int).toNat ((wrap64 (x311007 + x11)) : Int).toNat)).bind fun bt313 => (if bt313.2.2 = 0 then (if (bt313.1.length : Int) = 1 then (if 0 < (bt313.1.length : Int) then (if ((rd_T35 bt313.1 0).f0) = x311000 then (if ((rd_T35 bt313.1 0).f1).toList = x311001.toList then ((keystoneref04_SameValue.f ((rd_T35 bt313.1 0).f2.f0) ((rd_T35 bt313.1 0).f2.f1) ((rd_T35 bt313.1 0).f2.f2) ((rd_T35 bt313.1 0).f2.f3) ((rd_T35 bt313.1 0).f2.f4) x311002 x311003 x311004 x311005 x311006).bind fun t321 => (if t321 = true then (keystonelaw12_LexisLoses.j5 k x0 x3 x9 x10 x11 x38 x39 x40 (((rd_T35 bt313.1 0).f3) == 0) x311000 x311001 x311002 x311003 x311004 x311005 x311006 x311007) else (keystonelaw12_LexisLoses.j5 k x0 x3 x9 x10 x11 x38 x39 x40 false x311000 x311001 x311002 x311003 x311004 x311005 x311006 x311007))) else (keystonelaw12_LexisLoses.j5 k x0 x3 x9 x10 x11 x38 x39 x40 false x311000 x311001 x311002 x311003 x311004 x311005 x311006 x311007)) else (keystonelaw12_LexisLoses.j5 k x0 x3 x9 x10 x11 x38 x39 x40 false x311000 x311001 x311002 x311003 x311004 x311005 x311006 x311007)) else (none)) else (keystonelaw12_LexisLoses.j5 k x0 x3 x9 x10 x11 x38 x39 x40 false x311000 x311001 x311002 x311003 x311004 x311005 x311006 x311007)) else (keystonelaw12_LexisLoses.j5 k x0 x3 x9 x10 x11 x38 x39 x40 false x311000 x311001 x311002 x311003 x311004 x311005 x311006 x311007))) else (none)) else (none)) else (none)) else (keystonelaw12_LexisLoses.j6 k x0 x3 x10 x38 x39 x40 x311000 x311001 x311002 x311003 x311004 x311005 x311006 x311007)
def keystonelaw12_LexisLoses.j5 : Nat → ByteArray → List (S35) → Int → Int → Int → List (S35) → Int → Int → Bool → Int → ByteArray → Int → Int → Bool → ByteArray → CPt → Int → Option (Bool)
  | 0, _, _, _, _, _, _, _, _, _, _, _, _, _, _, _, _, _ => none
  | k + 1, x0, x3, x9, x10, x11, x38, x39, x40, x149, x311000, x311001, x311002, x311003, x311004, x311005, x311006, x311007 => if x149 = true then (keystonelaw12_LexisLoses.j6 k x0 x3 x11 x38 x39 x40 x311000 x311001 x311002 x311003 x311004 x311005 x311006 x311007) else (keystonelaw12_LexisLoses.l1 k x0 x3 x9 x10 (wrap64 (x11 + 1)) x38 x39 x40 x311000 x311001 x311002 x311003 x311004 x311005 x311006 x311007)
end
def keystonelaw12_LexisLoses.f (k : Nat) (a0 : ByteArray) : Option (Bool) := (keystonelaw12_begun.f k).bind fun t302 => (if t302 = true then ((lexis_Tokens.f k a0).bind fun bt303 => (if bt303.2.2 = 0 then (keystonelaw12_LexisLoses.l0 k a0 bt303.1 0 bt303.1 (bt303.1.length : Int) 0) else (if bt303.2.1 ≥ 0 then (if bt303.2.1 ≤ (a0.size : Int) then (some ((bt303.1.length : Int) == 0)) else (some false)) else (some false)))) else (some false))
theorem keystonelaw12_LexisLoses.mono_l : ∀ k, (∀ y0 y1 y2 y3 y4 y5, LeO (keystonelaw12_LexisLoses.l0 k y0 y1 y2 y3 y4 y5) (keystonelaw12_LexisLoses.l0 (k + 1) y0 y1 y2 y3 y4 y5)) ∧ (∀ y0 y1 y2 y3 y4 y5 y6 y7 y8 y9 y10 y11 y12 y13 y14, LeO (keystonelaw12_LexisLoses.j1 k y0 y1 y2 y3 y4 y5 y6 y7 y8 y9 y10 y11 y12 y13 y14) (keystonelaw12_LexisLoses.j1 (k + 1) y0 y1 y2 y3 y4 y5 y6 y7 y8 y9 y10 y11 y12 y13 y14)) ∧ (∀ y0 y1 y2 y3 y4 y5 y6 y7 y8 y9 y10 y11 y12 y13, LeO (keystonelaw12_LexisLoses.j2 k y0 y1 y2 y3 y4 y5 y6 y7 y8 y9 y10 y11 y12 y13) (keystonelaw12_LexisLoses.j2 (k + 1) y0 y1 y2 y3 y4 y5 y6 y7 y8 y9 y10 y11 y12 y13)) ∧ (∀ y0 y1 y2 y3 y4 y5 y6 y7 y8 y9 y10 y11 y12 y13 y14, LeO (keystonelaw12_LexisLoses.j3 k y0 y1 y2 y3 y4 y5 y6 y7 y8 y9 y10 y11 y12 y13 y14) (keystonelaw12_LexisLoses.j3 (k + 1) y0 y1 y2 y3 y4 y5 y6 y7 y8 y9 y10 y11 y12 y13 y14)) ∧ (∀ y0 y1 y2 y3 y4 y5 y6 y7 y8 y9 y10 y11 y12 y13, LeO (keystonelaw12_LexisLoses.j6 k y0 y1 y2 y3 y4 y5 y6 y7 y8 y9 y10 y11 y12 y13) (keystonelaw12_LexisLoses.j6 (k + 1) y0 y1 y2 y3 y4 y5 y6 y7 y8 y9 y10 y11 y12 y13)) ∧ (∀ y0 y1 y2 y3 y4 y5 y6 y7 y8 y9 y10 y11 y12 y13 y14 y15, LeO (keystonelaw12_LexisLoses.l1 k y0 y1 y2 y3 y4 y5 y6 y7 y8 y9 y10 y11 y12 y13 y14 y15) (keystonelaw12_LexisLoses.l1 (k + 1) y0 y1 y2 y3 y4 y5 y6 y7 y8 y9 y10 y11 y12 y13 y14 y15)) ∧ (∀ y0 y1 y2 y3 y4 y5 y6 y7 y8 y9 y10 y11 y12 y13 y14 y15 y16, LeO (keystonelaw12_LexisLoses.j5 k y0 y1 y2 y3 y4 y5 y6 y7 y8 y9 y10 y11 y12 y13 y14 y15 y16) (keystonelaw12_LexisLoses.j5 (k + 1) y0 y1 y2 y3 y4 y5 y6 y7 y8 y9 y10 y11 y12 y13 y14 y15 y16))
  | 0 => ⟨fun _ _ _ _ _ _ r h => by simp [keystonelaw12_LexisLoses.l0] at h, fun _ _ _ _ _ _ _ _ _ _ _ _ _ _ _ r h => by simp [keystonelaw12_LexisLoses.j1] at h, fun _ _ _ _ _ _ _ _ _ _ _ _ _ _ r h => by simp [keystonelaw12_LexisLoses.j2] at h, fun _ _ _ _ _ _ _ _ _ _ _ _ _ _ _ r h => by simp [keystonelaw12_LexisLoses.j3] at h, fun _ _ _ _ _ _ _ _ _ _ _ _ _ _ r h => by simp [keystonelaw12_LexisLoses.j6] at h, fun _ _ _ _ _ _ _ _ _ _ _ _ _ _ _ _ r h => by simp [keystonelaw12_LexisLoses.l1] at h, fun _ _ _ _ _ _ _ _ _ _ _ _ _ _ _ _ _ r h => by simp [keystonelaw12_LexisLoses.j5] at h⟩
  | k + 1 => by
    obtain ⟨ih0, ih1, ih2, ih3, ih4, ih5, ih6⟩ := keystonelaw12_LexisLoses.mono_l k
    refine ⟨?_, ?_, ?_, ?_, ?_, ?_, ?_⟩
    · intro y0 y1 y2 y3 y4 y5
      unfold keystonelaw12_LexisLoses.l0
      repeat' first
      | (with_reducible exact ih0 _ _ _ _ _ _)
      | (with_reducible exact ih1 _ _ _ _ _ _ _ _ _ _ _ _ _ _ _)
      | (with_reducible exact ih2 _ _ _ _ _ _ _ _ _ _ _ _ _ _)
      | (with_reducible exact ih3 _ _ _ _ _ _ _ _ _ _ _ _ _ _ _)
      | (with_reducible exact ih4 _ _ _ _ _ _ _ _ _ _ _ _ _ _)
      | (with_reducible exact ih5 _ _ _ _ _ _ _ _ _ _ _ _ _ _ _ _)
      | (with_reducible exact ih6 _ _ _ _ _ _ _ _ _ _ _ _ _ _ _ _ _)
      | (with_reducible exact keystonelaw12_begun.mono _)
      | (with_reducible exact keystonelaw12_blanks.mono _ _)
      | (with_reducible exact lexis_Tokens.mono _ _)
      | (with_reducible exact LeO.refl _)
      | (with_reducible exact LeO.none _)
      | (with_reducible refine LeO.ite ?_ ?_)
      | (with_reducible refine LeO.bind ?_ (fun _ => ?_))
      | exact ih0 _ _ _ _ _ _
      | exact ih1 _ _ _ _ _ _ _ _ _ _ _ _ _ _ _
      | exact ih2 _ _ _ _ _ _ _ _ _ _ _ _ _ _
      | exact ih3 _ _ _ _ _ _ _ _ _ _ _ _ _ _ _
      | exact ih4 _ _ _ _ _ _ _ _ _ _ _ _ _ _
      | exact ih5 _ _ _ _ _ _ _ _ _ _ _ _ _ _ _ _
      | exact ih6 _ _ _ _ _ _ _ _ _ _ _ _ _ _ _ _ _
      | exact keystonelaw12_begun.mono _
      | exact keystonelaw12_blanks.mono _ _
      | exact lexis_Tokens.mono _ _
      | exact LeO.none _
      | refine LeO.ite ?_ ?_
      | refine LeO.bind ?_ (fun _ => ?_)
    · intro y0 y1 y2 y3 y4 y5 y6 y7 y8 y9 y10 y11 y12 y13 y14
      unfold keystonelaw12_LexisLoses.j1
      repeat' first
      | (with_reducible exact ih0 _ _ _ _ _ _)
      | (with_reducible exact ih1 _ _ _ _ _ _ _ _ _ _ _ _ _ _ _)
      | (with_reducible exact ih2 _ _ _ _ _ _ _ _ _ _ _ _ _ _)
      | (with_reducible exact ih3 _ _ _ _ _ _ _ _ _ _ _ _ _ _ _)
      | (with_reducible exact ih4 _ _ _ _ _ _ _ _ _ _ _ _ _ _)
      | (with_reducible exact ih5 _ _ _ _ _ _ _ _ _ _ _ _ _ _ _ _)
      | (with_reducible exact ih6 _ _ _ _ _ _ _ _ _ _ _ _ _ _ _ _ _)
      | (with_reducible exact keystonelaw12_begun.mono _)
      | (with_reducible exact keystonelaw12_blanks.mono _ _)
      | (with_reducible exact lexis_Tokens.mono _ _)
      | (with_reducible exact LeO.refl _)
      | (with_reducible exact LeO.none _)
      | (with_reducible refine LeO.ite ?_ ?_)
      | (with_reducible refine LeO.bind ?_ (fun _ => ?_))
      | exact ih0 _ _ _ _ _ _
      | exact ih1 _ _ _ _ _ _ _ _ _ _ _ _ _ _ _
      | exact ih2 _ _ _ _ _ _ _ _ _ _ _ _ _ _
      | exact ih3 _ _ _ _ _ _ _ _ _ _ _ _ _ _ _
      | exact ih4 _ _ _ _ _ _ _ _ _ _ _ _ _ _
      | exact ih5 _ _ _ _ _ _ _ _ _ _ _ _ _ _ _ _
      | exact ih6 _ _ _ _ _ _ _ _ _ _ _ _ _ _ _ _ _
      | exact keystonelaw12_begun.mono _
      | exact keystonelaw12_blanks.mono _ _
      | exact lexis_Tokens.mono _ _
      | exact LeO.none _
      | refine LeO.ite ?_ ?_
      | refine LeO.bind ?_ (fun _ => ?_)
    · intro y0 y1 y2 y3 y4 y5 y6 y7 y8 y9 y10 y11 y12 y13
      unfold keystonelaw12_LexisLoses.j2
      repeat' first
      | (with_reducible exact ih0 _ _ _ _ _ _)
      | (with_reducible exact ih1 _ _ _ _ _ _ _ _ _ _ _ _ _ _ _)
      | (with_reducible exact ih2 _ _ _ _ _ _ _ _ _ _ _ _ _ _)
      | (with_reducible exact ih3 _ _ _ _ _ _ _ _ _ _ _ _ _ _ _)
      | (with_reducible exact ih4 _ _ _ _ _ _ _ _ _ _ _ _ _ _)
      | (with_reducible exact ih5 _ _ _ _ _ _ _ _ _ _ _ _ _ _ _ _)
      | (with_reducible exact ih6 _ _ _ _ _ _ _ _ _ _ _ _ _ _ _ _ _)
      | (with_reducible exact keystonelaw12_begun.mono _)
      | (with_reducible exact keystonelaw12_blanks.mono _ _)
      | (with_reducible exact lexis_Tokens.mono _ _)
      | (with_reducible exact LeO.refl _)
      | (with_reducible exact LeO.none _)
      | (with_reducible refine LeO.ite ?_ ?_)
      | (with_reducible refine LeO.bind ?_ (fun _ => ?_))
      | exact ih0 _ _ _ _ _ _
      | exact ih1 _ _ _ _ _ _ _ _ _ _ _ _ _ _ _
      | exact ih2 _ _ _ _ _ _ _ _ _ _ _ _ _ _
      | exact ih3 _ _ _ _ _ _ _ _ _ _ _ _ _ _ _
      | exact ih4 _ _ _ _ _ _ _ _ _ _ _ _ _ _
      | exact ih5 _ _ _ _ _ _ _ _ _ _ _ _ _ _ _ _
      | exact ih6 _ _ _ _ _ _ _ _ _ _ _ _ _ _ _ _ _
      | exact keystonelaw12_begun.mono _
      | exact keystonelaw12_blanks.mono _ _
      | exact lexis_Tokens.mono _ _
      | exact LeO.none _
      | refine LeO.ite ?_ ?_
      | refine LeO.bind ?_ (fun _ => ?_)
    · intro y0 y1 y2 y3 y4 y5 y6 y7 y8 y9 y10 y11 y12 y13 y14
      unfold keystonelaw12_LexisLoses.j3
      repeat' first
      | (with_reducible exact ih0 _ _ _ _ _ _)
      | (with_reducible exact ih1 _ _ _ _ _ _ _ _ _ _ _ _ _ _ _)
      | (with_reducible exact ih2 _ _ _ _ _ _ _ _ _ _ _ _ _ _)
      | (with_reducible exact ih3 _ _ _ _ _ _ _ _ _ _ _ _ _ _ _)
      | (with_reducible exact ih4 _ _ _ _ _ _ _ _ _ _ _ _ _ _)
      | (with_reducible exact ih5 _ _ _ _ _ _ _ _ _ _ _ _ _ _ _ _)
      | (with_reducible exact ih6 _ _ _ _ _ _ _ _ _ _ _ _ _ _ _ _ _)
      | (with_reducible exact keystonelaw12_begun.mono _)
      | (with_reducible exact keystonelaw12_blanks.mono _ _)
      | (with_reducible exact lexis_Tokens.mono _ _)
      | (with_reducible exact LeO.refl _)
      | (with_reducible exact LeO.none _)
      | (with_reducible refine LeO.ite ?_ ?_)
      | (with_reducible refine LeO.bind ?_ (fun _ => ?_))
      | exact ih0 _ _ _ _ _ _
      | exact ih1 _ _ _ _ _ _ _ _ _ _ _ _ _ _ _
      | exact ih2 _ _ _ _ _ _ _ _ _ _ _ _ _ _
      | exact ih3 _ _ _ _ _ _ _ _ _ _ _ _ _ _ _
      | exact ih4 _ _ _ _ _ _ _ _ _ _ _ _ _ _
      | exact ih5 _ _ _ _ _ _ _ _ _ _ _ _ _ _ _ _
      | exact ih6 _ _ _ _ _ _ _ _ _ _ _ _ _ _ _ _ _
      | exact keystonelaw12_begun.mono _
      | exact keystonelaw12_blanks.mono _ _
      | exact lexis_Tokens.mono _ _
      | exact LeO.none _
      | refine LeO.ite ?_ ?_
      | refine LeO.bind ?_ (fun _ => ?_)
    · intro y0 y1 y2 y3 y4 y5 y6 y7 y8 y9 y10 y11 y12 y13
      unfold keystonelaw12_LexisLoses.j6
      repeat' first
      | (with_reducible exact ih0 _ _ _ _ _ _)
      | (with_reducible exact ih1 _ _ _ _ _ _ _ _ _ _ _ _ _ _ _)
      | (with_reducible exact ih2 _ _ _ _ _ _ _ _ _ _ _ _ _ _)
      | (with_reducible exact ih3 _ _ _ _ _ _ _ _ _ _ _ _ _ _ _)
      | (with_reducible exact ih4 _ _ _ _ _ _ _ _ _ _ _ _ _ _)
      | (with_reducible exact ih5 _ _ _ _ _ _ _ _ _ _ _ _ _ _ _ _)
      | (with_reducible exact ih6 _ _ _ _ _ _ _ _ _ _ _ _ _ _ _ _ _)
      | (with_reducible exact keystonelaw12_begun.mono _)
      | (with_reducible exact keystonelaw12_blanks.mono _ _)
      | (with_reducible exact lexis_Tokens.mono _ _)
      | (with_reducible exact LeO.refl _)
      | (with_reducible exact LeO.none _)
      | (with_reducible refine LeO.ite ?_ ?_)
      | (with_reducible refine LeO.bind ?_ (fun _ => ?_))
      | exact ih0 _ _ _ _ _ _
      | exact ih1 _ _ _ _ _ _ _ _ _ _ _ _ _ _ _
      | exact ih2 _ _ _ _ _ _ _ _ _ _ _ _ _ _
      | exact ih3 _ _ _ _ _ _ _ _ _ _ _ _ _ _ _
      | exact ih4 _ _ _ _ _ _ _ _ _ _ _ _ _ _
      | exact ih5 _ _ _ _ _ _ _ _ _ _ _ _ _ _ _ _
      | exact ih6 _ _ _ _ _ _ _ _ _ _ _ _ _ _ _ _ _
      | exact keystonelaw12_begun.mono _
      | exact keystonelaw12_blanks.mono _ _
      | exact lexis_Tokens.mono _ _
      | exact LeO.none _
      | refine LeO.ite ?_ ?_
      | refine LeO.bind ?_ (fun _ => ?_)
    · intro y0 y1 y2 y3 y4 y5 y6 y7 y8 y9 y10 y11 y12 y13 y14 y15
      unfold keystonelaw12_LexisLoses.l1
      repeat' first
      | (with_reducible exact ih0 _ _ _ _ _ _)
      | (with_reducible exact ih1 _ _ _ _ _ _ _ _ _ _ _ _ _ _ _)
      | (with_reducible exact ih2 _ _ _ _ _ _ _ _ _ _ _ _ _ _)
      | (with_reducible exact ih3 _ _ _ _ _ _ _ _ _ _ _ _ _ _ _)
      | (with_reducible exact ih4 _ _ _ _ _ _ _ _ _ _ _ _ _ _)
      | (with_reducible exact ih5 _ _ _ _ _ _ _ _ _ _ _ _ _ _ _ _)
      | (with_reducible exact ih6 _ _ _ _ _ _ _ _ _ _ _ _ _ _ _ _ _)
      | (with_reducible exact keystonelaw12_begun.mono _)
      | (with_reducible exact keystonelaw12_blanks.mono _ _)
      | (with_reducible exact lexis_Tokens.mono _ _)
      | (with_reducible exact LeO.refl _)
      | (with_reducible exact LeO.none _)
      | (with_reducible refine LeO.ite ?_ ?_)
      | (with_reducible refine LeO.bind ?_ (fun _ => ?_))
      | exact ih0 _ _ _ _ _ _
      | exact ih1 _ _ _ _ _ _ _ _ _ _ _ _ _ _ _
      | exact ih2 _ _ _ _ _ _ _ _ _ _ _ _ _ _
      | exact ih3 _ _ _ _ _ _ _ _ _ _ _ _ _ _ _
      | exact ih4 _ _ _ _ _ _ _ _ _ _ _ _ _ _
      | exact ih5 _ _ _ _ _ _ _ _ _ _ _ _ _ _ _ _
      | exact ih6 _ _ _ _ _ _ _ _ _ _ _ _ _ _ _ _ _
      | exact keystonelaw12_begun.mono _
      | exact keystonelaw12_blanks.mono _ _
      | exact lexis_Tokens.mono _ _
      | exact LeO.none _
      | refine LeO.ite ?_ ?_
      | refine LeO.bind ?_ (fun _ => ?_)
    · intro y0 y1 y2 y3 y4 y5 y6 y7 y8 y9 y10 y11 y12 y13 y14 y15 y16
      unfold keystonelaw12_LexisLoses.j5
      repeat' first
      | (with_reducible exact ih0 _ _ _ _ _ _)
      | (with_reducible exact ih1 _ _ _ _ _ _ _ _ _ _ _ _ _ _ _)
      | (with_reducible exact ih2 _ _ _ _ _ _ _ _ _ _ _ _ _ _)
      | (with_reducible exact ih3 _ _ _ _ _ _ _ _ _ _ _ _ _ _ _)
      | (with_reducible exact ih4 _ _ _ _ _ _ _ _ _ _ _ _ _ _)
      | (with_reducible exact ih5 _ _ _ _ _ _ _ _ _ _ _ _ _ _ _ _)
      | (with_reducible exact ih6 _ _ _ _ _ _ _ _ _ _ _ _ _ _ _ _ _)
      | (with_reducible exact keystonelaw12_begun.mono _)
      | (with_reducible exact keystonelaw12_blanks.mono _ _)
      | (with_reducible exact lexis_Tokens.mono _ _)
      | (with_reducible exact LeO.refl _)
      | (with_reducible exact LeO.none _)
      | (with_reducible refine LeO.ite ?_ ?_)
      | (with_reducible refine LeO.bind ?_ (fun _ => ?_))
      | exact ih0 _ _ _ _ _ _
      | exact ih1 _ _ _ _ _ _ _ _ _ _ _ _ _ _ _
      | exact ih2 _ _ _ _ _ _ _ _ _ _ _ _ _ _
      | exact ih3 _ _ _ _ _ _ _ _ _ _ _ _ _ _ _
      | exact ih4 _ _ _ _ _ _ _ _ _ _ _ _ _ _
      | exact ih5 _ _ _ _ _ _ _ _ _ _ _ _ _ _ _ _
      | exact ih6 _ _ _ _ _ _ _ _ _ _ _ _ _ _ _ _ _
      | exact keystonelaw12_begun.mono _
      | exact keystonelaw12_blanks.mono _ _
      | exact lexis_Tokens.mono _ _
      | exact LeO.none _
      | refine LeO.ite ?_ ?_
      | refine LeO.bind ?_ (fun _ => ?_)
theorem keystonelaw12_LexisLoses.mono : ∀ a0 k, LeO (keystonelaw12_LexisLoses.f k a0) (keystonelaw12_LexisLoses.f (k + 1) a0) := by
  intro a0 k
  obtain ⟨ih0, ih1, ih2, ih3, ih4, ih5, ih6⟩ := keystonelaw12_LexisLoses.mono_l k
  unfold keystonelaw12_LexisLoses.f
  repeat' first
      | (with_reducible exact ih0 _ _ _ _ _ _)
      | (with_reducible exact ih1 _ _ _ _ _ _ _ _ _ _ _ _ _ _ _)
      | (with_reducible exact ih2 _ _ _ _ _ _ _ _ _ _ _ _ _ _)
      | (with_reducible exact ih3 _ _ _ _ _ _ _ _ _ _ _ _ _ _ _)
      | (with_reducible exact ih4 _ _ _ _ _ _ _ _ _ _ _ _ _ _)
      | (with_reducible exact ih5 _ _ _ _ _ _ _ _ _ _ _ _ _ _ _ _)
      | (with_reducible exact ih6 _ _ _ _ _ _ _ _ _ _ _ _ _ _ _ _ _)
      | (with_reducible exact keystonelaw12_begun.mono _)
      | (with_reducible exact keystonelaw12_blanks.mono _ _)
      | (with_reducible exact lexis_Tokens.mono _ _)
      | (with_reducible exact LeO.refl _)
      | (with_reducible exact LeO.none _)
      | (with_reducible refine LeO.ite ?_ ?_)
      | (with_reducible refine LeO.bind ?_ (fun _ => ?_))
      | exact ih0 _ _ _ _ _ _
      | exact ih1 _ _ _ _ _ _ _ _ _ _ _ _ _ _ _
      | exact ih2 _ _ _ _ _ _ _ _ _ _ _ _ _ _
      | exact ih3 _ _ _ _ _ _ _ _ _ _ _ _ _ _ _
      | exact ih4 _ _ _ _ _ _ _ _ _ _ _ _ _ _
      | exact ih5 _ _ _ _ _ _ _ _ _ _ _ _ _ _ _ _
      | exact ih6 _ _ _ _ _ _ _ _ _ _ _ _ _ _ _ _ _
      | exact keystonelaw12_begun.mono _
      | exact keystonelaw12_blanks.mono _ _
      | exact lexis_Tokens.mono _ _
      | exact LeO.none _
      | refine LeO.ite ?_ ?_
      | refine LeO.bind ?_ (fun _ => ?_)
def keystonelaw12_LexisLoses.T22 : Bool × List (List Nat × List Nat) := (true, [([], []), ([0], [0]), ([1], [1]), ([2], [2]), ([3, 2], [2, 3]), ([4, 2], [2, 4]), ([2, 5], [2, 5]), ([6, 2], [6]), ([7], [7]), ([8, 7], [7, 8]), ([9, 7], [7, 9]), ([10, 7], [7, 10]), ([7], [7]), ([12, 7], [7, 12]), ([11, 13, 7], [7, 11, 13]), ([7, 14], [7, 14]), ([15, 7], [15]), ([16], [16]), ([17, 16], [16, 17]), ([18, 16], [16, 18]), ([19, 16], [16, 19]), ([16], [16]), ([21, 16], [16, 21]), ([20, 22, 16], [16, 20, 22]), ([16, 23], [16, 23]), ([24, 16], [24]), ([25], [25]), ([26, 25], [25, 26]), ([27, 25], [25, 27]), ([28, 25], [25, 28]), ([25], [25]), ([30, 25], [25, 30]), ([29, 31, 25, 25], [25, 29, 31]), ([25, 32], [25, 32]), ([33, 32], [33]), ([34], [34]), ([35, 34], [34, 35]), ([36, 34], [34, 36]), ([37, 34], [34, 37]), ([38, 34], [34, 38]), ([34, 39], [34, 39])])
def keystonelaw12_LexisLoses.B22 : List Nat := [0, 1, 3, 7, 15, 31, 63, 127, 255, 511, 1023, 2047, 255, 4351, 16383, 32767, 65535, 131071, 262143, 524287, 1048575, 131071, 2228223, 8388607, 16777215, 33554431, 67108863, 134217727, 268435455, 536870911, 67108863, 1140850687, 4294967295, 8589934591, 17179869183, 34359738367, 68719476735, 137438953471, 274877906943, 549755813887, 1099511627775]
theorem keystonelaw12_LexisLoses.tab22 : rtab .any (opsOf Tryd.f5 22) = keystonelaw12_LexisLoses.T22 := by kernel_rfl
theorem keystonelaw12_LexisLoses.bits22 : waitsOk keystonelaw12_LexisLoses.T22.2 keystonelaw12_LexisLoses.B22 = true := by kernel_rfl
set_option maxHeartbeats 4000000 in
set_option maxRecDepth 100000 in
theorem keystonelaw12_LexisLoses.calls (k : Nat) (a0 : ByteArray) (r : Bool) (hr_ : r = true) (w : World) (hGE : GE w) (h : keystonelaw12_LexisLoses.f k a0 = some r) :
    Calls Tryd.prog 5 #[.string a0] w fun e w' => e = .returned (.bool r) ∧ Below w.heap.size w w' := by
  have hu35 := Tryd.underlying35
  have hu33 := Tryd.underlying33
  have HB := Aside0.mk (Below.refl w.heap.size w)
  have H : ((keystonelaw12_begun.f k).bind fun t302 => (if t302 = true then ((lexis_Tokens.f k a0).bind fun bt303 => (if bt303.2.2 = 0 then (keystonelaw12_LexisLoses.l0 k a0 bt303.1 0 bt303.1 (bt303.1.length : Int) 0) else (if bt303.2.1 ≥ 0 then (if bt303.2.1 ≤ (a0.size : Int) then (some ((bt303.1.length : Int) == 0)) else (some false)) else (some false)))) else (some false))) = some r := h
  clear h
  have HGE := Aside0.mk hGE
  clear hGE
  replace H := Option.bind_eq_some_iff.mp H
  obtain ⟨t302, A20, H⟩ := H
  replace H : (if t302 = true then ((lexis_Tokens.f k a0).bind fun bt303 => (if bt303.2.2 = 0 then (keystonelaw12_LexisLoses.l0 k a0 bt303.1 0 bt303.1 (bt303.1.length : Int) 0) else (if bt303.2.1 ≥ 0 then (if bt303.2.1 ≤ (a0.size : Int) then (some ((bt303.1.length : Int) == 0)) else (some false)) else (some false)))) else (some false)) = some r := H
  have A2 := Aside0.mk A20
  clear A20
  by_cases c3 : t302 = true
  rotate_left
  · replace c3 := Bool.eq_false_iff.mpr c3
    subst c3
    have H1 : (some false) = some r := by rw [if_neg (show ¬ (false = true) by decide)] at H; exact H
    clear H
    have H := H1
    clear H1
    obtain rfl := Option.some.inj H
    exact absurd hr_ (by simp)
  subst c3
  have H1 : ((lexis_Tokens.f k a0).bind fun bt303 => (if bt303.2.2 = 0 then (keystonelaw12_LexisLoses.l0 k a0 bt303.1 0 bt303.1 (bt303.1.length : Int) 0) else (if bt303.2.1 ≥ 0 then (if bt303.2.1 ≤ (a0.size : Int) then (some ((bt303.1.length : Int) == 0)) else (some false)) else (some false)))) = some r := by rw [if_pos rfl] at H; exact H
  clear H
  have H := H1
  clear H1
  replace H := Option.bind_eq_some_iff.mp H
  obtain ⟨⟨t303, t304, t305⟩, A40, H⟩ := H
  replace H : (if t305 = 0 then (keystonelaw12_LexisLoses.l0 k a0 t303 0 t303 (t303.length : Int) 0) else (if t304 ≥ 0 then (if t304 ≤ (a0.size : Int) then (some ((t303.length : Int) == 0)) else (some false)) else (some false))) = some r := H
  have A4 := Aside0.mk A40
  clear A40
  by_cases c5 : t305 = 0
  rotate_left
  · rw [if_neg c5] at H
    have c5b0 : (t305 == 0) = false := beq_eq_false_iff_ne.mpr c5
    have c5b1 : (t305 != 0) = true := bne_iff_ne.mpr c5
    by_cases c70 : t304 ≥ 0
    rotate_left
    · rw [if_neg c70] at H
      have c70b0 : decide (0 ≤ t304) = false := decide_eq_false c70
      clear c70
      obtain rfl := Option.some.inj H
      exact absurd hr_ (by simp)
    rw [if_pos c70] at H
    have c70b0 : decide (0 ≤ t304) = true := decide_eq_true c70
    clear c70
    by_cases c71 : t304 ≤ (a0.size : Int)
    rotate_left
    · rw [if_neg c71] at H
      have c71b0 : decide (t304 ≤ (a0.size : Int)) = false := decide_eq_false c71
      clear c71
      obtain rfl := Option.some.inj H
      exact absurd hr_ (by simp)
    rw [if_pos c71] at H
    have c71b0 : decide (t304 ≤ (a0.size : Int)) = true := decide_eq_true c71
    clear c71
    obtain rfl := Option.some.inj H
    go_enter Tryd.func5, Tryd.ntmps5
    go_wp2_with (first | ((with_reducible refine gate_callee (f := 15) rfl ?_); refine goesL_ (some 15) rfl rfl Tryd.func15 (by kernel_rfl) rfl #[] rfl (by (try simp only [List.map_toArray, List.map_cons, List.map_nil]); first | done | rfl | (simp only [List.length_drop, List.length_take]; rfl)) ?_; (with_reducible refine (keystonelaw12_begun.calls k  true _ ?side1 A2.out).mono ?_); (case side1 => first | exact HGE.out | exact GE_below HGE.out (by repeat (first | (with_reducible first | exact HB.out | apply below_alloc | apply pw_below_drewN | apply below_drew1) | exact HB.out))); rintro e w72 ⟨rfl, hb⟩; refine ⟨_, rfl, ?_⟩; have n0_ := Aside0.mk (below_step (by repeat (first | (with_reducible first | exact HB.out | apply below_alloc | apply pw_below_drewN | apply below_drew1) | exact HB.out)) hb); clear HB; have HB := n0_; clear n0_; (try clear hb); (try clear hb2); (try clear hk); (try clear hi)) | ((with_reducible refine gate_callee (f := 13) rfl ?_); refine goesL_ (some 19) rfl rfl Tryd.func13 (by kernel_rfl) rfl #[.string a0] rfl (by (try simp only [List.map_toArray, List.map_cons, List.map_nil]); first | done | rfl | (simp only [List.length_drop, List.length_take]; rfl)) ?_; (with_reducible refine (lexis_Tokens.calls k a0 t303 t304 t305 _ ?side1 A4.out).mono ?_); (case side1 => first | exact HGE.out | exact GE_below HGE.out (by repeat (first | (with_reducible first | exact HB.out | apply below_alloc | apply pw_below_drewN | apply below_drew1) | exact HB.out))); rintro e w73 ⟨v306, rfl, ho0, hb⟩; refine ⟨_, rfl, ?_⟩; have n0_ := Aside0.mk (Kd.R_lower ho0 (below_size (by repeat (first | (with_reducible first | exact HB.out | apply below_alloc | apply pw_below_drewN | apply below_drew1) | exact HB.out)))); have n1_ := Aside0.mk (below_step (by repeat (first | (with_reducible first | exact HB.out | apply below_alloc | apply pw_below_drewN | apply below_drew1) | exact HB.out)) hb); clear HB; have HO307 := n0_; have HB := n1_; clear n0_ n1_; (try clear hb); (try clear hb2); (try clear hk); (try clear hi); (try clear ho0); obtain ⟨Ao74, co74, eo74⟩ := Kd.R_slice HO307.out; subst eo74))
    go_ret
    exact ⟨by first | rfl | (simp [errW_none, errW_some] <;> rfl) | (simp [*, errW_none, errW_some] <;> rfl), by repeat (first | (with_reducible first | exact HB.out | apply below_alloc | apply pw_below_drewN | apply below_drew1) | exact HB.out)⟩
  rw [if_pos c5] at H
  have c5b0 : (t305 == 0) = true := beq_iff_eq.mpr c5
  have c5b1 : (t305 != 0) = false := bne_eq_false_iff_eq.mpr c5
  clear c5
  have H' := Aside0.mk H
  clear H
  go_enter Tryd.func5, Tryd.ntmps5
  go_wp2_with (first | ((with_reducible refine gate_callee (f := 15) rfl ?_); refine goesL_ (some 15) rfl rfl Tryd.func15 (by kernel_rfl) rfl #[] rfl (by (try simp only [List.map_toArray, List.map_cons, List.map_nil]); first | done | rfl | (simp only [List.length_drop, List.length_take]; rfl)) ?_; (with_reducible refine (keystonelaw12_begun.calls k  true _ ?side1 A2.out).mono ?_); (case side1 => first | exact HGE.out | exact GE_below HGE.out (by repeat (first | (with_reducible first | exact HB.out | apply below_alloc | apply pw_below_drewN | apply below_drew1) | exact HB.out))); rintro e w6 ⟨rfl, hb⟩; refine ⟨_, rfl, ?_⟩; have n0_ := Aside0.mk (below_step (by repeat (first | (with_reducible first | exact HB.out | apply below_alloc | apply pw_below_drewN | apply below_drew1) | exact HB.out)) hb); clear HB; have HB := n0_; clear n0_; (try clear hb); (try clear hb2); (try clear hk); (try clear hi)) | ((with_reducible refine gate_callee (f := 13) rfl ?_); refine goesL_ (some 19) rfl rfl Tryd.func13 (by kernel_rfl) rfl #[.string a0] rfl (by (try simp only [List.map_toArray, List.map_cons, List.map_nil]); first | done | rfl | (simp only [List.length_drop, List.length_take]; rfl)) ?_; (with_reducible refine (lexis_Tokens.calls k a0 t303 t304 t305 _ ?side1 A4.out).mono ?_); (case side1 => first | exact HGE.out | exact GE_below HGE.out (by repeat (first | (with_reducible first | exact HB.out | apply below_alloc | apply pw_below_drewN | apply below_drew1) | exact HB.out))); rintro e w7 ⟨v306, rfl, ho0, hb⟩; refine ⟨_, rfl, ?_⟩; have n0_ := Aside0.mk (Kd.R_lower ho0 (below_size (by repeat (first | (with_reducible first | exact HB.out | apply below_alloc | apply pw_below_drewN | apply below_drew1) | exact HB.out)))); have n1_ := Aside0.mk (below_step (by repeat (first | (with_reducible first | exact HB.out | apply below_alloc | apply pw_below_drewN | apply below_drew1) | exact HB.out)) hb); clear HB; have HO307 := n0_; have HB := n1_; clear n0_ n1_; (try clear hb); (try clear hb2); (try clear hk); (try clear hi); (try clear ho0); obtain ⟨Ao8, co8, eo8⟩ := Kd.R_slice HO307.out; subst eo8))
  go_loopg [6, 40] k (fun kq v6 v40 w' => ∃ (x6_1 : Int) (x40_1 : Int), v6 = .int .i64 x6_1 ∧ v40 = .int .i64 x40_1 ∧ Aside0 (keystonelaw12_LexisLoses.l0 kq a0 t303 x6_1 t303 (t303.length : Int) x40_1 = some r) ∧ Aside0 (kq ≤ k) ∧ Aside0 (Kd.R k35 35 w' w.heap.size (fun _ => True) (.slice Ao8 t303.length co8) t303) ∧ Aside0 (Kd.R k35 35 w' w.heap.size (fun _ => True) (.slice Ao8 t303.length co8) t303) ∧ Aside0 (Below w.heap.size w w'))
  case atStart => exact ⟨(0), (0), (by first | rfl | (simp; done) | (simp [*]; done)), (by first | rfl | (simp; done) | (simp [*]; done)), H', ⟨Nat.le_refl _⟩, ⟨by (with_reducible repeat (first | apply Kd.R_alloc | apply Kd.R_drewN | apply Kd.R_drew)); exact HO307.out⟩, ⟨by (with_reducible repeat (first | apply Kd.R_alloc | apply Kd.R_drewN | apply Kd.R_drew)); exact HO307.out⟩, ⟨by repeat (first | (with_reducible first | exact HB.out | apply below_alloc | apply pw_below_drewN | apply below_drew1) | exact HB.out)⟩⟩
  case round =>
    clear H'
    try clear c1
    try clear p2
    try clear c3
    try clear c5
    try clear c5b0
    try clear c5b1
    obtain ⟨x6_1, x40_1, rfl, rfl, HA, HK1, HO_3, HO_38, HB⟩ := hrel
    cases gk with
    | zero => exact absurd HA.out (by simp [keystonelaw12_LexisLoses.l0])
    | succ k1 =>
      have H := HA.out
      clear HA
      simp only [keystonelaw12_LexisLoses.l0] at H
      by_cases c9 : x40_1 < (t303.length : Int)
      rotate_left
      · rw [if_neg c9] at H
        have c9b0 : decide (x40_1 < (t303.length : Int)) = false := decide_eq_false c9
        clear c9
        by_cases c67 : 0 ≤ x6_1
        rotate_left
        · rw [if_neg c67] at H
          exact absurd H (by simp)
        rw [if_pos c67] at H
        have c67b0 := eq_true c67
        have c67b1 : decide (0 ≤ x6_1) = true := decide_eq_true c67
        clear c67
        by_cases c68 : x6_1 ≤ (a0.size : Int)
        rotate_left
        · rw [if_neg c68] at H
          exact absurd H (by simp)
        rw [if_pos c68] at H
        have c68b0 := eq_true c68
        have c68b1 : decide (x6_1 ≤ (a0.size : Int)) = true := decide_eq_true c68
        clear c68
        replace H := Option.bind_eq_some_iff.mp H
        obtain ⟨t308, A690, H⟩ := H
        replace H : (some t308) = some r := H
        have A69 := Aside0.mk A690
        clear A690
        obtain rfl := Option.some.inj H
        go_wp2_with (first | ((with_reducible refine gate_callee (f := 17) rfl ?_); refine goesL_ (some 161) rfl rfl Tryd.func17 (by kernel_rfl) rfl #[.string (a0.extract (x6_1 : Int).toNat a0.size)] rfl (by (try simp only [List.map_toArray, List.map_cons, List.map_nil]); first | done | rfl | (simp only [List.length_drop, List.length_take]; rfl)) ?_; (with_reducible refine (keystonelaw12_blanks.calls k1 (a0.extract (x6_1 : Int).toNat a0.size) t308 _ A69.out).mono ?_); rintro e w' ⟨rfl, ⟨nd, rfl⟩⟩; refine ⟨_, rfl, ?_⟩))
        go_ret
        exact ⟨by first | rfl | (simp [errW_none, errW_some] <;> rfl) | (simp [*, errW_none, errW_some] <;> rfl), by repeat (first | (with_reducible first | exact HB.out | apply below_alloc | apply pw_below_drewN | apply below_drew1) | exact HB.out)⟩
      rw [if_pos c9] at H
      have c9b0 : decide (x40_1 < (t303.length : Int)) = true := decide_eq_true c9
      clear c9
      by_cases c10 : 0 ≤ x40_1
      rotate_left
      · rw [if_neg c10] at H
        exact absurd H (by simp)
      rw [if_pos c10] at H
      have c10b0 : decide (0 ≤ x40_1) = true := decide_eq_true c10
      clear c10
      by_cases c11 : x40_1 < (t303.length : Int)
      rotate_left
      · rw [if_neg c11] at H
        exact absurd H (by simp)
      rw [if_pos c11] at H
      have c11b0 : decide (x40_1 < (t303.length : Int)) = true := decide_eq_true c11
      clear c11
      have HC12 := Aside0.mk H
      clear H
      have p309 : 0 ≤ (x40_1 : Int) := of_decide_eq_true (by first | (with_reducible assumption) | assumption)
      have q309 : x40_1 < (t303.length : Int) := of_decide_eq_true (by first | (with_reducible assumption) | assumption)
      obtain ⟨ad309, e309, hx309_0, hx309_1, hx309_2, hx309_3, hx309_4, hx309_5, hx309_6, hx309_7⟩ := at_T35 (Kd.R_reads' HO_38.out).2.2 x40_1 p309 q309
      cases e309
      replace p309 := eq_true p309
      replace q309 := eq_true q309
      go_upto_region 10 with (first | ((with_reducible refine gate_dst (N := 8) rfl ?_); (try (refine gate_guard (by rfl) ?_; dsimp only)); refine box_event ?hg (N := 8) ?hd (cs := #[.int .i64 0, .string (⟨#[]⟩ : ByteArray), .int .i64 0, .int .i64 0, .bool false, .string (⟨#[]⟩ : ByteArray), .complex .f64 0 0, .int .i64 0]) (t := 35) ?hr ?_; (case hd => rfl); (case hg => rfl); (case hr => first | (go_simp; done) | (go_simp; rfl)); intro gb310 hg w13 hbox hb; have n0_ := Aside0.mk (Kd.R_below (Kd.R_elderB (by (with_reducible repeat (first | apply Kd.R_alloc | apply Kd.R_drewN | apply Kd.R_drew)); exact HO_3.out) gb310 (Nat.le_of_eq hg.symm)) hb); have n1_ := Aside0.mk (Kd.R_below (Kd.R_elderB (by (with_reducible repeat (first | apply Kd.R_alloc | apply Kd.R_drewN | apply Kd.R_drew)); exact HO_38.out) gb310 (Nat.le_of_eq hg.symm)) hb); have n2_ := Aside0.mk (below_step (by repeat (first | (with_reducible first | exact HB.out | apply below_alloc | apply pw_below_drewN | apply below_drew1) | exact HB.out)) hb); have n3_ := Aside0.mk (hbox); have n4_ := Aside0.mk ((by rw [hg]; exact (below_size (by repeat (first | (with_reducible first | exact HB.out | apply below_alloc | apply pw_below_drewN | apply below_drew1) | exact HB.out))) : w.heap.size ≤ gb310)); have n5_ := Aside0.mk ((by rw [hg]; exact (below_size (by repeat (first | (with_reducible first | exact HB.out | apply below_alloc | apply pw_below_drewN | apply below_drew1) | exact HB.out))) : w.heap.size ≤ gb310)); clear HO_3; clear HO_38; clear HB; have HO_3 := n0_; have HO_38 := n1_; have HB := n2_; have BK310 := n3_; have GW310 := n4_; have GE310 := n5_; clear n0_ n1_ n2_ n3_ n4_ n5_; clear hb hbox hg; have hcz14_0 : w13.cell? ⟨gb310, 0, none⟩ = some (.int .i64 0) := (blk_cell BK310.out 0).trans rfl; have hcz14_1 : w13.cell? ⟨gb310, 1, none⟩ = some (.string (⟨#[]⟩ : ByteArray)) := (blk_cell BK310.out 1).trans rfl; have hcz14_2 : w13.cell? ⟨gb310, 2, none⟩ = some (.int .i64 0) := (blk_cell BK310.out 2).trans rfl; have hcz14_3 : w13.cell? ⟨gb310, 3, none⟩ = some (.int .i64 0) := (blk_cell BK310.out 3).trans rfl; have hcz14_4 : w13.cell? ⟨gb310, 4, none⟩ = some (.bool false) := (blk_cell BK310.out 4).trans rfl; have hcz14_5 : w13.cell? ⟨gb310, 5, none⟩ = some (.string (⟨#[]⟩ : ByteArray)) := (blk_cell BK310.out 5).trans rfl; have hcz14_6 : w13.cell? ⟨gb310, 6, none⟩ = some (.complex .f64 0 0) := (blk_cell BK310.out 6).trans rfl; have hcz14_7 : w13.cell? ⟨gb310, 7, none⟩ = some (.int .i64 0) := (blk_cell BK310.out 7).trans rfl; have hfz14_0 := blk_frozen BK310.out 0; have hfz14_1 := blk_frozen BK310.out 1; have hfz14_2 := blk_frozen BK310.out 2; have hfz14_3 := blk_frozen BK310.out 3; have hfz14_4 := blk_frozen BK310.out 4; have hfz14_5 := blk_frozen BK310.out 5; have hfz14_6 := blk_frozen BK310.out 6; have hfz14_7 := blk_frozen BK310.out 7))
      (try simp only [Act.put, List.setIfInBounds_toArray, List.set_cons_zero, List.set_cons_succ])
      go_cut [64] (fun v64 wc => ∃ (kq : Nat) (x64_11 : Bool), v64 = .bool x64_11 ∧ Aside0 (keystonelaw12_LexisLoses.j1 kq a0 t303 x40_1 t303 (t303.length : Int) x40_1 x64_11 ((rd_T35 t303 x40_1).f0) ((rd_T35 t303 x40_1).f1) ((rd_T35 t303 x40_1).f2.f0) ((rd_T35 t303 x40_1).f2.f1) ((rd_T35 t303 x40_1).f2.f2) ((rd_T35 t303 x40_1).f2.f3) ((rd_T35 t303 x40_1).f2.f4) ((rd_T35 t303 x40_1).f3) = some r) ∧ Aside0 (kq ≤ k1) ∧ Aside0 (Kd.R k35 35 wc w.heap.size (fun k_ => k_ ≠ gb310) (.slice (some ad309) t303.length co8) t303) ∧ Aside0 (Kd.R k35 35 wc w.heap.size (fun k_ => k_ ≠ gb310) (.slice (some ad309) t303.length co8) t303) ∧ Aside0 (wc.heap[gb310]? = some (.cells #[.int .i64 ((rd_T35 t303 x40_1).f0), .string ((rd_T35 t303 x40_1).f1), .int .i64 ((rd_T35 t303 x40_1).f2.f0), .int .i64 ((rd_T35 t303 x40_1).f2.f1), .bool ((rd_T35 t303 x40_1).f2.f2), .string ((rd_T35 t303 x40_1).f2.f3), .complex .f64 (((rd_T35 t303 x40_1).f2.f4).re) (((rd_T35 t303 x40_1).f2.f4).im), .int .i64 ((rd_T35 t303 x40_1).f3)] 35 (0, 0))) ∧ Aside0 (Below w.heap.size w wc))
      case first =>
        have H := HC12.out
        clear HC12
        by_cases c15 : ((rd_T35 t303 x40_1).f3) < x6_1
        · rw [if_pos c15] at H
          have c15b0 : decide (((rd_T35 t303 x40_1).f3) < x6_1) = true := decide_eq_true c15
          clear c15
          (first | rw [c15b0] | (simp only [i64_w, i32_w]; rw [c15b0]) | skip)
          have H' := Aside0.mk H
          clear H
          have hcz16_0 : w13.cell? ⟨gb310, 0, none⟩ = some (.int .i64 0) := (blk_cell BK310.out 0).trans rfl
          have hcz16_1 : w13.cell? ⟨gb310, 1, none⟩ = some (.string (⟨#[]⟩ : ByteArray)) := (blk_cell BK310.out 1).trans rfl
          have hcz16_2 : w13.cell? ⟨gb310, 2, none⟩ = some (.int .i64 0) := (blk_cell BK310.out 2).trans rfl
          have hcz16_3 : w13.cell? ⟨gb310, 3, none⟩ = some (.int .i64 0) := (blk_cell BK310.out 3).trans rfl
          have hcz16_4 : w13.cell? ⟨gb310, 4, none⟩ = some (.bool false) := (blk_cell BK310.out 4).trans rfl
          have hcz16_5 : w13.cell? ⟨gb310, 5, none⟩ = some (.string (⟨#[]⟩ : ByteArray)) := (blk_cell BK310.out 5).trans rfl
          have hcz16_6 : w13.cell? ⟨gb310, 6, none⟩ = some (.complex .f64 0 0) := (blk_cell BK310.out 6).trans rfl
          have hcz16_7 : w13.cell? ⟨gb310, 7, none⟩ = some (.int .i64 0) := (blk_cell BK310.out 7).trans rfl
          have hfz16_0 := blk_frozen BK310.out 0
          have hfz16_1 := blk_frozen BK310.out 1
          have hfz16_2 := blk_frozen BK310.out 2
          have hfz16_3 := blk_frozen BK310.out 3
          have hfz16_4 := blk_frozen BK310.out 4
          have hfz16_5 := blk_frozen BK310.out 5
          have hfz16_6 := blk_frozen BK310.out 6
          have hfz16_7 := blk_frozen BK310.out 7
          go_wp2
          go_meet
          case rel => exact ⟨_, (true), (by first | rfl | (simp; done) | (simp [*]; done)), H', ⟨by have := HK1.out; first | omega | exact Nat.le_refl _⟩, ⟨by (with_reducible repeat (first | apply Kd.R_alloc | apply Kd.R_drewN | apply Kd.R_drew)); exact Kd.R_mono (Kd.R_far (p := ⟨gb310, 7, none⟩) (Kd.R_far (p := ⟨gb310, 6, none⟩) (Kd.R_far (p := ⟨gb310, 5, none⟩) (Kd.R_far (p := ⟨gb310, 4, none⟩) (Kd.R_far (p := ⟨gb310, 3, none⟩) (Kd.R_far (p := ⟨gb310, 2, none⟩) (Kd.R_far (p := ⟨gb310, 1, none⟩) (Kd.R_far (p := ⟨gb310, 0, none⟩) (Kd.R_mono HO_3.out (fun k_ hk => (⟨hk, hk.2⟩ : _ ∧ k_ ≠ gb310))) (fun _ hk => hk.2) (.int .i64 ((rd_T35 t303 x40_1).f0))) (fun _ hk => hk.2) (.string ((rd_T35 t303 x40_1).f1))) (fun _ hk => hk.2) (.int .i64 ((rd_T35 t303 x40_1).f2.f0))) (fun _ hk => hk.2) (.int .i64 ((rd_T35 t303 x40_1).f2.f1))) (fun _ hk => hk.2) (.bool ((rd_T35 t303 x40_1).f2.f2))) (fun _ hk => hk.2) (.string ((rd_T35 t303 x40_1).f2.f3))) (fun _ hk => hk.2) (.complex .f64 (((rd_T35 t303 x40_1).f2.f4).re) (((rd_T35 t303 x40_1).f2.f4).im))) (fun _ hk => hk.2) (.int .i64 ((rd_T35 t303 x40_1).f3))) (fun _ hk => hk.1.2)⟩, ⟨by (with_reducible repeat (first | apply Kd.R_alloc | apply Kd.R_drewN | apply Kd.R_drew)); exact Kd.R_mono (Kd.R_far (p := ⟨gb310, 7, none⟩) (Kd.R_far (p := ⟨gb310, 6, none⟩) (Kd.R_far (p := ⟨gb310, 5, none⟩) (Kd.R_far (p := ⟨gb310, 4, none⟩) (Kd.R_far (p := ⟨gb310, 3, none⟩) (Kd.R_far (p := ⟨gb310, 2, none⟩) (Kd.R_far (p := ⟨gb310, 1, none⟩) (Kd.R_far (p := ⟨gb310, 0, none⟩) (Kd.R_mono HO_38.out (fun k_ hk => (⟨hk, hk.2⟩ : _ ∧ k_ ≠ gb310))) (fun _ hk => hk.2) (.int .i64 ((rd_T35 t303 x40_1).f0))) (fun _ hk => hk.2) (.string ((rd_T35 t303 x40_1).f1))) (fun _ hk => hk.2) (.int .i64 ((rd_T35 t303 x40_1).f2.f0))) (fun _ hk => hk.2) (.int .i64 ((rd_T35 t303 x40_1).f2.f1))) (fun _ hk => hk.2) (.bool ((rd_T35 t303 x40_1).f2.f2))) (fun _ hk => hk.2) (.string ((rd_T35 t303 x40_1).f2.f3))) (fun _ hk => hk.2) (.complex .f64 (((rd_T35 t303 x40_1).f2.f4).re) (((rd_T35 t303 x40_1).f2.f4).im))) (fun _ hk => hk.2) (.int .i64 ((rd_T35 t303 x40_1).f3))) (fun _ hk => hk.1.2)⟩, ⟨by (with_reducible repeat (first | refine blk_drewN ?_ _ | refine blk_drew ?_ | refine blk_alloc ?_ _)); refine blk_put (cs := #[.int .i64 ((rd_T35 t303 x40_1).f0), .string ((rd_T35 t303 x40_1).f1), .int .i64 ((rd_T35 t303 x40_1).f2.f0), .int .i64 ((rd_T35 t303 x40_1).f2.f1), .bool ((rd_T35 t303 x40_1).f2.f2), .string ((rd_T35 t303 x40_1).f2.f3), .complex .f64 (((rd_T35 t303 x40_1).f2.f4).re) (((rd_T35 t303 x40_1).f2.f4).im), .int .i64 0]) ?_ 7 _ rfl; (with_reducible repeat (first | refine blk_drewN ?_ _ | refine blk_drew ?_ | refine blk_alloc ?_ _)); refine blk_put (cs := #[.int .i64 ((rd_T35 t303 x40_1).f0), .string ((rd_T35 t303 x40_1).f1), .int .i64 ((rd_T35 t303 x40_1).f2.f0), .int .i64 ((rd_T35 t303 x40_1).f2.f1), .bool ((rd_T35 t303 x40_1).f2.f2), .string ((rd_T35 t303 x40_1).f2.f3), .complex .f64 0 0, .int .i64 0]) ?_ 6 _ rfl; (with_reducible repeat (first | refine blk_drewN ?_ _ | refine blk_drew ?_ | refine blk_alloc ?_ _)); refine blk_put (cs := #[.int .i64 ((rd_T35 t303 x40_1).f0), .string ((rd_T35 t303 x40_1).f1), .int .i64 ((rd_T35 t303 x40_1).f2.f0), .int .i64 ((rd_T35 t303 x40_1).f2.f1), .bool ((rd_T35 t303 x40_1).f2.f2), .string (⟨#[]⟩ : ByteArray), .complex .f64 0 0, .int .i64 0]) ?_ 5 _ rfl; (with_reducible repeat (first | refine blk_drewN ?_ _ | refine blk_drew ?_ | refine blk_alloc ?_ _)); refine blk_put (cs := #[.int .i64 ((rd_T35 t303 x40_1).f0), .string ((rd_T35 t303 x40_1).f1), .int .i64 ((rd_T35 t303 x40_1).f2.f0), .int .i64 ((rd_T35 t303 x40_1).f2.f1), .bool false, .string (⟨#[]⟩ : ByteArray), .complex .f64 0 0, .int .i64 0]) ?_ 4 _ rfl; (with_reducible repeat (first | refine blk_drewN ?_ _ | refine blk_drew ?_ | refine blk_alloc ?_ _)); refine blk_put (cs := #[.int .i64 ((rd_T35 t303 x40_1).f0), .string ((rd_T35 t303 x40_1).f1), .int .i64 ((rd_T35 t303 x40_1).f2.f0), .int .i64 0, .bool false, .string (⟨#[]⟩ : ByteArray), .complex .f64 0 0, .int .i64 0]) ?_ 3 _ rfl; (with_reducible repeat (first | refine blk_drewN ?_ _ | refine blk_drew ?_ | refine blk_alloc ?_ _)); refine blk_put (cs := #[.int .i64 ((rd_T35 t303 x40_1).f0), .string ((rd_T35 t303 x40_1).f1), .int .i64 0, .int .i64 0, .bool false, .string (⟨#[]⟩ : ByteArray), .complex .f64 0 0, .int .i64 0]) ?_ 2 _ rfl; (with_reducible repeat (first | refine blk_drewN ?_ _ | refine blk_drew ?_ | refine blk_alloc ?_ _)); refine blk_put (cs := #[.int .i64 ((rd_T35 t303 x40_1).f0), .string (⟨#[]⟩ : ByteArray), .int .i64 0, .int .i64 0, .bool false, .string (⟨#[]⟩ : ByteArray), .complex .f64 0 0, .int .i64 0]) ?_ 1 _ rfl; (with_reducible repeat (first | refine blk_drewN ?_ _ | refine blk_drew ?_ | refine blk_alloc ?_ _)); refine blk_put (cs := #[.int .i64 0, .string (⟨#[]⟩ : ByteArray), .int .i64 0, .int .i64 0, .bool false, .string (⟨#[]⟩ : ByteArray), .complex .f64 0 0, .int .i64 0]) ?_ 0 _ rfl; (with_reducible repeat (first | refine blk_drewN ?_ _ | refine blk_drew ?_ | refine blk_alloc ?_ _)); exact BK310.out⟩, ⟨by repeat (first | (with_reducible first | exact HB.out | apply below_alloc | apply pw_below_drewN | apply below_drew1 | refine below_set ?_ GE310.out) | exact HB.out)⟩⟩
        rw [if_neg c15] at H
        have c15b0 : decide (((rd_T35 t303 x40_1).f3) < x6_1) = false := decide_eq_false c15
        clear c15
        (first | rw [c15b0] | (simp only [i64_w, i32_w]; rw [c15b0]) | skip)
        by_cases c17 : ((rd_T35 t303 x40_1).f3) ≥ (a0.size : Int)
        · rw [if_pos c17] at H
          have c17b0 : decide ((a0.size : Int) ≤ ((rd_T35 t303 x40_1).f3)) = true := decide_eq_true c17
          clear c17
          have H' := Aside0.mk H
          clear H
          have hcz18_0 : w13.cell? ⟨gb310, 0, none⟩ = some (.int .i64 0) := (blk_cell BK310.out 0).trans rfl
          have hcz18_1 : w13.cell? ⟨gb310, 1, none⟩ = some (.string (⟨#[]⟩ : ByteArray)) := (blk_cell BK310.out 1).trans rfl
          have hcz18_2 : w13.cell? ⟨gb310, 2, none⟩ = some (.int .i64 0) := (blk_cell BK310.out 2).trans rfl
          have hcz18_3 : w13.cell? ⟨gb310, 3, none⟩ = some (.int .i64 0) := (blk_cell BK310.out 3).trans rfl
          have hcz18_4 : w13.cell? ⟨gb310, 4, none⟩ = some (.bool false) := (blk_cell BK310.out 4).trans rfl
          have hcz18_5 : w13.cell? ⟨gb310, 5, none⟩ = some (.string (⟨#[]⟩ : ByteArray)) := (blk_cell BK310.out 5).trans rfl
          have hcz18_6 : w13.cell? ⟨gb310, 6, none⟩ = some (.complex .f64 0 0) := (blk_cell BK310.out 6).trans rfl
          have hcz18_7 : w13.cell? ⟨gb310, 7, none⟩ = some (.int .i64 0) := (blk_cell BK310.out 7).trans rfl
          have hfz18_0 := blk_frozen BK310.out 0
          have hfz18_1 := blk_frozen BK310.out 1
          have hfz18_2 := blk_frozen BK310.out 2
          have hfz18_3 := blk_frozen BK310.out 3
          have hfz18_4 := blk_frozen BK310.out 4
          have hfz18_5 := blk_frozen BK310.out 5
          have hfz18_6 := blk_frozen BK310.out 6
          have hfz18_7 := blk_frozen BK310.out 7
          go_wp2
          go_meet
          case rel => exact ⟨_, (true), (by first | rfl | (simp; done) | (simp [*]; done)), H', ⟨by have := HK1.out; first | omega | exact Nat.le_refl _⟩, ⟨by (with_reducible repeat (first | apply Kd.R_alloc | apply Kd.R_drewN | apply Kd.R_drew)); exact Kd.R_mono (Kd.R_far (p := ⟨gb310, 7, none⟩) (Kd.R_far (p := ⟨gb310, 6, none⟩) (Kd.R_far (p := ⟨gb310, 5, none⟩) (Kd.R_far (p := ⟨gb310, 4, none⟩) (Kd.R_far (p := ⟨gb310, 3, none⟩) (Kd.R_far (p := ⟨gb310, 2, none⟩) (Kd.R_far (p := ⟨gb310, 1, none⟩) (Kd.R_far (p := ⟨gb310, 0, none⟩) (Kd.R_mono HO_3.out (fun k_ hk => (⟨hk, hk.2⟩ : _ ∧ k_ ≠ gb310))) (fun _ hk => hk.2) (.int .i64 ((rd_T35 t303 x40_1).f0))) (fun _ hk => hk.2) (.string ((rd_T35 t303 x40_1).f1))) (fun _ hk => hk.2) (.int .i64 ((rd_T35 t303 x40_1).f2.f0))) (fun _ hk => hk.2) (.int .i64 ((rd_T35 t303 x40_1).f2.f1))) (fun _ hk => hk.2) (.bool ((rd_T35 t303 x40_1).f2.f2))) (fun _ hk => hk.2) (.string ((rd_T35 t303 x40_1).f2.f3))) (fun _ hk => hk.2) (.complex .f64 (((rd_T35 t303 x40_1).f2.f4).re) (((rd_T35 t303 x40_1).f2.f4).im))) (fun _ hk => hk.2) (.int .i64 ((rd_T35 t303 x40_1).f3))) (fun _ hk => hk.1.2)⟩, ⟨by (with_reducible repeat (first | apply Kd.R_alloc | apply Kd.R_drewN | apply Kd.R_drew)); exact Kd.R_mono (Kd.R_far (p := ⟨gb310, 7, none⟩) (Kd.R_far (p := ⟨gb310, 6, none⟩) (Kd.R_far (p := ⟨gb310, 5, none⟩) (Kd.R_far (p := ⟨gb310, 4, none⟩) (Kd.R_far (p := ⟨gb310, 3, none⟩) (Kd.R_far (p := ⟨gb310, 2, none⟩) (Kd.R_far (p := ⟨gb310, 1, none⟩) (Kd.R_far (p := ⟨gb310, 0, none⟩) (Kd.R_mono HO_38.out (fun k_ hk => (⟨hk, hk.2⟩ : _ ∧ k_ ≠ gb310))) (fun _ hk => hk.2) (.int .i64 ((rd_T35 t303 x40_1).f0))) (fun _ hk => hk.2) (.string ((rd_T35 t303 x40_1).f1))) (fun _ hk => hk.2) (.int .i64 ((rd_T35 t303 x40_1).f2.f0))) (fun _ hk => hk.2) (.int .i64 ((rd_T35 t303 x40_1).f2.f1))) (fun _ hk => hk.2) (.bool ((rd_T35 t303 x40_1).f2.f2))) (fun _ hk => hk.2) (.string ((rd_T35 t303 x40_1).f2.f3))) (fun _ hk => hk.2) (.complex .f64 (((rd_T35 t303 x40_1).f2.f4).re) (((rd_T35 t303 x40_1).f2.f4).im))) (fun _ hk => hk.2) (.int .i64 ((rd_T35 t303 x40_1).f3))) (fun _ hk => hk.1.2)⟩, ⟨by (with_reducible repeat (first | refine blk_drewN ?_ _ | refine blk_drew ?_ | refine blk_alloc ?_ _)); refine blk_put (cs := #[.int .i64 ((rd_T35 t303 x40_1).f0), .string ((rd_T35 t303 x40_1).f1), .int .i64 ((rd_T35 t303 x40_1).f2.f0), .int .i64 ((rd_T35 t303 x40_1).f2.f1), .bool ((rd_T35 t303 x40_1).f2.f2), .string ((rd_T35 t303 x40_1).f2.f3), .complex .f64 (((rd_T35 t303 x40_1).f2.f4).re) (((rd_T35 t303 x40_1).f2.f4).im), .int .i64 0]) ?_ 7 _ rfl; (with_reducible repeat (first | refine blk_drewN ?_ _ | refine blk_drew ?_ | refine blk_alloc ?_ _)); refine blk_put (cs := #[.int .i64 ((rd_T35 t303 x40_1).f0), .string ((rd_T35 t303 x40_1).f1), .int .i64 ((rd_T35 t303 x40_1).f2.f0), .int .i64 ((rd_T35 t303 x40_1).f2.f1), .bool ((rd_T35 t303 x40_1).f2.f2), .string ((rd_T35 t303 x40_1).f2.f3), .complex .f64 0 0, .int .i64 0]) ?_ 6 _ rfl; (with_reducible repeat (first | refine blk_drewN ?_ _ | refine blk_drew ?_ | refine blk_alloc ?_ _)); refine blk_put (cs := #[.int .i64 ((rd_T35 t303 x40_1).f0), .string ((rd_T35 t303 x40_1).f1), .int .i64 ((rd_T35 t303 x40_1).f2.f0), .int .i64 ((rd_T35 t303 x40_1).f2.f1), .bool ((rd_T35 t303 x40_1).f2.f2), .string (⟨#[]⟩ : ByteArray), .complex .f64 0 0, .int .i64 0]) ?_ 5 _ rfl; (with_reducible repeat (first | refine blk_drewN ?_ _ | refine blk_drew ?_ | refine blk_alloc ?_ _)); refine blk_put (cs := #[.int .i64 ((rd_T35 t303 x40_1).f0), .string ((rd_T35 t303 x40_1).f1), .int .i64 ((rd_T35 t303 x40_1).f2.f0), .int .i64 ((rd_T35 t303 x40_1).f2.f1), .bool false, .string (⟨#[]⟩ : ByteArray), .complex .f64 0 0, .int .i64 0]) ?_ 4 _ rfl; (with_reducible repeat (first | refine blk_drewN ?_ _ | refine blk_drew ?_ | refine blk_alloc ?_ _)); refine blk_put (cs := #[.int .i64 ((rd_T35 t303 x40_1).f0), .string ((rd_T35 t303 x40_1).f1), .int .i64 ((rd_T35 t303 x40_1).f2.f0), .int .i64 0, .bool false, .string (⟨#[]⟩ : ByteArray), .complex .f64 0 0, .int .i64 0]) ?_ 3 _ rfl; (with_reducible repeat (first | refine blk_drewN ?_ _ | refine blk_drew ?_ | refine blk_alloc ?_ _)); refine blk_put (cs := #[.int .i64 ((rd_T35 t303 x40_1).f0), .string ((rd_T35 t303 x40_1).f1), .int .i64 0, .int .i64 0, .bool false, .string (⟨#[]⟩ : ByteArray), .complex .f64 0 0, .int .i64 0]) ?_ 2 _ rfl; (with_reducible repeat (first | refine blk_drewN ?_ _ | refine blk_drew ?_ | refine blk_alloc ?_ _)); refine blk_put (cs := #[.int .i64 ((rd_T35 t303 x40_1).f0), .string (⟨#[]⟩ : ByteArray), .int .i64 0, .int .i64 0, .bool false, .string (⟨#[]⟩ : ByteArray), .complex .f64 0 0, .int .i64 0]) ?_ 1 _ rfl; (with_reducible repeat (first | refine blk_drewN ?_ _ | refine blk_drew ?_ | refine blk_alloc ?_ _)); refine blk_put (cs := #[.int .i64 0, .string (⟨#[]⟩ : ByteArray), .int .i64 0, .int .i64 0, .bool false, .string (⟨#[]⟩ : ByteArray), .complex .f64 0 0, .int .i64 0]) ?_ 0 _ rfl; (with_reducible repeat (first | refine blk_drewN ?_ _ | refine blk_drew ?_ | refine blk_alloc ?_ _)); exact BK310.out⟩, ⟨by repeat (first | (with_reducible first | exact HB.out | apply below_alloc | apply pw_below_drewN | apply below_drew1 | refine below_set ?_ GE310.out) | exact HB.out)⟩⟩
        rw [if_neg c17] at H
        have c17b0 : decide ((a0.size : Int) ≤ ((rd_T35 t303 x40_1).f3)) = false := decide_eq_false c17
        clear c17
        by_cases c19 : 0 ≤ x6_1
        rotate_left
        · rw [if_neg c19] at H
          exact absurd H (by simp)
        rw [if_pos c19] at H
        have c19b0 := eq_true c19
        have c19b1 : decide (0 ≤ x6_1) = true := decide_eq_true c19
        clear c19
        by_cases c20 : x6_1 ≤ ((rd_T35 t303 x40_1).f3)
        rotate_left
        · rw [if_neg c20] at H
          exact absurd H (by simp)
        rw [if_pos c20] at H
        have c20b0 := eq_true c20
        have c20b1 : decide (x6_1 ≤ ((rd_T35 t303 x40_1).f3)) = true := decide_eq_true c20
        clear c20
        by_cases c21 : ((rd_T35 t303 x40_1).f3) ≤ (a0.size : Int)
        rotate_left
        · rw [if_neg c21] at H
          exact absurd H (by simp)
        rw [if_pos c21] at H
        have c21b0 := eq_true c21
        have c21b1 : decide (((rd_T35 t303 x40_1).f3) ≤ (a0.size : Int)) = true := decide_eq_true c21
        clear c21
        replace H := Option.bind_eq_some_iff.mp H
        obtain ⟨t311, A220, H⟩ := H
        replace H : (keystonelaw12_LexisLoses.j1 k1 a0 t303 x40_1 t303 (t303.length : Int) x40_1 (!t311) ((rd_T35 t303 x40_1).f0) ((rd_T35 t303 x40_1).f1) ((rd_T35 t303 x40_1).f2.f0) ((rd_T35 t303 x40_1).f2.f1) ((rd_T35 t303 x40_1).f2.f2) ((rd_T35 t303 x40_1).f2.f3) ((rd_T35 t303 x40_1).f2.f4) ((rd_T35 t303 x40_1).f3)) = some r := H
        have A22 := Aside0.mk A220
        clear A220
        have H' := Aside0.mk H
        clear H
        have hcz23_0 : w13.cell? ⟨gb310, 0, none⟩ = some (.int .i64 0) := (blk_cell BK310.out 0).trans rfl
        have hcz23_1 : w13.cell? ⟨gb310, 1, none⟩ = some (.string (⟨#[]⟩ : ByteArray)) := (blk_cell BK310.out 1).trans rfl
        have hcz23_2 : w13.cell? ⟨gb310, 2, none⟩ = some (.int .i64 0) := (blk_cell BK310.out 2).trans rfl
        have hcz23_3 : w13.cell? ⟨gb310, 3, none⟩ = some (.int .i64 0) := (blk_cell BK310.out 3).trans rfl
        have hcz23_4 : w13.cell? ⟨gb310, 4, none⟩ = some (.bool false) := (blk_cell BK310.out 4).trans rfl
        have hcz23_5 : w13.cell? ⟨gb310, 5, none⟩ = some (.string (⟨#[]⟩ : ByteArray)) := (blk_cell BK310.out 5).trans rfl
        have hcz23_6 : w13.cell? ⟨gb310, 6, none⟩ = some (.complex .f64 0 0) := (blk_cell BK310.out 6).trans rfl
        have hcz23_7 : w13.cell? ⟨gb310, 7, none⟩ = some (.int .i64 0) := (blk_cell BK310.out 7).trans rfl
        have hfz23_0 := blk_frozen BK310.out 0
        have hfz23_1 := blk_frozen BK310.out 1
        have hfz23_2 := blk_frozen BK310.out 2
        have hfz23_3 := blk_frozen BK310.out 3
        have hfz23_4 := blk_frozen BK310.out 4
        have hfz23_5 := blk_frozen BK310.out 5
        have hfz23_6 := blk_frozen BK310.out 6
        have hfz23_7 := blk_frozen BK310.out 7
        go_wp2_with (first | (go_at_call 17; (with_reducible refine (keystonelaw12_blanks.calls k1 (a0.extract (x6_1 : Int).toNat (((rd_T35 t303 x40_1).f3) : Int).toNat) t311 _ A22.out).mono ?_); rintro e w' ⟨rfl, ⟨nd, rfl⟩⟩))
        go_meet
        case rel => exact ⟨_, (!t311), (by first | rfl | (simp; done) | (simp [*]; done)), H', ⟨by have := HK1.out; first | omega | exact Nat.le_refl _⟩, ⟨by (with_reducible repeat (first | apply Kd.R_alloc | apply Kd.R_drewN | apply Kd.R_drew)); exact Kd.R_mono (Kd.R_far (p := ⟨gb310, 7, none⟩) (Kd.R_far (p := ⟨gb310, 6, none⟩) (Kd.R_far (p := ⟨gb310, 5, none⟩) (Kd.R_far (p := ⟨gb310, 4, none⟩) (Kd.R_far (p := ⟨gb310, 3, none⟩) (Kd.R_far (p := ⟨gb310, 2, none⟩) (Kd.R_far (p := ⟨gb310, 1, none⟩) (Kd.R_far (p := ⟨gb310, 0, none⟩) (Kd.R_mono HO_3.out (fun k_ hk => (⟨hk, hk.2⟩ : _ ∧ k_ ≠ gb310))) (fun _ hk => hk.2) (.int .i64 ((rd_T35 t303 x40_1).f0))) (fun _ hk => hk.2) (.string ((rd_T35 t303 x40_1).f1))) (fun _ hk => hk.2) (.int .i64 ((rd_T35 t303 x40_1).f2.f0))) (fun _ hk => hk.2) (.int .i64 ((rd_T35 t303 x40_1).f2.f1))) (fun _ hk => hk.2) (.bool ((rd_T35 t303 x40_1).f2.f2))) (fun _ hk => hk.2) (.string ((rd_T35 t303 x40_1).f2.f3))) (fun _ hk => hk.2) (.complex .f64 (((rd_T35 t303 x40_1).f2.f4).re) (((rd_T35 t303 x40_1).f2.f4).im))) (fun _ hk => hk.2) (.int .i64 ((rd_T35 t303 x40_1).f3))) (fun _ hk => hk.1.2)⟩, ⟨by (with_reducible repeat (first | apply Kd.R_alloc | apply Kd.R_drewN | apply Kd.R_drew)); exact Kd.R_mono (Kd.R_far (p := ⟨gb310, 7, none⟩) (Kd.R_far (p := ⟨gb310, 6, none⟩) (Kd.R_far (p := ⟨gb310, 5, none⟩) (Kd.R_far (p := ⟨gb310, 4, none⟩) (Kd.R_far (p := ⟨gb310, 3, none⟩) (Kd.R_far (p := ⟨gb310, 2, none⟩) (Kd.R_far (p := ⟨gb310, 1, none⟩) (Kd.R_far (p := ⟨gb310, 0, none⟩) (Kd.R_mono HO_38.out (fun k_ hk => (⟨hk, hk.2⟩ : _ ∧ k_ ≠ gb310))) (fun _ hk => hk.2) (.int .i64 ((rd_T35 t303 x40_1).f0))) (fun _ hk => hk.2) (.string ((rd_T35 t303 x40_1).f1))) (fun _ hk => hk.2) (.int .i64 ((rd_T35 t303 x40_1).f2.f0))) (fun _ hk => hk.2) (.int .i64 ((rd_T35 t303 x40_1).f2.f1))) (fun _ hk => hk.2) (.bool ((rd_T35 t303 x40_1).f2.f2))) (fun _ hk => hk.2) (.string ((rd_T35 t303 x40_1).f2.f3))) (fun _ hk => hk.2) (.complex .f64 (((rd_T35 t303 x40_1).f2.f4).re) (((rd_T35 t303 x40_1).f2.f4).im))) (fun _ hk => hk.2) (.int .i64 ((rd_T35 t303 x40_1).f3))) (fun _ hk => hk.1.2)⟩, ⟨by (with_reducible repeat (first | refine blk_drewN ?_ _ | refine blk_drew ?_ | refine blk_alloc ?_ _)); refine blk_put (cs := #[.int .i64 ((rd_T35 t303 x40_1).f0), .string ((rd_T35 t303 x40_1).f1), .int .i64 ((rd_T35 t303 x40_1).f2.f0), .int .i64 ((rd_T35 t303 x40_1).f2.f1), .bool ((rd_T35 t303 x40_1).f2.f2), .string ((rd_T35 t303 x40_1).f2.f3), .complex .f64 (((rd_T35 t303 x40_1).f2.f4).re) (((rd_T35 t303 x40_1).f2.f4).im), .int .i64 0]) ?_ 7 _ rfl; (with_reducible repeat (first | refine blk_drewN ?_ _ | refine blk_drew ?_ | refine blk_alloc ?_ _)); refine blk_put (cs := #[.int .i64 ((rd_T35 t303 x40_1).f0), .string ((rd_T35 t303 x40_1).f1), .int .i64 ((rd_T35 t303 x40_1).f2.f0), .int .i64 ((rd_T35 t303 x40_1).f2.f1), .bool ((rd_T35 t303 x40_1).f2.f2), .string ((rd_T35 t303 x40_1).f2.f3), .complex .f64 0 0, .int .i64 0]) ?_ 6 _ rfl; (with_reducible repeat (first | refine blk_drewN ?_ _ | refine blk_drew ?_ | refine blk_alloc ?_ _)); refine blk_put (cs := #[.int .i64 ((rd_T35 t303 x40_1).f0), .string ((rd_T35 t303 x40_1).f1), .int .i64 ((rd_T35 t303 x40_1).f2.f0), .int .i64 ((rd_T35 t303 x40_1).f2.f1), .bool ((rd_T35 t303 x40_1).f2.f2), .string (⟨#[]⟩ : ByteArray), .complex .f64 0 0, .int .i64 0]) ?_ 5 _ rfl; (with_reducible repeat (first | refine blk_drewN ?_ _ | refine blk_drew ?_ | refine blk_alloc ?_ _)); refine blk_put (cs := #[.int .i64 ((rd_T35 t303 x40_1).f0), .string ((rd_T35 t303 x40_1).f1), .int .i64 ((rd_T35 t303 x40_1).f2.f0), .int .i64 ((rd_T35 t303 x40_1).f2.f1), .bool false, .string (⟨#[]⟩ : ByteArray), .complex .f64 0 0, .int .i64 0]) ?_ 4 _ rfl; (with_reducible repeat (first | refine blk_drewN ?_ _ | refine blk_drew ?_ | refine blk_alloc ?_ _)); refine blk_put (cs := #[.int .i64 ((rd_T35 t303 x40_1).f0), .string ((rd_T35 t303 x40_1).f1), .int .i64 ((rd_T35 t303 x40_1).f2.f0), .int .i64 0, .bool false, .string (⟨#[]⟩ : ByteArray), .complex .f64 0 0, .int .i64 0]) ?_ 3 _ rfl; (with_reducible repeat (first | refine blk_drewN ?_ _ | refine blk_drew ?_ | refine blk_alloc ?_ _)); refine blk_put (cs := #[.int .i64 ((rd_T35 t303 x40_1).f0), .string ((rd_T35 t303 x40_1).f1), .int .i64 0, .int .i64 0, .bool false, .string (⟨#[]⟩ : ByteArray), .complex .f64 0 0, .int .i64 0]) ?_ 2 _ rfl; (with_reducible repeat (first | refine blk_drewN ?_ _ | refine blk_drew ?_ | refine blk_alloc ?_ _)); refine blk_put (cs := #[.int .i64 ((rd_T35 t303 x40_1).f0), .string (⟨#[]⟩ : ByteArray), .int .i64 0, .int .i64 0, .bool false, .string (⟨#[]⟩ : ByteArray), .complex .f64 0 0, .int .i64 0]) ?_ 1 _ rfl; (with_reducible repeat (first | refine blk_drewN ?_ _ | refine blk_drew ?_ | refine blk_alloc ?_ _)); refine blk_put (cs := #[.int .i64 0, .string (⟨#[]⟩ : ByteArray), .int .i64 0, .int .i64 0, .bool false, .string (⟨#[]⟩ : ByteArray), .complex .f64 0 0, .int .i64 0]) ?_ 0 _ rfl; (with_reducible repeat (first | refine blk_drewN ?_ _ | refine blk_drew ?_ | refine blk_alloc ?_ _)); exact BK310.out⟩, ⟨by repeat (first | (with_reducible first | exact HB.out | apply below_alloc | apply pw_below_drewN | apply below_drew1 | refine below_set ?_ GE310.out) | exact HB.out)⟩⟩
      case rest =>
        clear HC12
        try clear c1
        try clear c2
        try clear p2
        try clear c3
        try clear p3
        try clear q3
        try clear hx3
        try clear c5
        try clear c5b0
        try clear c5b1
        try clear c9
        try clear c9b0
        try clear c10
        try clear c10b0
        try clear c11
        try clear c11b0
        try clear c13
        try clear c15
        try clear c15b0
        try clear c17
        try clear c17b0
        try clear c19
        try clear c19b0
        try clear c19b1
        try clear c20
        try clear c20b0
        try clear c20b1
        try clear c21
        try clear c21b0
        try clear c21b1
        try clear hcz14_0
        try clear hcz14_1
        try clear hcz14_2
        try clear hcz14_3
        try clear hcz14_4
        try clear hcz14_5
        try clear hcz14_6
        try clear hcz14_7
        try clear hcz16_0
        try clear hcz16_1
        try clear hcz16_2
        try clear hcz16_3
        try clear hcz16_4
        try clear hcz16_5
        try clear hcz16_6
        try clear hcz16_7
        try clear hcz18_0
        try clear hcz18_1
        try clear hcz18_2
        try clear hcz18_3
        try clear hcz18_4
        try clear hcz18_5
        try clear hcz18_6
        try clear hcz18_7
        try clear hcz23_0
        try clear hcz23_1
        try clear hcz23_2
        try clear hcz23_3
        try clear hcz23_4
        try clear hcz23_5
        try clear hcz23_6
        try clear hcz23_7
        try clear hfz14_0
        try clear hfz14_1
        try clear hfz14_2
        try clear hfz14_3
        try clear hfz14_4
        try clear hfz14_5
        try clear hfz14_6
        try clear hfz14_7
        try clear hfz16_0
        try clear hfz16_1
        try clear hfz16_2
        try clear hfz16_3
        try clear hfz16_4
        try clear hfz16_5
        try clear hfz16_6
        try clear hfz16_7
        try clear hfz18_0
        try clear hfz18_1
        try clear hfz18_2
        try clear hfz18_3
        try clear hfz18_4
        try clear hfz18_5
        try clear hfz18_6
        try clear hfz18_7
        try clear hfz23_0
        try clear hfz23_1
        try clear hfz23_2
        try clear hfz23_3
        try clear hfz23_4
        try clear hfz23_5
        try clear hfz23_6
        try clear hfz23_7
        try clear hx309_0
        try clear hx309_1
        try clear hx309_2
        try clear hx309_3
        try clear hx309_4
        try clear hx309_5
        try clear hx309_6
        try clear hx309_7
        try clear p2
        try clear p309
        try clear q309
        obtain ⟨kq, x64_11, rfl, HA, HJ11, HO_3, HO_38, BK310, HB⟩ := hcut
        cases kq with
        | zero => exact absurd HA.out (by simp [keystonelaw12_LexisLoses.j1])
        | succ kj11 =>
          have H := HA.out
          clear HA
          simp only [keystonelaw12_LexisLoses.j1] at H
          by_cases c24 : x64_11 = true
          · subst c24
            have H1 : (some false) = some r := by rw [if_pos rfl] at H; exact H
            clear H
            have H := H1
            clear H1
            obtain rfl := Option.some.inj H
            exact absurd hr_ (by simp)
          replace c24 := Bool.eq_false_iff.mpr c24
          subst c24
          have H1 : (if (wrap64 (x40_1 + 1)) < (t303.length : Int) then (if 0 ≤ (wrap64 (x40_1 + 1)) then (keystonelaw12_LexisLoses.j2 kj11 a0 t303 ((rd_T35 t303 (wrap64 (x40_1 + 1))).f3) t303 (t303.length : Int) x40_1 ((rd_T35 t303 x40_1).f0) ((rd_T35 t303 x40_1).f1) ((rd_T35 t303 x40_1).f2.f0) ((rd_T35 t303 x40_1).f2.f1) ((rd_T35 t303 x40_1).f2.f2) ((rd_T35 t303 x40_1).f2.f3) ((rd_T35 t303 x40_1).f2.f4) ((rd_T35 t303 x40_1).f3)) else (none)) else (keystonelaw12_LexisLoses.j2 kj11 a0 t303 (a0.size : Int) t303 (t303.length : Int) x40_1 ((rd_T35 t303 x40_1).f0) ((rd_T35 t303 x40_1).f1) ((rd_T35 t303 x40_1).f2.f0) ((rd_T35 t303 x40_1).f2.f1) ((rd_T35 t303 x40_1).f2.f2) ((rd_T35 t303 x40_1).f2.f3) ((rd_T35 t303 x40_1).f2.f4) ((rd_T35 t303 x40_1).f3))) = some r := by rw [if_neg (show ¬ (false = true) by decide)] at H; exact H
          clear H
          have H := H1
          clear H1
          have HC25 := Aside0.mk H
          clear H
          go_upto_if 71 with (fail)
          go_cut [9] (fun v9 wc => ∃ (kq : Nat) (x9_24 : Int), v9 = .int .i64 x9_24 ∧ Aside0 (keystonelaw12_LexisLoses.j2 kq a0 t303 x9_24 t303 (t303.length : Int) x40_1 ((rd_T35 t303 x40_1).f0) ((rd_T35 t303 x40_1).f1) ((rd_T35 t303 x40_1).f2.f0) ((rd_T35 t303 x40_1).f2.f1) ((rd_T35 t303 x40_1).f2.f2) ((rd_T35 t303 x40_1).f2.f3) ((rd_T35 t303 x40_1).f2.f4) ((rd_T35 t303 x40_1).f3) = some r) ∧ Aside0 (kq ≤ kj11) ∧ Aside0 (Kd.R k35 35 wc w.heap.size (fun k_ => k_ ≠ gb310) (.slice (some ad309) t303.length co8) t303) ∧ Aside0 (Kd.R k35 35 wc w.heap.size (fun k_ => k_ ≠ gb310) (.slice (some ad309) t303.length co8) t303) ∧ Aside0 (wc.heap[gb310]? = some (.cells #[.int .i64 ((rd_T35 t303 x40_1).f0), .string ((rd_T35 t303 x40_1).f1), .int .i64 ((rd_T35 t303 x40_1).f2.f0), .int .i64 ((rd_T35 t303 x40_1).f2.f1), .bool ((rd_T35 t303 x40_1).f2.f2), .string ((rd_T35 t303 x40_1).f2.f3), .complex .f64 (((rd_T35 t303 x40_1).f2.f4).re) (((rd_T35 t303 x40_1).f2.f4).im), .int .i64 ((rd_T35 t303 x40_1).f3)] 35 (0, 0))) ∧ Aside0 (Below w.heap.size w wc))
          case first =>
            have H := HC25.out
            clear HC25
            by_cases c26 : (wrap64 (x40_1 + 1)) < (t303.length : Int)
            rotate_left
            · rw [if_neg c26] at H
              have c26b0 : decide ((wrap64 (x40_1 + 1)) < (t303.length : Int)) = false := decide_eq_false c26
              clear c26
              (first | rw [c26b0] | (simp only [i64_w, i32_w]; rw [c26b0]) | skip)
              have H' := Aside0.mk H
              clear H
              go_wp2
              go_meet
              case rel => exact ⟨_, ((a0.size : Int)), (by first | rfl | (simp; done) | (simp [*]; done)), H', ⟨by have := HK1.out; have := HJ11.out; first | omega | exact Nat.le_refl _⟩, ⟨by (with_reducible repeat (first | apply Kd.R_alloc | apply Kd.R_drewN | apply Kd.R_drew)); exact HO_3.out⟩, ⟨by (with_reducible repeat (first | apply Kd.R_alloc | apply Kd.R_drewN | apply Kd.R_drew)); exact HO_38.out⟩, ⟨by (with_reducible repeat (first | refine blk_drewN ?_ _ | refine blk_drew ?_ | refine blk_alloc ?_ _)); exact BK310.out⟩, ⟨by repeat (first | (with_reducible first | exact HB.out | apply below_alloc | apply pw_below_drewN | apply below_drew1 | refine below_set ?_ GE310.out) | exact HB.out)⟩⟩
            rw [if_pos c26] at H
            have c26b0 : decide ((wrap64 (x40_1 + 1)) < (t303.length : Int)) = true := decide_eq_true c26
            clear c26
            (first | rw [c26b0] | (simp only [i64_w, i32_w]; rw [c26b0]) | skip)
            obtain ⟨ji27, hji27⟩ : ∃ j_ : Int, (wrap64 (x40_1 + 1)) = j_ := ⟨_, rfl⟩
            replace H : (if 0 ≤ (ji27) then (keystonelaw12_LexisLoses.j2 kj11 a0 t303 ((rd_T35 t303 (ji27)).f3) t303 (t303.length : Int) x40_1 ((rd_T35 t303 x40_1).f0) ((rd_T35 t303 x40_1).f1) ((rd_T35 t303 x40_1).f2.f0) ((rd_T35 t303 x40_1).f2.f1) ((rd_T35 t303 x40_1).f2.f2) ((rd_T35 t303 x40_1).f2.f3) ((rd_T35 t303 x40_1).f2.f4) ((rd_T35 t303 x40_1).f3)) else (none)) = some r := by first | (rw [hji27] at H; exact H) | (simp only [hji27] at H ⊢; exact H)
            (try rw [hji27] at c26b0)
            have hji27w : (IntKind.i64.wrap (x40_1 + 1)) = ji27 := (i64_w _).trans hji27
            by_cases c28 : 0 ≤ (ji27)
            rotate_left
            · rw [if_neg c28] at H
              exact absurd H (by simp)
            rw [if_pos c28] at H
            have c28b0 : decide (0 ≤ (ji27)) = true := decide_eq_true c28
            clear c28
            have H' := Aside0.mk H
            clear H
            have p312 : 0 ≤ ((ji27) : Int) := of_decide_eq_true (by first | (with_reducible assumption) | assumption)
            have q312 : (ji27) < (t303.length : Int) := of_decide_eq_true (by first | (with_reducible assumption) | assumption)
            obtain ⟨ad312, e312, hx312_0, hx312_1, hx312_2, hx312_3, hx312_4, hx312_5, hx312_6, hx312_7⟩ := at_T35 (Kd.R_reads' HO_3.out).2.2 (ji27) p312 q312
            obtain rfl : ad309 = ad312 := (by injection e312)
            replace p312 := eq_true p312
            replace q312 := eq_true q312
            go_wp2
            go_meet
            case rel => exact ⟨_, ((rd_T35 t303 (ji27)).f3), (by first | rfl | (simp; done) | (simp only [← hji27] <;> (first | rfl | (simp; done))) | (simp [*]; done)), H', ⟨by have := HK1.out; have := HJ11.out; first | omega | exact Nat.le_refl _⟩, ⟨by (with_reducible repeat (first | apply Kd.R_alloc | apply Kd.R_drewN | apply Kd.R_drew)); exact HO_3.out⟩, ⟨by (with_reducible repeat (first | apply Kd.R_alloc | apply Kd.R_drewN | apply Kd.R_drew)); exact HO_38.out⟩, ⟨by (with_reducible repeat (first | refine blk_drewN ?_ _ | refine blk_drew ?_ | refine blk_alloc ?_ _)); exact BK310.out⟩, ⟨by repeat (first | (with_reducible first | exact HB.out | apply below_alloc | apply pw_below_drewN | apply below_drew1 | refine below_set ?_ GE310.out) | exact HB.out)⟩⟩
          case rest =>
            clear HC25
            try clear c1
            try clear c2
            try clear p2
            try clear c3
            try clear p3
            try clear q3
            try clear hx3
            try clear c5
            try clear c5b0
            try clear c5b1
            try clear p6
            try clear c9
            try clear c9b0
            try clear c10
            try clear c10b0
            try clear c11
            try clear c11b0
            try clear c13
            try clear c15
            try clear c15b0
            try clear c17
            try clear c17b0
            try clear c19
            try clear c19b0
            try clear c19b1
            try clear c20
            try clear c20b0
            try clear c20b1
            try clear c21
            try clear c21b0
            try clear c21b1
            try clear c24
            try clear c26
            try clear c26b0
            try clear c28
            try clear c28b0
            try clear hcz14_0
            try clear hcz14_1
            try clear hcz14_2
            try clear hcz14_3
            try clear hcz14_4
            try clear hcz14_5
            try clear hcz14_6
            try clear hcz14_7
            try clear hcz16_0
            try clear hcz16_1
            try clear hcz16_2
            try clear hcz16_3
            try clear hcz16_4
            try clear hcz16_5
            try clear hcz16_6
            try clear hcz16_7
            try clear hcz18_0
            try clear hcz18_1
            try clear hcz18_2
            try clear hcz18_3
            try clear hcz18_4
            try clear hcz18_5
            try clear hcz18_6
            try clear hcz18_7
            try clear hcz23_0
            try clear hcz23_1
            try clear hcz23_2
            try clear hcz23_3
            try clear hcz23_4
            try clear hcz23_5
            try clear hcz23_6
            try clear hcz23_7
            try clear hfz14_0
            try clear hfz14_1
            try clear hfz14_2
            try clear hfz14_3
            try clear hfz14_4
            try clear hfz14_5
            try clear hfz14_6
            try clear hfz14_7
            try clear hfz16_0
            try clear hfz16_1
            try clear hfz16_2
            try clear hfz16_3
            try clear hfz16_4
            try clear hfz16_5
            try clear hfz16_6
            try clear hfz16_7
            try clear hfz18_0
            try clear hfz18_1
            try clear hfz18_2
            try clear hfz18_3
            try clear hfz18_4
            try clear hfz18_5
            try clear hfz18_6
            try clear hfz18_7
            try clear hfz23_0
            try clear hfz23_1
            try clear hfz23_2
            try clear hfz23_3
            try clear hfz23_4
            try clear hfz23_5
            try clear hfz23_6
            try clear hfz23_7
            try clear hx309_0
            try clear hx309_1
            try clear hx309_2
            try clear hx309_3
            try clear hx309_4
            try clear hx309_5
            try clear hx309_6
            try clear hx309_7
            try clear hx312_0
            try clear hx312_1
            try clear hx312_2
            try clear hx312_3
            try clear hx312_4
            try clear hx312_5
            try clear hx312_6
            try clear hx312_7
            try clear p2
            try clear p3
            try clear p309
            try clear p312
            try clear q3
            try clear q309
            try clear q312
            obtain ⟨kq, x9_24, rfl, HA, HJ24, HO_3, HO_38, BK310, HB⟩ := hcut
            cases kq with
            | zero => exact absurd HA.out (by simp [keystonelaw12_LexisLoses.j2])
            | succ kj24 =>
              have H := HA.out
              clear HA
              simp only [keystonelaw12_LexisLoses.j2] at H
              have HC29 := Aside0.mk H
              clear H
              go_upto_region 15 with (fail)
              go_cut [87] (fun v87 wc => ∃ (kq : Nat) (x87_28 : Bool), v87 = .bool x87_28 ∧ Aside0 (keystonelaw12_LexisLoses.j3 kq a0 t303 x9_24 t303 (t303.length : Int) x40_1 x87_28 ((rd_T35 t303 x40_1).f0) ((rd_T35 t303 x40_1).f1) ((rd_T35 t303 x40_1).f2.f0) ((rd_T35 t303 x40_1).f2.f1) ((rd_T35 t303 x40_1).f2.f2) ((rd_T35 t303 x40_1).f2.f3) ((rd_T35 t303 x40_1).f2.f4) ((rd_T35 t303 x40_1).f3) = some r) ∧ Aside0 (kq ≤ kj24) ∧ Aside0 (Kd.R k35 35 wc w.heap.size (fun k_ => k_ ≠ gb310) (.slice (some ad309) t303.length co8) t303) ∧ Aside0 (Kd.R k35 35 wc w.heap.size (fun k_ => k_ ≠ gb310) (.slice (some ad309) t303.length co8) t303) ∧ Aside0 (wc.heap[gb310]? = some (.cells #[.int .i64 ((rd_T35 t303 x40_1).f0), .string ((rd_T35 t303 x40_1).f1), .int .i64 ((rd_T35 t303 x40_1).f2.f0), .int .i64 ((rd_T35 t303 x40_1).f2.f1), .bool ((rd_T35 t303 x40_1).f2.f2), .string ((rd_T35 t303 x40_1).f2.f3), .complex .f64 (((rd_T35 t303 x40_1).f2.f4).re) (((rd_T35 t303 x40_1).f2.f4).im), .int .i64 ((rd_T35 t303 x40_1).f3)] 35 (0, 0))) ∧ Aside0 (Below w.heap.size w wc))
              case first =>
                have H := HC29.out
                clear HC29
                by_cases c30 : x9_24 ≤ ((rd_T35 t303 x40_1).f3)
                · rw [if_pos c30] at H
                  have c30b0 : decide (x9_24 ≤ ((rd_T35 t303 x40_1).f3)) = true := decide_eq_true c30
                  clear c30
                  (first | rw [c30b0] | (simp only [i64_w, i32_w]; rw [c30b0]) | skip)
                  have H' := Aside0.mk H
                  clear H
                  have hcz31_0 : wc.cell? ⟨gb310, 0, none⟩ = some (.int .i64 ((rd_T35 t303 x40_1).f0)) := (blk_cell BK310.out 0).trans rfl
                  have hcz31_1 : wc.cell? ⟨gb310, 1, none⟩ = some (.string ((rd_T35 t303 x40_1).f1)) := (blk_cell BK310.out 1).trans rfl
                  have hcz31_2 : wc.cell? ⟨gb310, 2, none⟩ = some (.int .i64 ((rd_T35 t303 x40_1).f2.f0)) := (blk_cell BK310.out 2).trans rfl
                  have hcz31_3 : wc.cell? ⟨gb310, 3, none⟩ = some (.int .i64 ((rd_T35 t303 x40_1).f2.f1)) := (blk_cell BK310.out 3).trans rfl
                  have hcz31_4 : wc.cell? ⟨gb310, 4, none⟩ = some (.bool ((rd_T35 t303 x40_1).f2.f2)) := (blk_cell BK310.out 4).trans rfl
                  have hcz31_5 : wc.cell? ⟨gb310, 5, none⟩ = some (.string ((rd_T35 t303 x40_1).f2.f3)) := (blk_cell BK310.out 5).trans rfl
                  have hcz31_6 : wc.cell? ⟨gb310, 6, none⟩ = some (.complex .f64 (((rd_T35 t303 x40_1).f2.f4).re) (((rd_T35 t303 x40_1).f2.f4).im)) := (blk_cell BK310.out 6).trans rfl
                  have hcz31_7 : wc.cell? ⟨gb310, 7, none⟩ = some (.int .i64 ((rd_T35 t303 x40_1).f3)) := (blk_cell BK310.out 7).trans rfl
                  have hfz31_0 := blk_frozen BK310.out 0
                  have hfz31_1 := blk_frozen BK310.out 1
                  have hfz31_2 := blk_frozen BK310.out 2
                  have hfz31_3 := blk_frozen BK310.out 3
                  have hfz31_4 := blk_frozen BK310.out 4
                  have hfz31_5 := blk_frozen BK310.out 5
                  have hfz31_6 := blk_frozen BK310.out 6
                  have hfz31_7 := blk_frozen BK310.out 7
                  go_wp2
                  go_meet
                  case rel => exact ⟨_, (true), (by first | rfl | (simp; done) | (simp [*]; done)), H', ⟨by have := HK1.out; have := HJ11.out; have := HJ24.out; first | omega | exact Nat.le_refl _⟩, ⟨by (with_reducible repeat (first | apply Kd.R_alloc | apply Kd.R_drewN | apply Kd.R_drew)); exact HO_3.out⟩, ⟨by (with_reducible repeat (first | apply Kd.R_alloc | apply Kd.R_drewN | apply Kd.R_drew)); exact HO_38.out⟩, ⟨by (with_reducible repeat (first | refine blk_drewN ?_ _ | refine blk_drew ?_ | refine blk_alloc ?_ _)); exact BK310.out⟩, ⟨by repeat (first | (with_reducible first | exact HB.out | apply below_alloc | apply pw_below_drewN | apply below_drew1 | refine below_set ?_ GE310.out) | exact HB.out)⟩⟩
                rw [if_neg c30] at H
                have c30b0 : decide (x9_24 ≤ ((rd_T35 t303 x40_1).f3)) = false := decide_eq_false c30
                clear c30
                (first | rw [c30b0] | (simp only [i64_w, i32_w]; rw [c30b0]) | skip)
                have H' := Aside0.mk H
                clear H
                have hcz32_0 : wc.cell? ⟨gb310, 0, none⟩ = some (.int .i64 ((rd_T35 t303 x40_1).f0)) := (blk_cell BK310.out 0).trans rfl
                have hcz32_1 : wc.cell? ⟨gb310, 1, none⟩ = some (.string ((rd_T35 t303 x40_1).f1)) := (blk_cell BK310.out 1).trans rfl
                have hcz32_2 : wc.cell? ⟨gb310, 2, none⟩ = some (.int .i64 ((rd_T35 t303 x40_1).f2.f0)) := (blk_cell BK310.out 2).trans rfl
                have hcz32_3 : wc.cell? ⟨gb310, 3, none⟩ = some (.int .i64 ((rd_T35 t303 x40_1).f2.f1)) := (blk_cell BK310.out 3).trans rfl
                have hcz32_4 : wc.cell? ⟨gb310, 4, none⟩ = some (.bool ((rd_T35 t303 x40_1).f2.f2)) := (blk_cell BK310.out 4).trans rfl
                have hcz32_5 : wc.cell? ⟨gb310, 5, none⟩ = some (.string ((rd_T35 t303 x40_1).f2.f3)) := (blk_cell BK310.out 5).trans rfl
                have hcz32_6 : wc.cell? ⟨gb310, 6, none⟩ = some (.complex .f64 (((rd_T35 t303 x40_1).f2.f4).re) (((rd_T35 t303 x40_1).f2.f4).im)) := (blk_cell BK310.out 6).trans rfl
                have hcz32_7 : wc.cell? ⟨gb310, 7, none⟩ = some (.int .i64 ((rd_T35 t303 x40_1).f3)) := (blk_cell BK310.out 7).trans rfl
                have hfz32_0 := blk_frozen BK310.out 0
                have hfz32_1 := blk_frozen BK310.out 1
                have hfz32_2 := blk_frozen BK310.out 2
                have hfz32_3 := blk_frozen BK310.out 3
                have hfz32_4 := blk_frozen BK310.out 4
                have hfz32_5 := blk_frozen BK310.out 5
                have hfz32_6 := blk_frozen BK310.out 6
                have hfz32_7 := blk_frozen BK310.out 7
                go_wp2
                go_meet
                case rel => exact ⟨_, (decide (x9_24 > (a0.size : Int))), (by first | rfl | (simp; done) | (simp [*]; done)), H', ⟨by have := HK1.out; have := HJ11.out; have := HJ24.out; first | omega | exact Nat.le_refl _⟩, ⟨by (with_reducible repeat (first | apply Kd.R_alloc | apply Kd.R_drewN | apply Kd.R_drew)); exact HO_3.out⟩, ⟨by (with_reducible repeat (first | apply Kd.R_alloc | apply Kd.R_drewN | apply Kd.R_drew)); exact HO_38.out⟩, ⟨by (with_reducible repeat (first | refine blk_drewN ?_ _ | refine blk_drew ?_ | refine blk_alloc ?_ _)); exact BK310.out⟩, ⟨by repeat (first | (with_reducible first | exact HB.out | apply below_alloc | apply pw_below_drewN | apply below_drew1 | refine below_set ?_ GE310.out) | exact HB.out)⟩⟩
              case rest =>
                clear HC29
                try clear c1
                try clear c2
                try clear p2
                try clear c3
                try clear p3
                try clear q3
                try clear hx3
                try clear c5
                try clear c5b0
                try clear c5b1
                try clear p6
                try clear c9
                try clear c9b0
                try clear c10
                try clear c10b0
                try clear c11
                try clear c11b0
                try clear c13
                try clear c15
                try clear c15b0
                try clear c17
                try clear c17b0
                try clear c19
                try clear c19b0
                try clear c19b1
                try clear c20
                try clear c20b0
                try clear c20b1
                try clear c21
                try clear c21b0
                try clear c21b1
                try clear c24
                try clear c26
                try clear c26b0
                try clear c28
                try clear c28b0
                try clear c30
                try clear c30b0
                try clear p30
                try clear q30
                try clear hx30
                try clear p31
                try clear q31
                try clear hx31
                try clear hcz14_0
                try clear hcz14_1
                try clear hcz14_2
                try clear hcz14_3
                try clear hcz14_4
                try clear hcz14_5
                try clear hcz14_6
                try clear hcz14_7
                try clear hcz16_0
                try clear hcz16_1
                try clear hcz16_2
                try clear hcz16_3
                try clear hcz16_4
                try clear hcz16_5
                try clear hcz16_6
                try clear hcz16_7
                try clear hcz18_0
                try clear hcz18_1
                try clear hcz18_2
                try clear hcz18_3
                try clear hcz18_4
                try clear hcz18_5
                try clear hcz18_6
                try clear hcz18_7
                try clear hcz23_0
                try clear hcz23_1
                try clear hcz23_2
                try clear hcz23_3
                try clear hcz23_4
                try clear hcz23_5
                try clear hcz23_6
                try clear hcz23_7
                try clear hcz31_0
                try clear hcz31_1
                try clear hcz31_2
                try clear hcz31_3
                try clear hcz31_4
                try clear hcz31_5
                try clear hcz31_6
                try clear hcz31_7
                try clear hcz32_0
                try clear hcz32_1
                try clear hcz32_2
                try clear hcz32_3
                try clear hcz32_4
                try clear hcz32_5
                try clear hcz32_6
                try clear hcz32_7
                try clear hfz14_0
                try clear hfz14_1
                try clear hfz14_2
                try clear hfz14_3
                try clear hfz14_4
                try clear hfz14_5
                try clear hfz14_6
                try clear hfz14_7
                try clear hfz16_0
                try clear hfz16_1
                try clear hfz16_2
                try clear hfz16_3
                try clear hfz16_4
                try clear hfz16_5
                try clear hfz16_6
                try clear hfz16_7
                try clear hfz18_0
                try clear hfz18_1
                try clear hfz18_2
                try clear hfz18_3
                try clear hfz18_4
                try clear hfz18_5
                try clear hfz18_6
                try clear hfz18_7
                try clear hfz23_0
                try clear hfz23_1
                try clear hfz23_2
                try clear hfz23_3
                try clear hfz23_4
                try clear hfz23_5
                try clear hfz23_6
                try clear hfz23_7
                try clear hfz31_0
                try clear hfz31_1
                try clear hfz31_2
                try clear hfz31_3
                try clear hfz31_4
                try clear hfz31_5
                try clear hfz31_6
                try clear hfz31_7
                try clear hfz32_0
                try clear hfz32_1
                try clear hfz32_2
                try clear hfz32_3
                try clear hfz32_4
                try clear hfz32_5
                try clear hfz32_6
                try clear hfz32_7
                try clear hx309_0
                try clear hx309_1
                try clear hx309_2
                try clear hx309_3
                try clear hx309_4
                try clear hx309_5
                try clear hx309_6
                try clear hx309_7
                try clear hx312_0
                try clear hx312_1
                try clear hx312_2
                try clear hx312_3
                try clear hx312_4
                try clear hx312_5
                try clear hx312_6
                try clear hx312_7
                try clear p2
                try clear p3
                try clear p309
                try clear p312
                try clear p6
                try clear q3
                try clear q309
                try clear q312
                obtain ⟨kq, x87_28, rfl, HA, HJ28, HO_3, HO_38, BK310, HB⟩ := hcut
                cases kq with
                | zero => exact absurd HA.out (by simp [keystonelaw12_LexisLoses.j3])
                | succ kj28 =>
                  have H := HA.out
                  clear HA
                  simp only [keystonelaw12_LexisLoses.j3] at H
                  by_cases c33 : x87_28 = true
                  · subst c33
                    have H1 : (some false) = some r := by rw [if_pos rfl] at H; exact H
                    clear H
                    have H := H1
                    clear H1
                    obtain rfl := Option.some.inj H
                    exact absurd hr_ (by simp)
                  replace c33 := Bool.eq_false_iff.mpr c33
                  subst c33
                  have H1 : (keystonelaw12_LexisLoses.l1 kj28 a0 t303 x9_24 0 1 t303 (t303.length : Int) x40_1 ((rd_T35 t303 x40_1).f0) ((rd_T35 t303 x40_1).f1) ((rd_T35 t303 x40_1).f2.f0) ((rd_T35 t303 x40_1).f2.f1) ((rd_T35 t303 x40_1).f2.f2) ((rd_T35 t303 x40_1).f2.f3) ((rd_T35 t303 x40_1).f2.f4) ((rd_T35 t303 x40_1).f3)) = some r := by rw [if_neg (show ¬ (false = true) by decide)] at H; exact H
                  clear H
                  have H := H1
                  clear H1
                  have HC34 := Aside0.mk H
                  clear H
                  go_upto_block 2 with (fail)
                  go_cut [10] (fun v10 wc => ∃ (kq : Nat) (x10_33 : Int), v10 = .int .i64 x10_33 ∧ Aside0 (keystonelaw12_LexisLoses.j6 kq a0 t303 x10_33 t303 (t303.length : Int) x40_1 ((rd_T35 t303 x40_1).f0) ((rd_T35 t303 x40_1).f1) ((rd_T35 t303 x40_1).f2.f0) ((rd_T35 t303 x40_1).f2.f1) ((rd_T35 t303 x40_1).f2.f2) ((rd_T35 t303 x40_1).f2.f3) ((rd_T35 t303 x40_1).f2.f4) ((rd_T35 t303 x40_1).f3) = some r) ∧ Aside0 (kq ≤ kj28) ∧ Aside0 (Kd.R k35 35 wc w.heap.size (fun k_ => k_ ≠ gb310) (.slice (some ad309) t303.length co8) t303) ∧ Aside0 (Kd.R k35 35 wc w.heap.size (fun k_ => k_ ≠ gb310) (.slice (some ad309) t303.length co8) t303) ∧ Aside0 (wc.heap[gb310]? = some (.cells #[.int .i64 ((rd_T35 t303 x40_1).f0), .string ((rd_T35 t303 x40_1).f1), .int .i64 ((rd_T35 t303 x40_1).f2.f0), .int .i64 ((rd_T35 t303 x40_1).f2.f1), .bool ((rd_T35 t303 x40_1).f2.f2), .string ((rd_T35 t303 x40_1).f2.f3), .complex .f64 (((rd_T35 t303 x40_1).f2.f4).re) (((rd_T35 t303 x40_1).f2.f4).im), .int .i64 ((rd_T35 t303 x40_1).f3)] 35 (0, 0))) ∧ Aside0 (Below w.heap.size w wc))
                  case first =>
                    have H := HC34.out
                    clear HC34
                    have H' := Aside0.mk H
                    clear H
                    go_wp2
                    go_loopg [10, 11] kj28 (fun kq v10 v11 w' => ∃ (x10_5 : Int) (x11_5 : Int), v10 = .int .i64 x10_5 ∧ v11 = .int .i64 x11_5 ∧ Aside0 (keystonelaw12_LexisLoses.l1 kq a0 t303 x9_24 x10_5 x11_5 t303 (t303.length : Int) x40_1 ((rd_T35 t303 x40_1).f0) ((rd_T35 t303 x40_1).f1) ((rd_T35 t303 x40_1).f2.f0) ((rd_T35 t303 x40_1).f2.f1) ((rd_T35 t303 x40_1).f2.f2) ((rd_T35 t303 x40_1).f2.f3) ((rd_T35 t303 x40_1).f2.f4) ((rd_T35 t303 x40_1).f3) = some r) ∧ Aside0 (kq ≤ kj28) ∧ Aside0 (Kd.R k35 35 w' w.heap.size (fun k_ => k_ ≠ gb310) (.slice (some ad309) t303.length co8) t303) ∧ Aside0 (Kd.R k35 35 w' w.heap.size (fun k_ => k_ ≠ gb310) (.slice (some ad309) t303.length co8) t303) ∧ Aside0 (w'.heap[gb310]? = some (.cells #[.int .i64 ((rd_T35 t303 x40_1).f0), .string ((rd_T35 t303 x40_1).f1), .int .i64 ((rd_T35 t303 x40_1).f2.f0), .int .i64 ((rd_T35 t303 x40_1).f2.f1), .bool ((rd_T35 t303 x40_1).f2.f2), .string ((rd_T35 t303 x40_1).f2.f3), .complex .f64 (((rd_T35 t303 x40_1).f2.f4).re) (((rd_T35 t303 x40_1).f2.f4).im), .int .i64 ((rd_T35 t303 x40_1).f3)] 35 (0, 0))) ∧ Aside0 (Below w.heap.size w w'))
                    case atStart => exact ⟨(0), (1), (by first | rfl | (simp; done) | (simp [*]; done)), (by first | rfl | (simp; done) | (simp [*]; done)), H', ⟨Nat.le_refl _⟩, ⟨by (with_reducible repeat (first | apply Kd.R_alloc | apply Kd.R_drewN | apply Kd.R_drew)); exact HO_3.out⟩, ⟨by (with_reducible repeat (first | apply Kd.R_alloc | apply Kd.R_drewN | apply Kd.R_drew)); exact HO_38.out⟩, ⟨by (with_reducible repeat (first | refine blk_drewN ?_ _ | refine blk_drew ?_ | refine blk_alloc ?_ _)); exact BK310.out⟩, ⟨by repeat (first | (with_reducible first | exact HB.out | apply below_alloc | apply pw_below_drewN | apply below_drew1 | refine below_set ?_ GE310.out) | exact HB.out)⟩⟩
                    case round =>
                      clear H'
                      try clear c1
                      try clear c2
                      try clear p2
                      try clear c3
                      try clear p3
                      try clear q3
                      try clear hx3
                      try clear c5
                      try clear c5b0
                      try clear c5b1
                      try clear p6
                      try clear c9
                      try clear c9b0
                      try clear c10
                      try clear c10b0
                      try clear c11
                      try clear c11b0
                      try clear c13
                      try clear c15
                      try clear c15b0
                      try clear c17
                      try clear c17b0
                      try clear c19
                      try clear c19b0
                      try clear c19b1
                      try clear c20
                      try clear c20b0
                      try clear c20b1
                      try clear c21
                      try clear c21b0
                      try clear c21b1
                      try clear c24
                      try clear c26
                      try clear c26b0
                      try clear c28
                      try clear c28b0
                      try clear c30
                      try clear c30b0
                      try clear p30
                      try clear q30
                      try clear hx30
                      try clear p31
                      try clear q31
                      try clear hx31
                      try clear c33
                      try clear hcz14_0
                      try clear hcz14_1
                      try clear hcz14_2
                      try clear hcz14_3
                      try clear hcz14_4
                      try clear hcz14_5
                      try clear hcz14_6
                      try clear hcz14_7
                      try clear hcz16_0
                      try clear hcz16_1
                      try clear hcz16_2
                      try clear hcz16_3
                      try clear hcz16_4
                      try clear hcz16_5
                      try clear hcz16_6
                      try clear hcz16_7
                      try clear hcz18_0
                      try clear hcz18_1
                      try clear hcz18_2
                      try clear hcz18_3
                      try clear hcz18_4
                      try clear hcz18_5
                      try clear hcz18_6
                      try clear hcz18_7
                      try clear hcz23_0
                      try clear hcz23_1
                      try clear hcz23_2
                      try clear hcz23_3
                      try clear hcz23_4
                      try clear hcz23_5
                      try clear hcz23_6
                      try clear hcz23_7
                      try clear hcz31_0
                      try clear hcz31_1
                      try clear hcz31_2
                      try clear hcz31_3
                      try clear hcz31_4
                      try clear hcz31_5
                      try clear hcz31_6
                      try clear hcz31_7
                      try clear hcz32_0
                      try clear hcz32_1
                      try clear hcz32_2
                      try clear hcz32_3
                      try clear hcz32_4
                      try clear hcz32_5
                      try clear hcz32_6
                      try clear hcz32_7
                      try clear hfz14_0
                      try clear hfz14_1
                      try clear hfz14_2
                      try clear hfz14_3
                      try clear hfz14_4
                      try clear hfz14_5
                      try clear hfz14_6
                      try clear hfz14_7
                      try clear hfz16_0
                      try clear hfz16_1
                      try clear hfz16_2
                      try clear hfz16_3
                      try clear hfz16_4
                      try clear hfz16_5
                      try clear hfz16_6
                      try clear hfz16_7
                      try clear hfz18_0
                      try clear hfz18_1
                      try clear hfz18_2
                      try clear hfz18_3
                      try clear hfz18_4
                      try clear hfz18_5
                      try clear hfz18_6
                      try clear hfz18_7
                      try clear hfz23_0
                      try clear hfz23_1
                      try clear hfz23_2
                      try clear hfz23_3
                      try clear hfz23_4
                      try clear hfz23_5
                      try clear hfz23_6
                      try clear hfz23_7
                      try clear hfz31_0
                      try clear hfz31_1
                      try clear hfz31_2
                      try clear hfz31_3
                      try clear hfz31_4
                      try clear hfz31_5
                      try clear hfz31_6
                      try clear hfz31_7
                      try clear hfz32_0
                      try clear hfz32_1
                      try clear hfz32_2
                      try clear hfz32_3
                      try clear hfz32_4
                      try clear hfz32_5
                      try clear hfz32_6
                      try clear hfz32_7
                      try clear hx309_0
                      try clear hx309_1
                      try clear hx309_2
                      try clear hx309_3
                      try clear hx309_4
                      try clear hx309_5
                      try clear hx309_6
                      try clear hx309_7
                      try clear hx312_0
                      try clear hx312_1
                      try clear hx312_2
                      try clear hx312_3
                      try clear hx312_4
                      try clear hx312_5
                      try clear hx312_6
                      try clear hx312_7
                      try clear p2
                      try clear p3
                      try clear p30
                      try clear p309
                      try clear p31
                      try clear p312
                      try clear p6
                      try clear q3
                      try clear q30
                      try clear q309
                      try clear q31
                      try clear q312
                      obtain ⟨x10_5, x11_5, rfl, rfl, HA, HK5, HO_3, HO_38, BK310, HB⟩ := hrel
                      cases gk with
                      | zero => exact absurd HA.out (by simp [keystonelaw12_LexisLoses.l1])
                      | succ k5 =>
                        have H := HA.out
                        clear HA
                        simp only [keystonelaw12_LexisLoses.l1] at H
                        by_cases c35 : x11_5 ≤ (wrap64 (x9_24 - ((rd_T35 t303 x40_1).f3)))
                        rotate_left
                        · rw [if_neg c35] at H
                          have c35b0 : decide (x11_5 ≤ (wrap64 (x9_24 - ((rd_T35 t303 x40_1).f3)))) = false := decide_eq_false c35
                          clear c35
                          (first | rw [c35b0] | (simp only [i64_w, i32_w]; rw [c35b0]) | skip)
                          have H' := Aside0.mk H
                          clear H
                          have hcz64_0 : wr.cell? ⟨gb310, 0, none⟩ = some (.int .i64 ((rd_T35 t303 x40_1).f0)) := (blk_cell BK310.out 0).trans rfl
                          have hcz64_1 : wr.cell? ⟨gb310, 1, none⟩ = some (.string ((rd_T35 t303 x40_1).f1)) := (blk_cell BK310.out 1).trans rfl
                          have hcz64_2 : wr.cell? ⟨gb310, 2, none⟩ = some (.int .i64 ((rd_T35 t303 x40_1).f2.f0)) := (blk_cell BK310.out 2).trans rfl
                          have hcz64_3 : wr.cell? ⟨gb310, 3, none⟩ = some (.int .i64 ((rd_T35 t303 x40_1).f2.f1)) := (blk_cell BK310.out 3).trans rfl
                          have hcz64_4 : wr.cell? ⟨gb310, 4, none⟩ = some (.bool ((rd_T35 t303 x40_1).f2.f2)) := (blk_cell BK310.out 4).trans rfl
                          have hcz64_5 : wr.cell? ⟨gb310, 5, none⟩ = some (.string ((rd_T35 t303 x40_1).f2.f3)) := (blk_cell BK310.out 5).trans rfl
                          have hcz64_6 : wr.cell? ⟨gb310, 6, none⟩ = some (.complex .f64 (((rd_T35 t303 x40_1).f2.f4).re) (((rd_T35 t303 x40_1).f2.f4).im)) := (blk_cell BK310.out 6).trans rfl
                          have hcz64_7 : wr.cell? ⟨gb310, 7, none⟩ = some (.int .i64 ((rd_T35 t303 x40_1).f3)) := (blk_cell BK310.out 7).trans rfl
                          have hfz64_0 := blk_frozen BK310.out 0
                          have hfz64_1 := blk_frozen BK310.out 1
                          have hfz64_2 := blk_frozen BK310.out 2
                          have hfz64_3 := blk_frozen BK310.out 3
                          have hfz64_4 := blk_frozen BK310.out 4
                          have hfz64_5 := blk_frozen BK310.out 5
                          have hfz64_6 := blk_frozen BK310.out 6
                          have hfz64_7 := blk_frozen BK310.out 7
                          go_wp2
                          go_meet
                          case rel => exact ⟨_, (x10_5), (by first | rfl | (simp; done) | (simp [*]; done)), H', ⟨by have := HK1.out; have := HJ11.out; have := HJ24.out; have := HJ28.out; have := HK5.out; first | omega | exact Nat.le_refl _⟩, ⟨by (with_reducible repeat (first | apply Kd.R_alloc | apply Kd.R_drewN | apply Kd.R_drew)); exact HO_3.out⟩, ⟨by (with_reducible repeat (first | apply Kd.R_alloc | apply Kd.R_drewN | apply Kd.R_drew)); exact HO_38.out⟩, ⟨by (with_reducible repeat (first | refine blk_drewN ?_ _ | refine blk_drew ?_ | refine blk_alloc ?_ _)); exact BK310.out⟩, ⟨by repeat (first | (with_reducible first | exact HB.out | apply below_alloc | apply pw_below_drewN | apply below_drew1 | refine below_set ?_ GE310.out) | exact HB.out)⟩⟩
                        rw [if_pos c35] at H
                        have c35b0 : decide (x11_5 ≤ (wrap64 (x9_24 - ((rd_T35 t303 x40_1).f3)))) = true := decide_eq_true c35
                        clear c35
                        (first | rw [c35b0] | (simp only [i64_w, i32_w]; rw [c35b0]) | skip)
                        by_cases c36 : 0 ≤ ((rd_T35 t303 x40_1).f3)
                        rotate_left
                        · rw [if_neg c36] at H
                          exact absurd H (by simp)
                        rw [if_pos c36] at H
                        have c36b0 := eq_true c36
                        have c36b1 : decide (0 ≤ ((rd_T35 t303 x40_1).f3)) = true := decide_eq_true c36
                        clear c36
                        by_cases c37 : ((rd_T35 t303 x40_1).f3) ≤ (wrap64 (((rd_T35 t303 x40_1).f3) + x11_5))
                        rotate_left
                        · rw [if_neg c37] at H
                          exact absurd H (by simp)
                        rw [if_pos c37] at H
                        have c37b0 := eq_true c37
                        have c37b1 : decide (((rd_T35 t303 x40_1).f3) ≤ (wrap64 (((rd_T35 t303 x40_1).f3) + x11_5))) = true := decide_eq_true c37
                        by_cases c38 : (wrap64 (((rd_T35 t303 x40_1).f3) + x11_5)) ≤ (a0.size : Int)
                        rotate_left
                        · rw [if_neg c38] at H
                          exact absurd H (by simp)
                        rw [if_pos c38] at H
                        have c38b0 := eq_true c38
                        have c38b1 : decide ((wrap64 (((rd_T35 t303 x40_1).f3) + x11_5)) ≤ (a0.size : Int)) = true := decide_eq_true c38
                        replace H := Option.bind_eq_some_iff.mp H
                        obtain ⟨⟨t313, t314, t315⟩, A390, H⟩ := H
                        replace H : (if t315 = 0 then (if (t313.length : Int) = 1 then (if 0 < (t313.length : Int) then (if ((rd_T35 t313 0).f0) = ((rd_T35 t303 x40_1).f0) then (if ((rd_T35 t313 0).f1).toList = ((rd_T35 t303 x40_1).f1).toList then ((keystoneref04_SameValue.f ((rd_T35 t313 0).f2.f0) ((rd_T35 t313 0).f2.f1) ((rd_T35 t313 0).f2.f2) ((rd_T35 t313 0).f2.f3) ((rd_T35 t313 0).f2.f4) ((rd_T35 t303 x40_1).f2.f0) ((rd_T35 t303 x40_1).f2.f1) ((rd_T35 t303 x40_1).f2.f2) ((rd_T35 t303 x40_1).f2.f3) ((rd_T35 t303 x40_1).f2.f4)).bind fun t321 => (if t321 = true then (keystonelaw12_LexisLoses.j5 k5 a0 t303 x9_24 x10_5 x11_5 t303 (t303.length : Int) x40_1 (((rd_T35 t313 0).f3) == 0) ((rd_T35 t303 x40_1).f0) ((rd_T35 t303 x40_1).f1) ((rd_T35 t303 x40_1).f2.f0) ((rd_T35 t303 x40_1).f2.f1) ((rd_T35 t303 x40_1).f2.f2) ((rd_T35 t303 x40_1).f2.f3) ((rd_T35 t303 x40_1).f2.f4) ((rd_T35 t303 x40_1).f3)) else (keystonelaw12_LexisLoses.j5 k5 a0 t303 x9_24 x10_5 x11_5 t303 (t303.length : Int) x40_1 false ((rd_T35 t303 x40_1).f0) ((rd_T35 t303 x40_1).f1) ((rd_T35 t303 x40_1).f2.f0) ((rd_T35 t303 x40_1).f2.f1) ((rd_T35 t303 x40_1).f2.f2) ((rd_T35 t303 x40_1).f2.f3) ((rd_T35 t303 x40_1).f2.f4) ((rd_T35 t303 x40_1).f3)))) else (keystonelaw12_LexisLoses.j5 k5 a0 t303 x9_24 x10_5 x11_5 t303 (t303.length : Int) x40_1 false ((rd_T35 t303 x40_1).f0) ((rd_T35 t303 x40_1).f1) ((rd_T35 t303 x40_1).f2.f0) ((rd_T35 t303 x40_1).f2.f1) ((rd_T35 t303 x40_1).f2.f2) ((rd_T35 t303 x40_1).f2.f3) ((rd_T35 t303 x40_1).f2.f4) ((rd_T35 t303 x40_1).f3))) else (keystonelaw12_LexisLoses.j5 k5 a0 t303 x9_24 x10_5 x11_5 t303 (t303.length : Int) x40_1 false ((rd_T35 t303 x40_1).f0) ((rd_T35 t303 x40_1).f1) ((rd_T35 t303 x40_1).f2.f0) ((rd_T35 t303 x40_1).f2.f1) ((rd_T35 t303 x40_1).f2.f2) ((rd_T35 t303 x40_1).f2.f3) ((rd_T35 t303 x40_1).f2.f4) ((rd_T35 t303 x40_1).f3))) else (none)) else (keystonelaw12_LexisLoses.j5 k5 a0 t303 x9_24 x10_5 x11_5 t303 (t303.length : Int) x40_1 false ((rd_T35 t303 x40_1).f0) ((rd_T35 t303 x40_1).f1) ((rd_T35 t303 x40_1).f2.f0) ((rd_T35 t303 x40_1).f2.f1) ((rd_T35 t303 x40_1).f2.f2) ((rd_T35 t303 x40_1).f2.f3) ((rd_T35 t303 x40_1).f2.f4) ((rd_T35 t303 x40_1).f3))) else (keystonelaw12_LexisLoses.j5 k5 a0 t303 x9_24 x10_5 x11_5 t303 (t303.length : Int) x40_1 false ((rd_T35 t303 x40_1).f0) ((rd_T35 t303 x40_1).f1) ((rd_T35 t303 x40_1).f2.f0) ((rd_T35 t303 x40_1).f2.f1) ((rd_T35 t303 x40_1).f2.f2) ((rd_T35 t303 x40_1).f2.f3) ((rd_T35 t303 x40_1).f2.f4) ((rd_T35 t303 x40_1).f3))) = some r := H
                        have A39 := Aside0.mk A390
                        clear A390
                        have HC40 := Aside0.mk H
                        clear H
                        have hcz41_0 : wr.cell? ⟨gb310, 0, none⟩ = some (.int .i64 ((rd_T35 t303 x40_1).f0)) := (blk_cell BK310.out 0).trans rfl
                        have hcz41_1 : wr.cell? ⟨gb310, 1, none⟩ = some (.string ((rd_T35 t303 x40_1).f1)) := (blk_cell BK310.out 1).trans rfl
                        have hcz41_2 : wr.cell? ⟨gb310, 2, none⟩ = some (.int .i64 ((rd_T35 t303 x40_1).f2.f0)) := (blk_cell BK310.out 2).trans rfl
                        have hcz41_3 : wr.cell? ⟨gb310, 3, none⟩ = some (.int .i64 ((rd_T35 t303 x40_1).f2.f1)) := (blk_cell BK310.out 3).trans rfl
                        have hcz41_4 : wr.cell? ⟨gb310, 4, none⟩ = some (.bool ((rd_T35 t303 x40_1).f2.f2)) := (blk_cell BK310.out 4).trans rfl
                        have hcz41_5 : wr.cell? ⟨gb310, 5, none⟩ = some (.string ((rd_T35 t303 x40_1).f2.f3)) := (blk_cell BK310.out 5).trans rfl
                        have hcz41_6 : wr.cell? ⟨gb310, 6, none⟩ = some (.complex .f64 (((rd_T35 t303 x40_1).f2.f4).re) (((rd_T35 t303 x40_1).f2.f4).im)) := (blk_cell BK310.out 6).trans rfl
                        have hcz41_7 : wr.cell? ⟨gb310, 7, none⟩ = some (.int .i64 ((rd_T35 t303 x40_1).f3)) := (blk_cell BK310.out 7).trans rfl
                        have hfz41_0 := blk_frozen BK310.out 0
                        have hfz41_1 := blk_frozen BK310.out 1
                        have hfz41_2 := blk_frozen BK310.out 2
                        have hfz41_3 := blk_frozen BK310.out 3
                        have hfz41_4 := blk_frozen BK310.out 4
                        have hfz41_5 := blk_frozen BK310.out 5
                        have hfz41_6 := blk_frozen BK310.out 6
                        have hfz41_7 := blk_frozen BK310.out 7
                        go_upto_region 22 with (first | ((with_reducible refine gate_callee (f := 13) rfl ?_); refine goesL_ (some 105) rfl rfl Tryd.func13 (by kernel_rfl) rfl #[.string (a0.extract (((rd_T35 t303 x40_1).f3) : Int).toNat ((wrap64 (((rd_T35 t303 x40_1).f3) + x11_5)) : Int).toNat)] rfl (by (try simp only [List.map_toArray, List.map_cons, List.map_nil]); first | done | rfl | (simp only [List.length_drop, List.length_take]; rfl)) ?_; (with_reducible refine (lexis_Tokens.calls k5 (a0.extract (((rd_T35 t303 x40_1).f3) : Int).toNat ((wrap64 (((rd_T35 t303 x40_1).f3) + x11_5)) : Int).toNat) t313 t314 t315 _ ?side1 A39.out).mono ?_); (case side1 => first | exact HGE.out | exact GE_below HGE.out (by repeat (first | (with_reducible first | exact HB.out | apply below_alloc | apply pw_below_drewN | apply below_drew1 | refine below_set ?_ GE310.out) | exact HB.out))); rintro e w42 ⟨v316, rfl, ho0, hb⟩; refine ⟨_, rfl, ?_⟩; have n0_ := Aside0.mk (Kd.R_elder' (by (with_reducible repeat (first | apply Kd.R_alloc | apply Kd.R_drewN | apply Kd.R_drew)); exact HO_3.out) (Kd.R_base ho0) hb); have n1_ := Aside0.mk (Kd.R_elder' (by (with_reducible repeat (first | apply Kd.R_alloc | apply Kd.R_drewN | apply Kd.R_drew)); exact HO_38.out) (Kd.R_base ho0) hb); have n2_ := Aside0.mk (Kd.R_lower (Kd.R_newB (Kd.R_new' (Kd.R_new' ho0 (Kd.R_lt (by (with_reducible repeat (first | apply Kd.R_alloc | apply Kd.R_drewN | apply Kd.R_drew)); exact HO_3.out))) (Kd.R_lt (by (with_reducible repeat (first | apply Kd.R_alloc | apply Kd.R_drewN | apply Kd.R_drew)); exact HO_38.out))) (g := gb310) (o := .cells #[.int .i64 ((rd_T35 t303 x40_1).f0), .string ((rd_T35 t303 x40_1).f1), .int .i64 ((rd_T35 t303 x40_1).f2.f0), .int .i64 ((rd_T35 t303 x40_1).f2.f1), .bool ((rd_T35 t303 x40_1).f2.f2), .string ((rd_T35 t303 x40_1).f2.f3), .complex .f64 (((rd_T35 t303 x40_1).f2.f4).re) (((rd_T35 t303 x40_1).f2.f4).im), .int .i64 ((rd_T35 t303 x40_1).f3)] 35 (0, 0)) (by (with_reducible repeat (first | refine blk_drewN ?_ _ | refine blk_drew ?_ | refine blk_alloc ?_ _)); exact BK310.out)) (below_size (by repeat (first | (with_reducible first | exact HB.out | apply below_alloc | apply pw_below_drewN | apply below_drew1 | refine below_set ?_ GE310.out) | exact HB.out)))); have n3_ := Aside0.mk (blk_below (g := gb310) (o := .cells #[.int .i64 ((rd_T35 t303 x40_1).f0), .string ((rd_T35 t303 x40_1).f1), .int .i64 ((rd_T35 t303 x40_1).f2.f0), .int .i64 ((rd_T35 t303 x40_1).f2.f1), .bool ((rd_T35 t303 x40_1).f2.f2), .string ((rd_T35 t303 x40_1).f2.f3), .complex .f64 (((rd_T35 t303 x40_1).f2.f4).re) (((rd_T35 t303 x40_1).f2.f4).im), .int .i64 ((rd_T35 t303 x40_1).f3)] 35 (0, 0)) (by (with_reducible repeat (first | refine blk_drewN ?_ _ | refine blk_drew ?_ | refine blk_alloc ?_ _)); exact BK310.out) hb); have n4_ := Aside0.mk (below_step (by repeat (first | (with_reducible first | exact HB.out | apply below_alloc | apply pw_below_drewN | apply below_drew1 | refine below_set ?_ GE310.out) | exact HB.out)) hb); clear HO_3; clear HO_38; clear BK310; clear HB; have HO_3 := n0_; have HO_38 := n1_; have HO317 := n2_; have BK310 := n3_; have HB := n4_; clear n0_ n1_ n2_ n3_ n4_; (try clear hb); (try clear hb2); (try clear hk); (try clear hi); (try clear ho0)))
                        (try simp only [Act.put, List.setIfInBounds_toArray, List.set_cons_zero, List.set_cons_succ])
                        go_cut [149] (fun v149 wc => ∃ (kq : Nat) (x149_39 : Bool), v149 = .bool x149_39 ∧ Aside0 (keystonelaw12_LexisLoses.j5 kq a0 t303 x9_24 x10_5 x11_5 t303 (t303.length : Int) x40_1 x149_39 ((rd_T35 t303 x40_1).f0) ((rd_T35 t303 x40_1).f1) ((rd_T35 t303 x40_1).f2.f0) ((rd_T35 t303 x40_1).f2.f1) ((rd_T35 t303 x40_1).f2.f2) ((rd_T35 t303 x40_1).f2.f3) ((rd_T35 t303 x40_1).f2.f4) ((rd_T35 t303 x40_1).f3) = some r) ∧ Aside0 (kq ≤ k5) ∧ Aside0 (Kd.R k35 35 wc w.heap.size (fun k_ => k_ ≠ gb310) (.slice (some ad309) t303.length co8) t303) ∧ Aside0 (Kd.R k35 35 wc w.heap.size (fun k_ => k_ ≠ gb310) (.slice (some ad309) t303.length co8) t303) ∧ Aside0 (wc.heap[gb310]? = some (.cells #[.int .i64 ((rd_T35 t303 x40_1).f0), .string ((rd_T35 t303 x40_1).f1), .int .i64 ((rd_T35 t303 x40_1).f2.f0), .int .i64 ((rd_T35 t303 x40_1).f2.f1), .bool ((rd_T35 t303 x40_1).f2.f2), .string ((rd_T35 t303 x40_1).f2.f3), .complex .f64 (((rd_T35 t303 x40_1).f2.f4).re) (((rd_T35 t303 x40_1).f2.f4).im), .int .i64 ((rd_T35 t303 x40_1).f3)] 35 (0, 0))) ∧ Aside0 (Below w.heap.size w wc))
                        case first =>
                          have H := HC40.out
                          clear HC40
                          by_cases c43 : t315 = 0
                          rotate_left
                          · rw [if_neg c43] at H
                            have c43b0 : (t315 == 0) = false := beq_eq_false_iff_ne.mpr c43
                            have c43b1 : (t315 != 0) = true := bne_iff_ne.mpr c43
                            (first | rw [c43b0] | (simp only [i64_w, i32_w]; rw [c43b0]) | skip)
                            have H' := Aside0.mk H
                            clear H
                            try go_wp2
                            have n0_ := Aside0.mk (Kd.R_drew HO_3.out)
                            have n1_ := Aside0.mk (Kd.R_drew HO_38.out)
                            have n2_ := Aside0.mk (Kd.R_drew HO317.out)
                            have n3_ := Aside0.mk (blk_drew BK310.out)
                            have n4_ := Aside0.mk (below_drew1 HB.out)
                            clear HO_3
                            clear HO_38
                            clear HO317
                            clear BK310
                            clear HB
                            have HO_3 := n0_
                            have HO_38 := n1_
                            have HO317 := n2_
                            have BK310 := n3_
                            have HB := n4_
                            clear n0_ n1_ n2_ n3_ n4_
                            refine start_ (n := 41) (S := fun w' => True) (ds := []) (bb_ 0 41) (by kernel_rfl) rfl rfl trivial (fun hHeld => ?_); refine with_tabW keystonelaw12_LexisLoses.tab22 keystonelaw12_LexisLoses.bits22 (fun HT_ HW_ => ?_)
                            generalize w42.drew = w62 at HO_3 HO_38 HO317 BK310 HB hHeld ⊢
                            refine pure_ (i := 0) (N := some 109) (v := ?_) (a' := ?_) (bb_ 1 40) rfl rfl (any_of HT_.out (by kernel_rfl)) (fun _ _ _ h => h) (Or.inl ⟨by rfl, ?_⟩) ?_ ?_; rotate_left; (· intro w'; go_simp; with_reducible rfl); rotate_left; (· simp only [Act.put, List.setIfInBounds_toArray, List.set_cons_zero, List.set_cons_succ, i64_w, i32_w]; rfl)
                            refine pure_ (i := 1) (N := some 110) (v := ?_) (a' := ?_) (bb_ 2 39) rfl rfl (any_of HT_.out (by kernel_rfl)) (fun _ _ _ h => h) (Or.inl ⟨by rfl, ?_⟩) ?_ ?_; rotate_left; (· intro w'; go_simp; with_reducible rfl); rotate_left; (· simp only [Act.put, List.setIfInBounds_toArray, List.set_cons_zero, List.set_cons_succ, i64_w, i32_w]; rfl)
                            refine pure_ (i := 2) (N := some 111) (v := ?_) (a' := ?_) (bb_ 3 38) rfl rfl (any_of HT_.out (by kernel_rfl)) (fun _ _ _ h => h) (Or.inl ⟨by rfl, ?_⟩) ?_ ?_; rotate_left; (· intro w'; go_simp; with_reducible rfl); rotate_left; (· simp only [Act.put, List.setIfInBounds_toArray, List.set_cons_zero, List.set_cons_succ, i64_w, i32_w]; rfl)
                            refine pure_ (i := 3) (N := some 112) (v := undef) (a' := ?_) (bb_ 4 37) rfl rfl (any_of HT_.out (by kernel_rfl)) (fun _ _ _ h => h) (Or.inr ⟨by rfl, rfl⟩) ?_ ?_; rotate_left; (· simp only [Act.put, List.setIfInBounds_toArray, List.set_cons_zero, List.set_cons_succ, i64_w, i32_w]; rfl)
                            refine pure_ (i := 4) (N := some 113) (v := undef) (a' := ?_) (bb_ 5 36) rfl rfl (any_of HT_.out (by kernel_rfl)) (fun _ _ _ h => h) (Or.inr ⟨by rfl, rfl⟩) ?_ ?_; rotate_left; (· simp only [Act.put, List.setIfInBounds_toArray, List.set_cons_zero, List.set_cons_succ, i64_w, i32_w]; rfl)
                            refine pure_ (i := 5) (N := some 114) (v := undef) (a' := ?_) (bb_ 6 35) rfl rfl (any_of HT_.out (by kernel_rfl)) (fun _ _ _ h => h) (Or.inr ⟨by rfl, rfl⟩) ?_ ?_; rotate_left; (· simp only [Act.put, List.setIfInBounds_toArray, List.set_cons_zero, List.set_cons_succ, i64_w, i32_w]; rfl)
                            refine pure_ (i := 6) (N := some 115) (v := ?_) (a' := ?_) (bb_ 7 34) rfl rfl (any_of HT_.out (by kernel_rfl)) (fun _ _ _ h => h) (Or.inl ⟨by rfl, ?_⟩) ?_ ?_; rotate_left; (· intro w'; go_simp; with_reducible rfl); rotate_left; (· simp only [Act.put, List.setIfInBounds_toArray, List.set_cons_zero, List.set_cons_succ, i64_w, i32_w]; rfl)
                            refine pure_ (i := 7) (N := some 116) (v := ?_) (a' := ?_) (bb_ 8 33) rfl rfl (any_of HT_.out (by kernel_rfl)) (fun _ _ _ h => h) (Or.inl ⟨by rfl, ?_⟩) ?_ ?_; rotate_left; (· intro w'; go_simp; with_reducible rfl); rotate_left; (· simp only [Act.put, List.setIfInBounds_toArray, List.set_cons_zero, List.set_cons_succ, i64_w, i32_w]; rfl)
                            refine pure_ (i := 8) (N := some 117) (v := undef) (a' := ?_) (bb_ 9 32) rfl rfl (any_of HT_.out (by kernel_rfl)) (fun _ _ _ h => h) (Or.inr ⟨by rfl, rfl⟩) ?_ ?_; rotate_left; (· simp only [Act.put, List.setIfInBounds_toArray, List.set_cons_zero, List.set_cons_succ, i64_w, i32_w]; rfl)
                            refine pure_ (i := 9) (N := some 118) (v := undef) (a' := ?_) (bb_ 10 31) rfl rfl (any_of HT_.out (by kernel_rfl)) (fun _ _ _ h => h) (Or.inr ⟨by rfl, rfl⟩) ?_ ?_; rotate_left; (· simp only [Act.put, List.setIfInBounds_toArray, List.set_cons_zero, List.set_cons_succ, i64_w, i32_w]; rfl)
                            refine pure_ (i := 10) (N := some 119) (v := undef) (a' := ?_) (bb_ 11 30) rfl rfl (any_of HT_.out (by kernel_rfl)) (fun _ _ _ h => h) (Or.inr ⟨by rfl, rfl⟩) ?_ ?_; rotate_left; (· simp only [Act.put, List.setIfInBounds_toArray, List.set_cons_zero, List.set_cons_succ, i64_w, i32_w]; rfl)
                            refine pure_ (i := 11) (N := some 120) (v := undef) (a' := ?_) (bb_ 12 29) rfl rfl (any_of HT_.out (by kernel_rfl)) (fun _ _ _ h => h) (Or.inr ⟨by rfl, rfl⟩) ?_ ?_; rotate_left; (· simp only [Act.put, List.setIfInBounds_toArray, List.set_cons_zero, List.set_cons_succ, i64_w, i32_w]; rfl)
                            refine pure_ (i := 12) (N := some 121) (v := undef) (a' := ?_) (bb_ 13 28) rfl rfl (any_of HT_.out (by kernel_rfl)) (fun _ _ _ h => h) (Or.inr ⟨by rfl, rfl⟩) ?_ ?_; rotate_left; (· simp only [Act.put, List.setIfInBounds_toArray, List.set_cons_zero, List.set_cons_succ, i64_w, i32_w]; rfl)
                            refine pure_ (i := 13) (N := some 122) (v := undef) (a' := ?_) (bb_ 14 27) rfl rfl (any_of HT_.out (by kernel_rfl)) (fun _ _ _ h => h) (Or.inr ⟨by rfl, rfl⟩) ?_ ?_; rotate_left; (· simp only [Act.put, List.setIfInBounds_toArray, List.set_cons_zero, List.set_cons_succ, i64_w, i32_w]; rfl)
                            refine pure_ (i := 14) (N := some 123) (v := undef) (a' := ?_) (bb_ 15 26) rfl rfl (any_of HT_.out (by kernel_rfl)) (fun _ _ _ h => h) (Or.inr ⟨by rfl, rfl⟩) ?_ ?_; rotate_left; (· simp only [Act.put, List.setIfInBounds_toArray, List.set_cons_zero, List.set_cons_succ, i64_w, i32_w]; rfl)
                            refine pure_ (i := 15) (N := some 124) (v := ?_) (a' := ?_) (bb_ 16 25) rfl rfl (any_of HT_.out (by kernel_rfl)) (fun _ _ _ h => h) (Or.inl ⟨by rfl, ?_⟩) ?_ ?_; rotate_left; (· intro w'; go_simp; with_reducible rfl); rotate_left; (· simp only [Act.put, List.setIfInBounds_toArray, List.set_cons_zero, List.set_cons_succ, i64_w, i32_w]; rfl)
                            refine pure_ (i := 16) (N := some 125) (v := ?_) (a' := ?_) (bb_ 17 24) rfl rfl (any_of HT_.out (by kernel_rfl)) (fun _ _ _ h => h) (Or.inl ⟨by rfl, ?_⟩) ?_ ?_; rotate_left; (· intro w'; go_simp; with_reducible rfl); rotate_left; (· simp only [Act.put, List.setIfInBounds_toArray, List.set_cons_zero, List.set_cons_succ, i64_w, i32_w]; rfl)
                            refine pure_ (i := 17) (N := some 126) (v := undef) (a' := ?_) (bb_ 18 23) rfl rfl (any_of HT_.out (by kernel_rfl)) (fun _ _ _ h => h) (Or.inr ⟨by rfl, rfl⟩) ?_ ?_; rotate_left; (· simp only [Act.put, List.setIfInBounds_toArray, List.set_cons_zero, List.set_cons_succ, i64_w, i32_w]; rfl)
                            refine pure_ (i := 18) (N := some 127) (v := undef) (a' := ?_) (bb_ 19 22) rfl rfl (any_of HT_.out (by kernel_rfl)) (fun _ _ _ h => h) (Or.inr ⟨by rfl, rfl⟩) ?_ ?_; rotate_left; (· simp only [Act.put, List.setIfInBounds_toArray, List.set_cons_zero, List.set_cons_succ, i64_w, i32_w]; rfl)
                            refine pure_ (i := 19) (N := some 128) (v := undef) (a' := ?_) (bb_ 20 21) rfl rfl (any_of HT_.out (by kernel_rfl)) (fun _ _ _ h => h) (Or.inr ⟨by rfl, rfl⟩) ?_ ?_; rotate_left; (· simp only [Act.put, List.setIfInBounds_toArray, List.set_cons_zero, List.set_cons_succ, i64_w, i32_w]; rfl)
                            refine pure_ (i := 20) (N := some 129) (v := undef) (a' := ?_) (bb_ 21 20) rfl rfl (any_of HT_.out (by kernel_rfl)) (fun _ _ _ h => h) (Or.inr ⟨by rfl, rfl⟩) ?_ ?_; rotate_left; (· simp only [Act.put, List.setIfInBounds_toArray, List.set_cons_zero, List.set_cons_succ, i64_w, i32_w]; rfl)
                            refine pure_ (i := 21) (N := some 130) (v := undef) (a' := ?_) (bb_ 22 19) rfl rfl (any_of HT_.out (by kernel_rfl)) (fun _ _ _ h => h) (Or.inr ⟨by rfl, rfl⟩) ?_ ?_; rotate_left; (· simp only [Act.put, List.setIfInBounds_toArray, List.set_cons_zero, List.set_cons_succ, i64_w, i32_w]; rfl)
                            refine pure_ (i := 22) (N := some 131) (v := undef) (a' := ?_) (bb_ 23 18) rfl rfl (any_of HT_.out (by kernel_rfl)) (fun _ _ _ h => h) (Or.inr ⟨by rfl, rfl⟩) ?_ ?_; rotate_left; (· simp only [Act.put, List.setIfInBounds_toArray, List.set_cons_zero, List.set_cons_succ, i64_w, i32_w]; rfl)
                            refine pure_ (i := 23) (N := some 132) (v := undef) (a' := ?_) (bb_ 24 17) rfl rfl (any_of HT_.out (by kernel_rfl)) (fun _ _ _ h => h) (Or.inr ⟨by rfl, rfl⟩) ?_ ?_; rotate_left; (· simp only [Act.put, List.setIfInBounds_toArray, List.set_cons_zero, List.set_cons_succ, i64_w, i32_w]; rfl)
                            refine pure_ (i := 24) (N := some 133) (v := ?_) (a' := ?_) (bb_ 25 16) rfl rfl (any_of HT_.out (by kernel_rfl)) (fun _ _ _ h => h) (Or.inl ⟨by rfl, ?_⟩) ?_ ?_; rotate_left; (· intro w'; go_simp; with_reducible rfl); rotate_left; (· simp only [Act.put, List.setIfInBounds_toArray, List.set_cons_zero, List.set_cons_succ, i64_w, i32_w]; rfl)
                            refine pure_ (i := 25) (N := some 134) (v := ?_) (a' := ?_) (bb_ 26 15) rfl rfl (any_of HT_.out (by kernel_rfl)) (fun _ _ _ h => h) (Or.inl ⟨by rfl, ?_⟩) ?_ ?_; rotate_left; (· intro w'; go_simp; with_reducible rfl); rotate_left; (· simp only [Act.put, List.setIfInBounds_toArray, List.set_cons_zero, List.set_cons_succ, i64_w, i32_w]; rfl)
                            refine pure_ (i := 26) (N := some 135) (v := undef) (a' := ?_) (bb_ 27 14) rfl rfl (any_of HT_.out (by kernel_rfl)) (fun _ _ _ h => h) (Or.inr ⟨by rfl, rfl⟩) ?_ ?_; rotate_left; (· simp only [Act.put, List.setIfInBounds_toArray, List.set_cons_zero, List.set_cons_succ, i64_w, i32_w]; rfl)
                            refine pure_ (i := 27) (N := some 136) (v := undef) (a' := ?_) (bb_ 28 13) rfl rfl (any_of HT_.out (by kernel_rfl)) (fun _ _ _ h => h) (Or.inr ⟨by rfl, rfl⟩) ?_ ?_; rotate_left; (· simp only [Act.put, List.setIfInBounds_toArray, List.set_cons_zero, List.set_cons_succ, i64_w, i32_w]; rfl)
                            refine pure_ (i := 28) (N := some 137) (v := undef) (a' := ?_) (bb_ 29 12) rfl rfl (any_of HT_.out (by kernel_rfl)) (fun _ _ _ h => h) (Or.inr ⟨by rfl, rfl⟩) ?_ ?_; rotate_left; (· simp only [Act.put, List.setIfInBounds_toArray, List.set_cons_zero, List.set_cons_succ, i64_w, i32_w]; rfl)
                            refine pure_ (i := 29) (N := some 138) (v := undef) (a' := ?_) (bb_ 30 11) rfl rfl (any_of HT_.out (by kernel_rfl)) (fun _ _ _ h => h) (Or.inr ⟨by rfl, rfl⟩) ?_ ?_; rotate_left; (· simp only [Act.put, List.setIfInBounds_toArray, List.set_cons_zero, List.set_cons_succ, i64_w, i32_w]; rfl)
                            refine pure_ (i := 30) (N := some 139) (v := undef) (a' := ?_) (bb_ 31 10) rfl rfl (any_of HT_.out (by kernel_rfl)) (fun _ _ _ h => h) (Or.inr ⟨by rfl, rfl⟩) ?_ ?_; rotate_left; (· simp only [Act.put, List.setIfInBounds_toArray, List.set_cons_zero, List.set_cons_succ, i64_w, i32_w]; rfl)
                            refine pure_ (i := 31) (N := some 140) (v := undef) (a' := ?_) (bb_ 32 9) rfl rfl (any_of HT_.out (by kernel_rfl)) (fun _ _ _ h => h) (Or.inr ⟨by rfl, rfl⟩) ?_ ?_; rotate_left; (· simp only [Act.put, List.setIfInBounds_toArray, List.set_cons_zero, List.set_cons_succ, i64_w, i32_w]; rfl)
                            refine pure_ (i := 32) (N := some 141) (v := undef) (a' := ?_) (bb_ 33 8) rfl rfl (any_of HT_.out (by kernel_rfl)) (fun _ _ _ h => h) (Or.inr ⟨by rfl, rfl⟩) ?_ ?_; rotate_left; (· simp only [Act.put, List.setIfInBounds_toArray, List.set_cons_zero, List.set_cons_succ, i64_w, i32_w]; rfl)
                            refine pure_ (i := 33) (N := some 142) (v := ?_) (a' := ?_) (bb_ 34 7) rfl rfl (any_of HT_.out (by kernel_rfl)) (fun _ _ _ h => h) (Or.inl ⟨by rfl, ?_⟩) ?_ ?_; rotate_left; (· intro w'; go_simp; with_reducible rfl); rotate_left; (· simp only [Act.put, List.setIfInBounds_toArray, List.set_cons_zero, List.set_cons_succ, i64_w, i32_w]; rfl)
                            refine pure_ (i := 34) (N := some 143) (v := ?_) (a' := ?_) (bb_ 35 6) rfl rfl (any_of HT_.out (by kernel_rfl)) (fun _ _ _ h => h) (Or.inl ⟨by rfl, ?_⟩) ?_ ?_; rotate_left; (· intro w'; go_simp; with_reducible rfl); rotate_left; (· simp only [Act.put, List.setIfInBounds_toArray, List.set_cons_zero, List.set_cons_succ, i64_w, i32_w]; rfl)
                            refine pure_ (i := 35) (N := some 144) (v := undef) (a' := ?_) (bb_ 36 5) rfl rfl (any_of HT_.out (by kernel_rfl)) (fun _ _ _ h => h) (Or.inr ⟨by rfl, rfl⟩) ?_ ?_; rotate_left; (· simp only [Act.put, List.setIfInBounds_toArray, List.set_cons_zero, List.set_cons_succ, i64_w, i32_w]; rfl)
                            refine pure_ (i := 36) (N := some 145) (v := undef) (a' := ?_) (bb_ 37 4) rfl rfl (any_of HT_.out (by kernel_rfl)) (fun _ _ _ h => h) (Or.inr ⟨by rfl, rfl⟩) ?_ ?_; rotate_left; (· simp only [Act.put, List.setIfInBounds_toArray, List.set_cons_zero, List.set_cons_succ, i64_w, i32_w]; rfl)
                            refine pure_ (i := 37) (N := some 146) (v := undef) (a' := ?_) (bb_ 38 3) rfl rfl (any_of HT_.out (by kernel_rfl)) (fun _ _ _ h => h) (Or.inr ⟨by rfl, rfl⟩) ?_ ?_; rotate_left; (· simp only [Act.put, List.setIfInBounds_toArray, List.set_cons_zero, List.set_cons_succ, i64_w, i32_w]; rfl)
                            refine pure_ (i := 38) (N := some 147) (v := undef) (a' := ?_) (bb_ 39 2) rfl rfl (any_of HT_.out (by kernel_rfl)) (fun _ _ _ h => h) (Or.inr ⟨by rfl, rfl⟩) ?_ ?_; rotate_left; (· simp only [Act.put, List.setIfInBounds_toArray, List.set_cons_zero, List.set_cons_succ, i64_w, i32_w]; rfl)
                            refine pure_ (i := 39) (N := some 148) (v := undef) (a' := ?_) (bb_ 40 1) rfl rfl (any_of HT_.out (by kernel_rfl)) (fun _ _ _ h => h) (Or.inr ⟨by rfl, rfl⟩) ?_ ?_; rotate_left; (· simp only [Act.put, List.setIfInBounds_toArray, List.set_cons_zero, List.set_cons_succ, i64_w, i32_w]; rfl)
                            refine pure_ (i := 40) (N := some 149) (v := ?_) (a' := ?_) (bb_ 41 0) rfl rfl (any_of HT_.out (by kernel_rfl)) (fun _ _ _ h => h) (Or.inl ⟨by rfl, ?_⟩) ?_ ?_; rotate_left; (· intro w'; go_simp; with_reducible rfl); rotate_left; (· simp only [Act.put, List.setIfInBounds_toArray, List.set_cons_zero, List.set_cons_succ, i64_w, i32_w]; rfl)
                            refine done_ (done_of HT_.out (by kernel_rfl)) ?_
                            try go_wp2
                            go_meet
                            case rel => exact ⟨_, (false), (by first | rfl | (simp; done) | (simp [*]; done)), H', ⟨by have := HK1.out; have := HJ11.out; have := HJ24.out; have := HJ28.out; have := HK5.out; first | omega | exact Nat.le_refl _⟩, ⟨by (with_reducible repeat (first | apply Kd.R_alloc | apply Kd.R_drewN | apply Kd.R_drew)); exact Kd.R_mono HO_3.out (fun _ hk => hk.1)⟩, ⟨by (with_reducible repeat (first | apply Kd.R_alloc | apply Kd.R_drewN | apply Kd.R_drew)); exact Kd.R_mono HO_38.out (fun _ hk => hk.1)⟩, ⟨by (with_reducible repeat (first | refine blk_drewN ?_ _ | refine blk_drew ?_ | refine blk_alloc ?_ _)); exact BK310.out⟩, ⟨by repeat (first | (with_reducible first | exact HB.out | apply below_alloc | apply pw_below_drewN | apply below_drew1 | refine below_set ?_ GE310.out) | exact HB.out)⟩⟩
                          rw [if_pos c43] at H
                          have c43b0 : (t315 == 0) = true := beq_iff_eq.mpr c43
                          have c43b1 : (t315 != 0) = false := bne_eq_false_iff_eq.mpr c43
                          clear c43
                          (first | rw [c43b0] | (simp only [i64_w, i32_w]; rw [c43b0]) | skip)
                          by_cases c44 : (t313.length : Int) = 1
                          rotate_left
                          · rw [if_neg c44] at H
                            have c44b0 : ((t313.length : Int) == 1) = false := beq_eq_false_iff_ne.mpr c44
                            have c44b1 : ((t313.length : Int) != 1) = true := bne_iff_ne.mpr c44
                            have H' := Aside0.mk H
                            clear H
                            try go_wp2
                            have n0_ := Aside0.mk (Kd.R_drew HO_3.out)
                            have n1_ := Aside0.mk (Kd.R_drew HO_38.out)
                            have n2_ := Aside0.mk (Kd.R_drew HO317.out)
                            have n3_ := Aside0.mk (blk_drew BK310.out)
                            have n4_ := Aside0.mk (below_drew1 HB.out)
                            clear HO_3
                            clear HO_38
                            clear HO317
                            clear BK310
                            clear HB
                            have HO_3 := n0_
                            have HO_38 := n1_
                            have HO317 := n2_
                            have BK310 := n3_
                            have HB := n4_
                            clear n0_ n1_ n2_ n3_ n4_
                            obtain ⟨Ao61, co61, eo61⟩ := Kd.R_slice HO317.out
                            (first | subst eo61 | (injection eo61 with f1_ f2_ f3_; have f4_ := f1_.symm; have f5_ := f3_.symm; clear f1_ f2_ f3_; subst f4_; subst f5_))
                            refine start_ (n := 41) (S := fun w' => True) (ds := []) (bb_ 0 41) (by kernel_rfl) rfl rfl trivial (fun hHeld => ?_); refine with_tabW keystonelaw12_LexisLoses.tab22 keystonelaw12_LexisLoses.bits22 (fun HT_ HW_ => ?_)
                            generalize w42.drew = w60 at HO_3 HO_38 HO317 BK310 HB hHeld ⊢
                            refine pure_ (i := 0) (N := some 109) (v := ?_) (a' := ?_) (bb_ 1 40) rfl rfl (any_of HT_.out (by kernel_rfl)) (fun _ _ _ h => h) (Or.inl ⟨by rfl, ?_⟩) ?_ ?_; rotate_left; (· intro w'; go_simp; with_reducible rfl); rotate_left; (· simp only [Act.put, List.setIfInBounds_toArray, List.set_cons_zero, List.set_cons_succ, i64_w, i32_w]; rfl)
                            refine pure_ (i := 1) (N := some 110) (v := ?_) (a' := ?_) (bb_ 2 39) rfl rfl (any_of HT_.out (by kernel_rfl)) (fun _ _ _ h => h) (Or.inl ⟨by rfl, ?_⟩) ?_ ?_; rotate_left; (· intro w'; go_simp; with_reducible rfl); rotate_left; (· simp only [Act.put, List.setIfInBounds_toArray, List.set_cons_zero, List.set_cons_succ, i64_w, i32_w]; rfl)
                            refine pure_ (i := 2) (N := some 111) (v := ?_) (a' := ?_) (bb_ 3 38) rfl rfl (any_of HT_.out (by kernel_rfl)) (fun _ _ _ h => h) (Or.inl ⟨by rfl, ?_⟩) ?_ ?_; rotate_left; (· intro w'; go_simp; with_reducible rfl); rotate_left; (· simp only [Act.put, List.setIfInBounds_toArray, List.set_cons_zero, List.set_cons_succ, i64_w, i32_w]; rfl)
                            refine pure_ (i := 3) (N := some 112) (v := ?_) (a' := ?_) (bb_ 4 37) rfl rfl (any_of HT_.out (by kernel_rfl)) (fun _ _ _ h => h) (Or.inl ⟨by rfl, ?_⟩) ?_ ?_; rotate_left; (· intro w'; go_simp; with_reducible rfl); rotate_left; (· simp only [Act.put, List.setIfInBounds_toArray, List.set_cons_zero, List.set_cons_succ, i64_w, i32_w]; rfl)
                            refine pure_ (i := 4) (N := some 113) (v := ?_) (a' := ?_) (bb_ 5 36) rfl rfl (any_of HT_.out (by kernel_rfl)) (fun _ _ _ h => h) (Or.inl ⟨by rfl, ?_⟩) ?_ ?_; rotate_left; (· intro w'; go_simp; with_reducible rfl); rotate_left; (· simp only [Act.put, List.setIfInBounds_toArray, List.set_cons_zero, List.set_cons_succ, i64_w, i32_w]; rfl)
                            refine pure_ (i := 5) (N := some 114) (v := ?_) (a' := ?_) (bb_ 6 35) rfl rfl (any_of HT_.out (by kernel_rfl)) (fun _ _ _ h => h) (Or.inl ⟨by rfl, ?_⟩) ?_ ?_; rotate_left; (· intro w'; go_simp; with_reducible rfl); rotate_left; (· simp only [Act.put, List.setIfInBounds_toArray, List.set_cons_zero, List.set_cons_succ, i64_w, i32_w]; rfl)
                            refine pure_ (i := 6) (N := some 115) (v := ?_) (a' := ?_) (bb_ 7 34) rfl rfl (any_of HT_.out (by kernel_rfl)) (fun _ _ _ h => h) (Or.inl ⟨by rfl, ?_⟩) ?_ ?_; rotate_left; (· intro w'; go_simp; with_reducible rfl); rotate_left; (· simp only [Act.put, List.setIfInBounds_toArray, List.set_cons_zero, List.set_cons_succ, i64_w, i32_w]; rfl)
                            refine pure_ (i := 7) (N := some 116) (v := ?_) (a' := ?_) (bb_ 8 33) rfl rfl (any_of HT_.out (by kernel_rfl)) (fun _ _ _ h => h) (Or.inl ⟨by rfl, ?_⟩) ?_ ?_; rotate_left; (· intro w'; go_simp; with_reducible rfl); rotate_left; (· simp only [Act.put, List.setIfInBounds_toArray, List.set_cons_zero, List.set_cons_succ, i64_w, i32_w]; rfl)
                            refine pure_ (i := 8) (N := some 117) (v := undef) (a' := ?_) (bb_ 9 32) rfl rfl (any_of HT_.out (by kernel_rfl)) (fun _ _ _ h => h) (Or.inr ⟨by rfl, rfl⟩) ?_ ?_; rotate_left; (· simp only [Act.put, List.setIfInBounds_toArray, List.set_cons_zero, List.set_cons_succ, i64_w, i32_w]; rfl)
                            refine pure_ (i := 9) (N := some 118) (v := undef) (a' := ?_) (bb_ 10 31) rfl rfl (any_of HT_.out (by kernel_rfl)) (fun _ _ _ h => h) (Or.inr ⟨by rfl, rfl⟩) ?_ ?_; rotate_left; (· simp only [Act.put, List.setIfInBounds_toArray, List.set_cons_zero, List.set_cons_succ, i64_w, i32_w]; rfl)
                            refine pure_ (i := 10) (N := some 119) (v := undef) (a' := ?_) (bb_ 11 30) rfl rfl (any_of HT_.out (by kernel_rfl)) (fun _ _ _ h => h) (Or.inr ⟨by rfl, rfl⟩) ?_ ?_; rotate_left; (· simp only [Act.put, List.setIfInBounds_toArray, List.set_cons_zero, List.set_cons_succ, i64_w, i32_w]; rfl)
                            refine pure_ (i := 11) (N := some 120) (v := undef) (a' := ?_) (bb_ 12 29) rfl rfl (any_of HT_.out (by kernel_rfl)) (fun _ _ _ h => h) (Or.inr ⟨by rfl, rfl⟩) ?_ ?_; rotate_left; (· simp only [Act.put, List.setIfInBounds_toArray, List.set_cons_zero, List.set_cons_succ, i64_w, i32_w]; rfl)
                            refine pure_ (i := 12) (N := some 121) (v := undef) (a' := ?_) (bb_ 13 28) rfl rfl (any_of HT_.out (by kernel_rfl)) (fun _ _ _ h => h) (Or.inr ⟨by rfl, rfl⟩) ?_ ?_; rotate_left; (· simp only [Act.put, List.setIfInBounds_toArray, List.set_cons_zero, List.set_cons_succ, i64_w, i32_w]; rfl)
                            refine pure_ (i := 13) (N := some 122) (v := undef) (a' := ?_) (bb_ 14 27) rfl rfl (any_of HT_.out (by kernel_rfl)) (fun _ _ _ h => h) (Or.inr ⟨by rfl, rfl⟩) ?_ ?_; rotate_left; (· simp only [Act.put, List.setIfInBounds_toArray, List.set_cons_zero, List.set_cons_succ, i64_w, i32_w]; rfl)
                            refine pure_ (i := 14) (N := some 123) (v := undef) (a' := ?_) (bb_ 15 26) rfl rfl (any_of HT_.out (by kernel_rfl)) (fun _ _ _ h => h) (Or.inr ⟨by rfl, rfl⟩) ?_ ?_; rotate_left; (· simp only [Act.put, List.setIfInBounds_toArray, List.set_cons_zero, List.set_cons_succ, i64_w, i32_w]; rfl)
                            refine pure_ (i := 15) (N := some 124) (v := ?_) (a' := ?_) (bb_ 16 25) rfl rfl (any_of HT_.out (by kernel_rfl)) (fun _ _ _ h => h) (Or.inl ⟨by rfl, ?_⟩) ?_ ?_; rotate_left; (· intro w'; go_simp; with_reducible rfl); rotate_left; (· simp only [Act.put, List.setIfInBounds_toArray, List.set_cons_zero, List.set_cons_succ, i64_w, i32_w]; rfl)
                            refine pure_ (i := 16) (N := some 125) (v := ?_) (a' := ?_) (bb_ 17 24) rfl rfl (any_of HT_.out (by kernel_rfl)) (fun _ _ _ h => h) (Or.inl ⟨by rfl, ?_⟩) ?_ ?_; rotate_left; (· intro w'; go_simp; with_reducible rfl); rotate_left; (· simp only [Act.put, List.setIfInBounds_toArray, List.set_cons_zero, List.set_cons_succ, i64_w, i32_w]; rfl)
                            refine pure_ (i := 17) (N := some 126) (v := undef) (a' := ?_) (bb_ 18 23) rfl rfl (any_of HT_.out (by kernel_rfl)) (fun _ _ _ h => h) (Or.inr ⟨by rfl, rfl⟩) ?_ ?_; rotate_left; (· simp only [Act.put, List.setIfInBounds_toArray, List.set_cons_zero, List.set_cons_succ, i64_w, i32_w]; rfl)
                            refine pure_ (i := 18) (N := some 127) (v := undef) (a' := ?_) (bb_ 19 22) rfl rfl (any_of HT_.out (by kernel_rfl)) (fun _ _ _ h => h) (Or.inr ⟨by rfl, rfl⟩) ?_ ?_; rotate_left; (· simp only [Act.put, List.setIfInBounds_toArray, List.set_cons_zero, List.set_cons_succ, i64_w, i32_w]; rfl)
                            refine pure_ (i := 19) (N := some 128) (v := undef) (a' := ?_) (bb_ 20 21) rfl rfl (any_of HT_.out (by kernel_rfl)) (fun _ _ _ h => h) (Or.inr ⟨by rfl, rfl⟩) ?_ ?_; rotate_left; (· simp only [Act.put, List.setIfInBounds_toArray, List.set_cons_zero, List.set_cons_succ, i64_w, i32_w]; rfl)
                            refine pure_ (i := 20) (N := some 129) (v := undef) (a' := ?_) (bb_ 21 20) rfl rfl (any_of HT_.out (by kernel_rfl)) (fun _ _ _ h => h) (Or.inr ⟨by rfl, rfl⟩) ?_ ?_; rotate_left; (· simp only [Act.put, List.setIfInBounds_toArray, List.set_cons_zero, List.set_cons_succ, i64_w, i32_w]; rfl)
                            refine pure_ (i := 21) (N := some 130) (v := undef) (a' := ?_) (bb_ 22 19) rfl rfl (any_of HT_.out (by kernel_rfl)) (fun _ _ _ h => h) (Or.inr ⟨by rfl, rfl⟩) ?_ ?_; rotate_left; (· simp only [Act.put, List.setIfInBounds_toArray, List.set_cons_zero, List.set_cons_succ, i64_w, i32_w]; rfl)
                            refine pure_ (i := 22) (N := some 131) (v := undef) (a' := ?_) (bb_ 23 18) rfl rfl (any_of HT_.out (by kernel_rfl)) (fun _ _ _ h => h) (Or.inr ⟨by rfl, rfl⟩) ?_ ?_; rotate_left; (· simp only [Act.put, List.setIfInBounds_toArray, List.set_cons_zero, List.set_cons_succ, i64_w, i32_w]; rfl)
                            refine pure_ (i := 23) (N := some 132) (v := undef) (a' := ?_) (bb_ 24 17) rfl rfl (any_of HT_.out (by kernel_rfl)) (fun _ _ _ h => h) (Or.inr ⟨by rfl, rfl⟩) ?_ ?_; rotate_left; (· simp only [Act.put, List.setIfInBounds_toArray, List.set_cons_zero, List.set_cons_succ, i64_w, i32_w]; rfl)
                            refine pure_ (i := 24) (N := some 133) (v := ?_) (a' := ?_) (bb_ 25 16) rfl rfl (any_of HT_.out (by kernel_rfl)) (fun _ _ _ h => h) (Or.inl ⟨by rfl, ?_⟩) ?_ ?_; rotate_left; (· intro w'; go_simp; with_reducible rfl); rotate_left; (· simp only [Act.put, List.setIfInBounds_toArray, List.set_cons_zero, List.set_cons_succ, i64_w, i32_w]; rfl)
                            refine pure_ (i := 25) (N := some 134) (v := ?_) (a' := ?_) (bb_ 26 15) rfl rfl (any_of HT_.out (by kernel_rfl)) (fun _ _ _ h => h) (Or.inl ⟨by rfl, ?_⟩) ?_ ?_; rotate_left; (· intro w'; go_simp; with_reducible rfl); rotate_left; (· simp only [Act.put, List.setIfInBounds_toArray, List.set_cons_zero, List.set_cons_succ, i64_w, i32_w]; rfl)
                            refine pure_ (i := 26) (N := some 135) (v := undef) (a' := ?_) (bb_ 27 14) rfl rfl (any_of HT_.out (by kernel_rfl)) (fun _ _ _ h => h) (Or.inr ⟨by rfl, rfl⟩) ?_ ?_; rotate_left; (· simp only [Act.put, List.setIfInBounds_toArray, List.set_cons_zero, List.set_cons_succ, i64_w, i32_w]; rfl)
                            refine pure_ (i := 27) (N := some 136) (v := undef) (a' := ?_) (bb_ 28 13) rfl rfl (any_of HT_.out (by kernel_rfl)) (fun _ _ _ h => h) (Or.inr ⟨by rfl, rfl⟩) ?_ ?_; rotate_left; (· simp only [Act.put, List.setIfInBounds_toArray, List.set_cons_zero, List.set_cons_succ, i64_w, i32_w]; rfl)
                            refine pure_ (i := 28) (N := some 137) (v := undef) (a' := ?_) (bb_ 29 12) rfl rfl (any_of HT_.out (by kernel_rfl)) (fun _ _ _ h => h) (Or.inr ⟨by rfl, rfl⟩) ?_ ?_; rotate_left; (· simp only [Act.put, List.setIfInBounds_toArray, List.set_cons_zero, List.set_cons_succ, i64_w, i32_w]; rfl)
                            refine pure_ (i := 29) (N := some 138) (v := undef) (a' := ?_) (bb_ 30 11) rfl rfl (any_of HT_.out (by kernel_rfl)) (fun _ _ _ h => h) (Or.inr ⟨by rfl, rfl⟩) ?_ ?_; rotate_left; (· simp only [Act.put, List.setIfInBounds_toArray, List.set_cons_zero, List.set_cons_succ, i64_w, i32_w]; rfl)
                            refine pure_ (i := 30) (N := some 139) (v := undef) (a' := ?_) (bb_ 31 10) rfl rfl (any_of HT_.out (by kernel_rfl)) (fun _ _ _ h => h) (Or.inr ⟨by rfl, rfl⟩) ?_ ?_; rotate_left; (· simp only [Act.put, List.setIfInBounds_toArray, List.set_cons_zero, List.set_cons_succ, i64_w, i32_w]; rfl)
                            refine pure_ (i := 31) (N := some 140) (v := undef) (a' := ?_) (bb_ 32 9) rfl rfl (any_of HT_.out (by kernel_rfl)) (fun _ _ _ h => h) (Or.inr ⟨by rfl, rfl⟩) ?_ ?_; rotate_left; (· simp only [Act.put, List.setIfInBounds_toArray, List.set_cons_zero, List.set_cons_succ, i64_w, i32_w]; rfl)
                            refine pure_ (i := 32) (N := some 141) (v := undef) (a' := ?_) (bb_ 33 8) rfl rfl (any_of HT_.out (by kernel_rfl)) (fun _ _ _ h => h) (Or.inr ⟨by rfl, rfl⟩) ?_ ?_; rotate_left; (· simp only [Act.put, List.setIfInBounds_toArray, List.set_cons_zero, List.set_cons_succ, i64_w, i32_w]; rfl)
                            refine pure_ (i := 33) (N := some 142) (v := ?_) (a' := ?_) (bb_ 34 7) rfl rfl (any_of HT_.out (by kernel_rfl)) (fun _ _ _ h => h) (Or.inl ⟨by rfl, ?_⟩) ?_ ?_; rotate_left; (· intro w'; go_simp; with_reducible rfl); rotate_left; (· simp only [Act.put, List.setIfInBounds_toArray, List.set_cons_zero, List.set_cons_succ, i64_w, i32_w]; rfl)
                            refine pure_ (i := 34) (N := some 143) (v := ?_) (a' := ?_) (bb_ 35 6) rfl rfl (any_of HT_.out (by kernel_rfl)) (fun _ _ _ h => h) (Or.inl ⟨by rfl, ?_⟩) ?_ ?_; rotate_left; (· intro w'; go_simp; with_reducible rfl); rotate_left; (· simp only [Act.put, List.setIfInBounds_toArray, List.set_cons_zero, List.set_cons_succ, i64_w, i32_w]; rfl)
                            refine pure_ (i := 35) (N := some 144) (v := undef) (a' := ?_) (bb_ 36 5) rfl rfl (any_of HT_.out (by kernel_rfl)) (fun _ _ _ h => h) (Or.inr ⟨by rfl, rfl⟩) ?_ ?_; rotate_left; (· simp only [Act.put, List.setIfInBounds_toArray, List.set_cons_zero, List.set_cons_succ, i64_w, i32_w]; rfl)
                            refine pure_ (i := 36) (N := some 145) (v := undef) (a' := ?_) (bb_ 37 4) rfl rfl (any_of HT_.out (by kernel_rfl)) (fun _ _ _ h => h) (Or.inr ⟨by rfl, rfl⟩) ?_ ?_; rotate_left; (· simp only [Act.put, List.setIfInBounds_toArray, List.set_cons_zero, List.set_cons_succ, i64_w, i32_w]; rfl)
                            refine pure_ (i := 37) (N := some 146) (v := undef) (a' := ?_) (bb_ 38 3) rfl rfl (any_of HT_.out (by kernel_rfl)) (fun _ _ _ h => h) (Or.inr ⟨by rfl, rfl⟩) ?_ ?_; rotate_left; (· simp only [Act.put, List.setIfInBounds_toArray, List.set_cons_zero, List.set_cons_succ, i64_w, i32_w]; rfl)
                            refine pure_ (i := 38) (N := some 147) (v := undef) (a' := ?_) (bb_ 39 2) rfl rfl (any_of HT_.out (by kernel_rfl)) (fun _ _ _ h => h) (Or.inr ⟨by rfl, rfl⟩) ?_ ?_; rotate_left; (· simp only [Act.put, List.setIfInBounds_toArray, List.set_cons_zero, List.set_cons_succ, i64_w, i32_w]; rfl)
                            refine pure_ (i := 39) (N := some 148) (v := undef) (a' := ?_) (bb_ 40 1) rfl rfl (any_of HT_.out (by kernel_rfl)) (fun _ _ _ h => h) (Or.inr ⟨by rfl, rfl⟩) ?_ ?_; rotate_left; (· simp only [Act.put, List.setIfInBounds_toArray, List.set_cons_zero, List.set_cons_succ, i64_w, i32_w]; rfl)
                            refine pure_ (i := 40) (N := some 149) (v := ?_) (a' := ?_) (bb_ 41 0) rfl rfl (any_of HT_.out (by kernel_rfl)) (fun _ _ _ h => h) (Or.inl ⟨by rfl, ?_⟩) ?_ ?_; rotate_left; (· intro w'; go_simp; with_reducible rfl); rotate_left; (· simp only [Act.put, List.setIfInBounds_toArray, List.set_cons_zero, List.set_cons_succ, i64_w, i32_w]; rfl)
                            refine done_ (done_of HT_.out (by kernel_rfl)) ?_
                            try go_wp2
                            go_meet
                            case rel => exact ⟨_, (false), (by first | rfl | (simp; done) | (simp [*]; done)), H', ⟨by have := HK1.out; have := HJ11.out; have := HJ24.out; have := HJ28.out; have := HK5.out; first | omega | exact Nat.le_refl _⟩, ⟨by (with_reducible repeat (first | apply Kd.R_alloc | apply Kd.R_drewN | apply Kd.R_drew)); exact Kd.R_mono HO_3.out (fun _ hk => hk.1)⟩, ⟨by (with_reducible repeat (first | apply Kd.R_alloc | apply Kd.R_drewN | apply Kd.R_drew)); exact Kd.R_mono HO_38.out (fun _ hk => hk.1)⟩, ⟨by (with_reducible repeat (first | refine blk_drewN ?_ _ | refine blk_drew ?_ | refine blk_alloc ?_ _)); exact BK310.out⟩, ⟨by repeat (first | (with_reducible first | exact HB.out | apply below_alloc | apply pw_below_drewN | apply below_drew1 | refine below_set ?_ GE310.out) | exact HB.out)⟩⟩
                          rw [if_pos c44] at H
                          have c44b0 : ((t313.length : Int) == 1) = true := beq_iff_eq.mpr c44
                          have c44b1 : ((t313.length : Int) != 1) = false := bne_eq_false_iff_eq.mpr c44
                          clear c44
                          by_cases c45 : 0 < (t313.length : Int)
                          rotate_left
                          · rw [if_neg c45] at H
                            exact absurd H (by simp)
                          rw [if_pos c45] at H
                          have c45b0 : decide (0 < (t313.length : Int)) = true := decide_eq_true c45
                          have c45b1 : decide (0 < t313.length) = true := decide_eq_true (by omega)
                          clear c45
                          by_cases c46 : ((rd_T35 t313 0).f0) = ((rd_T35 t303 x40_1).f0)
                          rotate_left
                          · rw [if_neg c46] at H
                            have c46b0 : (((rd_T35 t313 0).f0) == ((rd_T35 t303 x40_1).f0)) = false := beq_eq_false_iff_ne.mpr c46
                            have c46b1 : (((rd_T35 t313 0).f0) != ((rd_T35 t303 x40_1).f0)) = true := bne_iff_ne.mpr c46
                            have H' := Aside0.mk H
                            clear H
                            try go_wp2
                            have n0_ := Aside0.mk (Kd.R_drew HO_3.out)
                            have n1_ := Aside0.mk (Kd.R_drew HO_38.out)
                            have n2_ := Aside0.mk (Kd.R_drew HO317.out)
                            have n3_ := Aside0.mk (blk_drew BK310.out)
                            have n4_ := Aside0.mk (below_drew1 HB.out)
                            clear HO_3
                            clear HO_38
                            clear HO317
                            clear BK310
                            clear HB
                            have HO_3 := n0_
                            have HO_38 := n1_
                            have HO317 := n2_
                            have BK310 := n3_
                            have HB := n4_
                            clear n0_ n1_ n2_ n3_ n4_
                            obtain ⟨Ao59, co59, eo59⟩ := Kd.R_slice HO317.out
                            (first | subst eo59 | (injection eo59 with f1_ f2_ f3_; have f4_ := f1_.symm; have f5_ := f3_.symm; clear f1_ f2_ f3_; subst f4_; subst f5_))
                            have p318 : 0 ≤ (0 : Int) := (by omega)
                            have q318 : 0 < (t313.length : Int) := of_decide_eq_true (by first | (with_reducible assumption) | assumption)
                            obtain ⟨ad318, e318, hx318_0, hx318_1, hx318_2, hx318_3, hx318_4, hx318_5, hx318_6, hx318_7⟩ := at_T35 (Kd.R_reads' HO317.out).2.2 0 p318 q318
                            cases e318
                            have qi318 : (0 < t313.length) = True := eq_true (by omega)
                            (try rw [show ((0 : Int)).toNat = 0 from rfl] at hx318_0)
                            (try rw [show 0 * 8 = 0 from rfl] at hx318_0)
                            (try rw [Addr.add_zero'] at hx318_0)
                            (try rw [show ((0 : Int)).toNat = 0 from rfl] at hx318_1)
                            (try rw [show 0 * 8 = 0 from rfl] at hx318_1)
                            (try rw [Addr.add_zero'] at hx318_1)
                            (try rw [show ((0 : Int)).toNat = 0 from rfl] at hx318_2)
                            (try rw [show 0 * 8 = 0 from rfl] at hx318_2)
                            (try rw [Addr.add_zero'] at hx318_2)
                            (try rw [show ((0 : Int)).toNat = 0 from rfl] at hx318_3)
                            (try rw [show 0 * 8 = 0 from rfl] at hx318_3)
                            (try rw [Addr.add_zero'] at hx318_3)
                            (try rw [show ((0 : Int)).toNat = 0 from rfl] at hx318_4)
                            (try rw [show 0 * 8 = 0 from rfl] at hx318_4)
                            (try rw [Addr.add_zero'] at hx318_4)
                            (try rw [show ((0 : Int)).toNat = 0 from rfl] at hx318_5)
                            (try rw [show 0 * 8 = 0 from rfl] at hx318_5)
                            (try rw [Addr.add_zero'] at hx318_5)
                            (try rw [show ((0 : Int)).toNat = 0 from rfl] at hx318_6)
                            (try rw [show 0 * 8 = 0 from rfl] at hx318_6)
                            (try rw [Addr.add_zero'] at hx318_6)
                            (try rw [show ((0 : Int)).toNat = 0 from rfl] at hx318_7)
                            (try rw [show 0 * 8 = 0 from rfl] at hx318_7)
                            (try rw [Addr.add_zero'] at hx318_7)
                            replace p318 := eq_true p318
                            replace q318 := eq_true q318
                            refine start_ (n := 41) (S := fun w' => w'.cell? ⟨gb310, 0, none⟩ = some (.int .i64 ((rd_T35 t303 x40_1).f0)) ∧ w'.cell? ⟨gb310, 1, none⟩ = some (.string ((rd_T35 t303 x40_1).f1)) ∧ w'.cell? ⟨gb310, 2, none⟩ = some (.int .i64 ((rd_T35 t303 x40_1).f2.f0)) ∧ w'.cell? ⟨gb310, 3, none⟩ = some (.int .i64 ((rd_T35 t303 x40_1).f2.f1)) ∧ w'.cell? ⟨gb310, 4, none⟩ = some (.bool ((rd_T35 t303 x40_1).f2.f2)) ∧ w'.cell? ⟨gb310, 5, none⟩ = some (.string ((rd_T35 t303 x40_1).f2.f3)) ∧ w'.cell? ⟨gb310, 6, none⟩ = some (.complex .f64 (((rd_T35 t303 x40_1).f2.f4).re) (((rd_T35 t303 x40_1).f2.f4).im)) ∧ w'.cell? ⟨gb310, 7, none⟩ = some (.int .i64 ((rd_T35 t303 x40_1).f3)) ∧ w'.cell? ad318 = some (.int .i64 ((rd_T35 t313 0).f0)) ∧ w'.cell? ⟨ad318.block, ad318.off + 1, none⟩ = some (.string ((rd_T35 t313 0).f1)) ∧ w'.cell? ⟨ad318.block, ad318.off + 2, none⟩ = some (.int .i64 ((rd_T35 t313 0).f2.f0)) ∧ w'.cell? ⟨ad318.block, ad318.off + 3, none⟩ = some (.int .i64 ((rd_T35 t313 0).f2.f1)) ∧ w'.cell? ⟨ad318.block, ad318.off + 4, none⟩ = some (.bool ((rd_T35 t313 0).f2.f2)) ∧ w'.cell? ⟨ad318.block, ad318.off + 5, none⟩ = some (.string ((rd_T35 t313 0).f2.f3)) ∧ w'.cell? ⟨ad318.block, ad318.off + 6, none⟩ = some (.complex .f64 (((rd_T35 t313 0).f2.f4).re) (((rd_T35 t313 0).f2.f4).im)) ∧ w'.cell? ⟨ad318.block, ad318.off + 7, none⟩ = some (.int .i64 ((rd_T35 t313 0).f3))) (ds := []) (bb_ 0 41) (by kernel_rfl) rfl rfl ⟨(blk_cell BK310.out 0).trans rfl, (blk_cell BK310.out 1).trans rfl, (blk_cell BK310.out 2).trans rfl, (blk_cell BK310.out 3).trans rfl, (blk_cell BK310.out 4).trans rfl, (blk_cell BK310.out 5).trans rfl, (blk_cell BK310.out 6).trans rfl, (blk_cell BK310.out 7).trans rfl, hx318_0, hx318_1, hx318_2, hx318_3, hx318_4, hx318_5, hx318_6, hx318_7⟩ (fun hHeld => ?_); refine with_tabW keystonelaw12_LexisLoses.tab22 keystonelaw12_LexisLoses.bits22 (fun HT_ HW_ => ?_)
                            generalize w42.drew = w58 at HO_3 HO_38 HO317 BK310 HB hx318_0 hx318_1 hx318_2 hx318_3 hx318_4 hx318_5 hx318_6 hx318_7 hHeld ⊢
                            refine pure_ (i := 0) (N := some 109) (v := ?_) (a' := ?_) (bb_ 1 40) rfl rfl (any_of HT_.out (by kernel_rfl)) (fun _ _ _ h => h) (Or.inl ⟨by rfl, ?_⟩) ?_ ?_; rotate_left; (· intro w'; go_simp; with_reducible rfl); rotate_left; (· simp only [Act.put, List.setIfInBounds_toArray, List.set_cons_zero, List.set_cons_succ, i64_w, i32_w]; rfl)
                            refine pure_ (i := 1) (N := some 110) (v := ?_) (a' := ?_) (bb_ 2 39) rfl rfl (any_of HT_.out (by kernel_rfl)) (fun _ _ _ h => h) (Or.inl ⟨by rfl, ?_⟩) ?_ ?_; rotate_left; (· intro w'; go_simp; with_reducible rfl); rotate_left; (· simp only [Act.put, List.setIfInBounds_toArray, List.set_cons_zero, List.set_cons_succ, i64_w, i32_w]; rfl)
                            refine pure_ (i := 2) (N := some 111) (v := ?_) (a' := ?_) (bb_ 3 38) rfl rfl (any_of HT_.out (by kernel_rfl)) (fun _ _ _ h => h) (Or.inl ⟨by rfl, ?_⟩) ?_ ?_; rotate_left; (· intro w'; go_simp; with_reducible rfl); rotate_left; (· simp only [Act.put, List.setIfInBounds_toArray, List.set_cons_zero, List.set_cons_succ, i64_w, i32_w]; rfl)
                            refine pure_ (i := 3) (N := some 112) (v := ?_) (a' := ?_) (bb_ 4 37) rfl rfl (any_of HT_.out (by kernel_rfl)) (fun _ _ _ h => h) (Or.inl ⟨by rfl, ?_⟩) ?_ ?_; rotate_left; (· intro w'; go_simp; with_reducible rfl); rotate_left; (· simp only [Act.put, List.setIfInBounds_toArray, List.set_cons_zero, List.set_cons_succ, i64_w, i32_w]; rfl)
                            refine pure_ (i := 4) (N := some 113) (v := ?_) (a' := ?_) (bb_ 5 36) rfl rfl (any_of HT_.out (by kernel_rfl)) (fun _ _ _ h => h) (Or.inl ⟨by rfl, ?_⟩) ?_ ?_; rotate_left; (· intro w'; go_simp; with_reducible rfl); rotate_left; (· simp only [Act.put, List.setIfInBounds_toArray, List.set_cons_zero, List.set_cons_succ, i64_w, i32_w]; rfl)
                            refine pure_ (i := 5) (N := some 114) (v := ?_) (a' := ?_) (bb_ 6 35) rfl rfl (any_of HT_.out (by kernel_rfl)) (fun _ _ _ h => h) (Or.inl ⟨by rfl, ?_⟩) ?_ ?_; rotate_left; (· intro w'; go_simp; with_reducible rfl); rotate_left; (· simp only [Act.put, List.setIfInBounds_toArray, List.set_cons_zero, List.set_cons_succ, i64_w, i32_w]; rfl)
                            refine pure_ (i := 6) (N := some 115) (v := ?_) (a' := ?_) (bb_ 7 34) rfl rfl (any_of HT_.out (by kernel_rfl)) (fun _ _ _ h => h) (Or.inl ⟨by rfl, ?_⟩) ?_ ?_; rotate_left; (· intro w'; go_simp; with_reducible rfl); rotate_left; (· simp only [Act.put, List.setIfInBounds_toArray, List.set_cons_zero, List.set_cons_succ, i64_w, i32_w]; rfl)
                            refine pure_ (i := 7) (N := some 116) (v := ?_) (a' := ?_) (bb_ 8 33) rfl rfl (any_of HT_.out (by kernel_rfl)) (fun _ _ _ h => h) (Or.inl ⟨by rfl, ?_⟩) ?_ ?_; rotate_left; (· intro w'; go_simp; with_reducible rfl); rotate_left; (· simp only [Act.put, List.setIfInBounds_toArray, List.set_cons_zero, List.set_cons_succ, i64_w, i32_w]; rfl)
                            refine pure_ (i := 8) (N := some 117) (v := ?_) (a' := ?_) (bb_ 9 32) rfl rfl (any_of HT_.out (by kernel_rfl)) (fun _ _ _ h => h) (Or.inl ⟨by rfl, ?_⟩) ?_ ?_; rotate_left; (· intro w'; go_simp; with_reducible rfl); rotate_left; (· simp only [Act.put, List.setIfInBounds_toArray, List.set_cons_zero, List.set_cons_succ, i64_w, i32_w]; rfl)
                            refine pure_ (i := 9) (N := some 118) (v := ?_) (a' := ?_) (bb_ 10 31) rfl rfl (any_of HT_.out (by kernel_rfl)) (fun _ _ _ h => h) (Or.inl ⟨by rfl, ?_⟩) ?_ ?_; rotate_left; (· intro w'; go_simp; with_reducible rfl); rotate_left; (· simp only [Act.put, List.setIfInBounds_toArray, List.set_cons_zero, List.set_cons_succ, i64_w, i32_w]; rfl)
                            refine pure_ (i := 10) (N := some 119) (v := ?_) (a' := ?_) (bb_ 11 30) rfl rfl (any_of HT_.out (by kernel_rfl)) (fun _ _ _ h => h) (Or.inl ⟨by rfl, ?_⟩) ?_ ?_; rotate_left; (· intro w'; go_simp; with_reducible rfl); rotate_left; (· simp only [Act.put, List.setIfInBounds_toArray, List.set_cons_zero, List.set_cons_succ, i64_w, i32_w]; rfl)
                            refine pure_ (i := 12) (N := some 121) (v := ?_) (a' := ?_) #[true, true, true, true, true, true, true, true, true, true, true, false, true, false, false, false, false, false, false, false, false, false, false, false, false, false, false, false, false, false, false, false, false, false, false, false, false, false, false, false, false] rfl rfl (any_of HT_.out (by kernel_rfl)) (fun _ _ _ h => h) (Or.inl ⟨by rfl, ?_⟩) ?_ ?_; rotate_left; (· intro w'; go_simp; with_reducible rfl); rotate_left; (· simp only [Act.put, List.setIfInBounds_toArray, List.set_cons_zero, List.set_cons_succ, i64_w, i32_w]; rfl)
                            refine take_ (i := 11) (N := some 120) (v := ?_) (a' := ?_) (bb_ 13 28) rfl rfl (take_ofW HT_.out HW_.out (by kernel_rfl)) (fun _ _ _ h => h) (Or.inl ⟨by rfl, ?_⟩) hHeld ?_ ?_; rotate_left; (· rintro w' ⟨s0, s1, s2, s3, s4, s5, s6, s7, s8, s9, s10, s11, s12, s13, s14, s15⟩; go_simp; with_reducible rfl); rotate_left; (· simp only [Act.put, List.setIfInBounds_toArray, List.set_cons_zero, List.set_cons_succ, i64_w, i32_w]; rfl)
                            refine take_ (i := 13) (N := some 122) (v := ?_) (a' := ?_) (bb_ 14 27) rfl rfl (take_ofW HT_.out HW_.out (by kernel_rfl)) (fun _ _ _ h => h) (Or.inl ⟨by rfl, ?_⟩) hHeld ?_ ?_; rotate_left; (· rintro w' ⟨s0, s1, s2, s3, s4, s5, s6, s7, s8, s9, s10, s11, s12, s13, s14, s15⟩; go_simp; with_reducible rfl); rotate_left; (· simp only [Act.put, List.setIfInBounds_toArray, List.set_cons_zero, List.set_cons_succ, i64_w, i32_w]; rfl)
                            refine pure_ (i := 14) (N := some 123) (v := ?_) (a' := ?_) (bb_ 15 26) rfl rfl (any_of HT_.out (by kernel_rfl)) (fun _ _ _ h => h) (Or.inl ⟨by rfl, ?_⟩) ?_ ?_; rotate_left; (· intro w'; go_simp; with_reducible rfl); rotate_left; (· simp only [Act.put, List.setIfInBounds_toArray, List.set_cons_zero, List.set_cons_succ, i64_w, i32_w]; rfl)
                            refine pure_ (i := 15) (N := some 124) (v := ?_) (a' := ?_) (bb_ 16 25) rfl rfl (any_of HT_.out (by kernel_rfl)) (fun _ _ _ h => h) (Or.inl ⟨by rfl, ?_⟩) ?_ ?_; rotate_left; (· intro w'; go_simp; with_reducible rfl); rotate_left; (· simp only [Act.put, List.setIfInBounds_toArray, List.set_cons_zero, List.set_cons_succ, i64_w, i32_w]; rfl)
                            refine pure_ (i := 16) (N := some 125) (v := ?_) (a' := ?_) (bb_ 17 24) rfl rfl (any_of HT_.out (by kernel_rfl)) (fun _ _ _ h => h) (Or.inl ⟨by rfl, ?_⟩) ?_ ?_; rotate_left; (· intro w'; go_simp; with_reducible rfl); rotate_left; (· simp only [Act.put, List.setIfInBounds_toArray, List.set_cons_zero, List.set_cons_succ, i64_w, i32_w]; rfl)
                            refine pure_ (i := 17) (N := some 126) (v := undef) (a' := ?_) (bb_ 18 23) rfl rfl (any_of HT_.out (by kernel_rfl)) (fun _ _ _ h => h) (Or.inr ⟨by rfl, rfl⟩) ?_ ?_; rotate_left; (· simp only [Act.put, List.setIfInBounds_toArray, List.set_cons_zero, List.set_cons_succ, i64_w, i32_w]; rfl)
                            refine pure_ (i := 18) (N := some 127) (v := undef) (a' := ?_) (bb_ 19 22) rfl rfl (any_of HT_.out (by kernel_rfl)) (fun _ _ _ h => h) (Or.inr ⟨by rfl, rfl⟩) ?_ ?_; rotate_left; (· simp only [Act.put, List.setIfInBounds_toArray, List.set_cons_zero, List.set_cons_succ, i64_w, i32_w]; rfl)
                            refine pure_ (i := 19) (N := some 128) (v := undef) (a' := ?_) (bb_ 20 21) rfl rfl (any_of HT_.out (by kernel_rfl)) (fun _ _ _ h => h) (Or.inr ⟨by rfl, rfl⟩) ?_ ?_; rotate_left; (· simp only [Act.put, List.setIfInBounds_toArray, List.set_cons_zero, List.set_cons_succ, i64_w, i32_w]; rfl)
                            refine pure_ (i := 20) (N := some 129) (v := undef) (a' := ?_) (bb_ 21 20) rfl rfl (any_of HT_.out (by kernel_rfl)) (fun _ _ _ h => h) (Or.inr ⟨by rfl, rfl⟩) ?_ ?_; rotate_left; (· simp only [Act.put, List.setIfInBounds_toArray, List.set_cons_zero, List.set_cons_succ, i64_w, i32_w]; rfl)
                            refine pure_ (i := 21) (N := some 130) (v := undef) (a' := ?_) (bb_ 22 19) rfl rfl (any_of HT_.out (by kernel_rfl)) (fun _ _ _ h => h) (Or.inr ⟨by rfl, rfl⟩) ?_ ?_; rotate_left; (· simp only [Act.put, List.setIfInBounds_toArray, List.set_cons_zero, List.set_cons_succ, i64_w, i32_w]; rfl)
                            refine pure_ (i := 22) (N := some 131) (v := undef) (a' := ?_) (bb_ 23 18) rfl rfl (any_of HT_.out (by kernel_rfl)) (fun _ _ _ h => h) (Or.inr ⟨by rfl, rfl⟩) ?_ ?_; rotate_left; (· simp only [Act.put, List.setIfInBounds_toArray, List.set_cons_zero, List.set_cons_succ, i64_w, i32_w]; rfl)
                            refine pure_ (i := 23) (N := some 132) (v := undef) (a' := ?_) (bb_ 24 17) rfl rfl (any_of HT_.out (by kernel_rfl)) (fun _ _ _ h => h) (Or.inr ⟨by rfl, rfl⟩) ?_ ?_; rotate_left; (· simp only [Act.put, List.setIfInBounds_toArray, List.set_cons_zero, List.set_cons_succ, i64_w, i32_w]; rfl)
                            refine pure_ (i := 24) (N := some 133) (v := ?_) (a' := ?_) (bb_ 25 16) rfl rfl (any_of HT_.out (by kernel_rfl)) (fun _ _ _ h => h) (Or.inl ⟨by rfl, ?_⟩) ?_ ?_; rotate_left; (· intro w'; go_simp; with_reducible rfl); rotate_left; (· simp only [Act.put, List.setIfInBounds_toArray, List.set_cons_zero, List.set_cons_succ, i64_w, i32_w]; rfl)
                            refine pure_ (i := 25) (N := some 134) (v := ?_) (a' := ?_) (bb_ 26 15) rfl rfl (any_of HT_.out (by kernel_rfl)) (fun _ _ _ h => h) (Or.inl ⟨by rfl, ?_⟩) ?_ ?_; rotate_left; (· intro w'; go_simp; with_reducible rfl); rotate_left; (· simp only [Act.put, List.setIfInBounds_toArray, List.set_cons_zero, List.set_cons_succ, i64_w, i32_w]; rfl)
                            refine pure_ (i := 26) (N := some 135) (v := undef) (a' := ?_) (bb_ 27 14) rfl rfl (any_of HT_.out (by kernel_rfl)) (fun _ _ _ h => h) (Or.inr ⟨by rfl, rfl⟩) ?_ ?_; rotate_left; (· simp only [Act.put, List.setIfInBounds_toArray, List.set_cons_zero, List.set_cons_succ, i64_w, i32_w]; rfl)
                            refine pure_ (i := 27) (N := some 136) (v := undef) (a' := ?_) (bb_ 28 13) rfl rfl (any_of HT_.out (by kernel_rfl)) (fun _ _ _ h => h) (Or.inr ⟨by rfl, rfl⟩) ?_ ?_; rotate_left; (· simp only [Act.put, List.setIfInBounds_toArray, List.set_cons_zero, List.set_cons_succ, i64_w, i32_w]; rfl)
                            refine pure_ (i := 28) (N := some 137) (v := undef) (a' := ?_) (bb_ 29 12) rfl rfl (any_of HT_.out (by kernel_rfl)) (fun _ _ _ h => h) (Or.inr ⟨by rfl, rfl⟩) ?_ ?_; rotate_left; (· simp only [Act.put, List.setIfInBounds_toArray, List.set_cons_zero, List.set_cons_succ, i64_w, i32_w]; rfl)
                            refine pure_ (i := 29) (N := some 138) (v := undef) (a' := ?_) (bb_ 30 11) rfl rfl (any_of HT_.out (by kernel_rfl)) (fun _ _ _ h => h) (Or.inr ⟨by rfl, rfl⟩) ?_ ?_; rotate_left; (· simp only [Act.put, List.setIfInBounds_toArray, List.set_cons_zero, List.set_cons_succ, i64_w, i32_w]; rfl)
                            refine pure_ (i := 30) (N := some 139) (v := undef) (a' := ?_) (bb_ 31 10) rfl rfl (any_of HT_.out (by kernel_rfl)) (fun _ _ _ h => h) (Or.inr ⟨by rfl, rfl⟩) ?_ ?_; rotate_left; (· simp only [Act.put, List.setIfInBounds_toArray, List.set_cons_zero, List.set_cons_succ, i64_w, i32_w]; rfl)
                            refine pure_ (i := 31) (N := some 140) (v := undef) (a' := ?_) (bb_ 32 9) rfl rfl (any_of HT_.out (by kernel_rfl)) (fun _ _ _ h => h) (Or.inr ⟨by rfl, rfl⟩) ?_ ?_; rotate_left; (· simp only [Act.put, List.setIfInBounds_toArray, List.set_cons_zero, List.set_cons_succ, i64_w, i32_w]; rfl)
                            refine pure_ (i := 32) (N := some 141) (v := undef) (a' := ?_) (bb_ 33 8) rfl rfl (any_of HT_.out (by kernel_rfl)) (fun _ _ _ h => h) (Or.inr ⟨by rfl, rfl⟩) ?_ ?_; rotate_left; (· simp only [Act.put, List.setIfInBounds_toArray, List.set_cons_zero, List.set_cons_succ, i64_w, i32_w]; rfl)
                            refine pure_ (i := 33) (N := some 142) (v := ?_) (a' := ?_) (bb_ 34 7) rfl rfl (any_of HT_.out (by kernel_rfl)) (fun _ _ _ h => h) (Or.inl ⟨by rfl, ?_⟩) ?_ ?_; rotate_left; (· intro w'; go_simp; with_reducible rfl); rotate_left; (· simp only [Act.put, List.setIfInBounds_toArray, List.set_cons_zero, List.set_cons_succ, i64_w, i32_w]; rfl)
                            refine pure_ (i := 34) (N := some 143) (v := ?_) (a' := ?_) (bb_ 35 6) rfl rfl (any_of HT_.out (by kernel_rfl)) (fun _ _ _ h => h) (Or.inl ⟨by rfl, ?_⟩) ?_ ?_; rotate_left; (· intro w'; go_simp; with_reducible rfl); rotate_left; (· simp only [Act.put, List.setIfInBounds_toArray, List.set_cons_zero, List.set_cons_succ, i64_w, i32_w]; rfl)
                            refine pure_ (i := 35) (N := some 144) (v := undef) (a' := ?_) (bb_ 36 5) rfl rfl (any_of HT_.out (by kernel_rfl)) (fun _ _ _ h => h) (Or.inr ⟨by rfl, rfl⟩) ?_ ?_; rotate_left; (· simp only [Act.put, List.setIfInBounds_toArray, List.set_cons_zero, List.set_cons_succ, i64_w, i32_w]; rfl)
                            refine pure_ (i := 36) (N := some 145) (v := undef) (a' := ?_) (bb_ 37 4) rfl rfl (any_of HT_.out (by kernel_rfl)) (fun _ _ _ h => h) (Or.inr ⟨by rfl, rfl⟩) ?_ ?_; rotate_left; (· simp only [Act.put, List.setIfInBounds_toArray, List.set_cons_zero, List.set_cons_succ, i64_w, i32_w]; rfl)
                            refine pure_ (i := 37) (N := some 146) (v := undef) (a' := ?_) (bb_ 38 3) rfl rfl (any_of HT_.out (by kernel_rfl)) (fun _ _ _ h => h) (Or.inr ⟨by rfl, rfl⟩) ?_ ?_; rotate_left; (· simp only [Act.put, List.setIfInBounds_toArray, List.set_cons_zero, List.set_cons_succ, i64_w, i32_w]; rfl)
                            refine pure_ (i := 38) (N := some 147) (v := undef) (a' := ?_) (bb_ 39 2) rfl rfl (any_of HT_.out (by kernel_rfl)) (fun _ _ _ h => h) (Or.inr ⟨by rfl, rfl⟩) ?_ ?_; rotate_left; (· simp only [Act.put, List.setIfInBounds_toArray, List.set_cons_zero, List.set_cons_succ, i64_w, i32_w]; rfl)
                            refine pure_ (i := 39) (N := some 148) (v := undef) (a' := ?_) (bb_ 40 1) rfl rfl (any_of HT_.out (by kernel_rfl)) (fun _ _ _ h => h) (Or.inr ⟨by rfl, rfl⟩) ?_ ?_; rotate_left; (· simp only [Act.put, List.setIfInBounds_toArray, List.set_cons_zero, List.set_cons_succ, i64_w, i32_w]; rfl)
                            refine pure_ (i := 40) (N := some 149) (v := ?_) (a' := ?_) (bb_ 41 0) rfl rfl (any_of HT_.out (by kernel_rfl)) (fun _ _ _ h => h) (Or.inl ⟨by rfl, ?_⟩) ?_ ?_; rotate_left; (· intro w'; go_simp; with_reducible rfl); rotate_left; (· simp only [Act.put, List.setIfInBounds_toArray, List.set_cons_zero, List.set_cons_succ, i64_w, i32_w]; rfl)
                            refine done_ (done_of HT_.out (by kernel_rfl)) ?_
                            try go_wp2
                            go_meet
                            case rel => exact ⟨_, (false), (by first | rfl | (simp; done) | (simp [*]; done)), H', ⟨by have := HK1.out; have := HJ11.out; have := HJ24.out; have := HJ28.out; have := HK5.out; first | omega | exact Nat.le_refl _⟩, ⟨by (with_reducible repeat (first | apply Kd.R_alloc | apply Kd.R_drewN | apply Kd.R_drew)); exact Kd.R_mono HO_3.out (fun _ hk => hk.1)⟩, ⟨by (with_reducible repeat (first | apply Kd.R_alloc | apply Kd.R_drewN | apply Kd.R_drew)); exact Kd.R_mono HO_38.out (fun _ hk => hk.1)⟩, ⟨by (with_reducible repeat (first | refine blk_drewN ?_ _ | refine blk_drew ?_ | refine blk_alloc ?_ _)); exact BK310.out⟩, ⟨by repeat (first | (with_reducible first | exact HB.out | apply below_alloc | apply pw_below_drewN | apply below_drew1 | refine below_set ?_ GE310.out) | exact HB.out)⟩⟩
                          rw [if_pos c46] at H
                          have c46b0 : (((rd_T35 t313 0).f0) == ((rd_T35 t303 x40_1).f0)) = true := beq_iff_eq.mpr c46
                          have c46b1 : (((rd_T35 t313 0).f0) != ((rd_T35 t303 x40_1).f0)) = false := bne_eq_false_iff_eq.mpr c46
                          clear c46
                          by_cases c47 : ((rd_T35 t313 0).f1).toList = ((rd_T35 t303 x40_1).f1).toList
                          rotate_left
                          · rw [if_neg c47] at H
                            have c47b0 : (((rd_T35 t313 0).f1).toList == ((rd_T35 t303 x40_1).f1).toList) = false := beq_eq_false_iff_ne.mpr c47
                            have c47b1 : (((rd_T35 t313 0).f1).toList != ((rd_T35 t303 x40_1).f1).toList) = true := bne_iff_ne.mpr c47
                            have H' := Aside0.mk H
                            clear H
                            try go_wp2
                            have n0_ := Aside0.mk (Kd.R_drew HO_3.out)
                            have n1_ := Aside0.mk (Kd.R_drew HO_38.out)
                            have n2_ := Aside0.mk (Kd.R_drew HO317.out)
                            have n3_ := Aside0.mk (blk_drew BK310.out)
                            have n4_ := Aside0.mk (below_drew1 HB.out)
                            clear HO_3
                            clear HO_38
                            clear HO317
                            clear BK310
                            clear HB
                            have HO_3 := n0_
                            have HO_38 := n1_
                            have HO317 := n2_
                            have BK310 := n3_
                            have HB := n4_
                            clear n0_ n1_ n2_ n3_ n4_
                            obtain ⟨Ao57, co57, eo57⟩ := Kd.R_slice HO317.out
                            (first | subst eo57 | (injection eo57 with f1_ f2_ f3_; have f4_ := f1_.symm; have f5_ := f3_.symm; clear f1_ f2_ f3_; subst f4_; subst f5_))
                            have p318 : 0 ≤ (0 : Int) := (by omega)
                            have q318 : 0 < (t313.length : Int) := of_decide_eq_true (by first | (with_reducible assumption) | assumption)
                            obtain ⟨ad318, e318, hx318_0, hx318_1, hx318_2, hx318_3, hx318_4, hx318_5, hx318_6, hx318_7⟩ := at_T35 (Kd.R_reads' HO317.out).2.2 0 p318 q318
                            cases e318
                            have qi318 : (0 < t313.length) = True := eq_true (by omega)
                            (try rw [show ((0 : Int)).toNat = 0 from rfl] at hx318_0)
                            (try rw [show 0 * 8 = 0 from rfl] at hx318_0)
                            (try rw [Addr.add_zero'] at hx318_0)
                            (try rw [show ((0 : Int)).toNat = 0 from rfl] at hx318_1)
                            (try rw [show 0 * 8 = 0 from rfl] at hx318_1)
                            (try rw [Addr.add_zero'] at hx318_1)
                            (try rw [show ((0 : Int)).toNat = 0 from rfl] at hx318_2)
                            (try rw [show 0 * 8 = 0 from rfl] at hx318_2)
                            (try rw [Addr.add_zero'] at hx318_2)
                            (try rw [show ((0 : Int)).toNat = 0 from rfl] at hx318_3)
                            (try rw [show 0 * 8 = 0 from rfl] at hx318_3)
                            (try rw [Addr.add_zero'] at hx318_3)
                            (try rw [show ((0 : Int)).toNat = 0 from rfl] at hx318_4)
                            (try rw [show 0 * 8 = 0 from rfl] at hx318_4)
                            (try rw [Addr.add_zero'] at hx318_4)
                            (try rw [show ((0 : Int)).toNat = 0 from rfl] at hx318_5)
                            (try rw [show 0 * 8 = 0 from rfl] at hx318_5)
                            (try rw [Addr.add_zero'] at hx318_5)
                            (try rw [show ((0 : Int)).toNat = 0 from rfl] at hx318_6)
                            (try rw [show 0 * 8 = 0 from rfl] at hx318_6)
                            (try rw [Addr.add_zero'] at hx318_6)
                            (try rw [show ((0 : Int)).toNat = 0 from rfl] at hx318_7)
                            (try rw [show 0 * 8 = 0 from rfl] at hx318_7)
                            (try rw [Addr.add_zero'] at hx318_7)
                            replace p318 := eq_true p318
                            replace q318 := eq_true q318
                            have p319 : 0 ≤ (0 : Int) := (by omega)
                            have q319 : 0 < (t313.length : Int) := of_decide_eq_true (by first | (with_reducible assumption) | assumption)
                            obtain ⟨ad319, e319, hx319_0, hx319_1, hx319_2, hx319_3, hx319_4, hx319_5, hx319_6, hx319_7⟩ := at_T35 (Kd.R_reads' HO317.out).2.2 0 p319 q319
                            obtain rfl : ad318 = ad319 := (by injection e319)
                            have qi319 : (0 < t313.length) = True := eq_true (by omega)
                            (try rw [show ((0 : Int)).toNat = 0 from rfl] at hx319_0)
                            (try rw [show 0 * 8 = 0 from rfl] at hx319_0)
                            (try rw [Addr.add_zero'] at hx319_0)
                            (try rw [show ((0 : Int)).toNat = 0 from rfl] at hx319_1)
                            (try rw [show 0 * 8 = 0 from rfl] at hx319_1)
                            (try rw [Addr.add_zero'] at hx319_1)
                            (try rw [show ((0 : Int)).toNat = 0 from rfl] at hx319_2)
                            (try rw [show 0 * 8 = 0 from rfl] at hx319_2)
                            (try rw [Addr.add_zero'] at hx319_2)
                            (try rw [show ((0 : Int)).toNat = 0 from rfl] at hx319_3)
                            (try rw [show 0 * 8 = 0 from rfl] at hx319_3)
                            (try rw [Addr.add_zero'] at hx319_3)
                            (try rw [show ((0 : Int)).toNat = 0 from rfl] at hx319_4)
                            (try rw [show 0 * 8 = 0 from rfl] at hx319_4)
                            (try rw [Addr.add_zero'] at hx319_4)
                            (try rw [show ((0 : Int)).toNat = 0 from rfl] at hx319_5)
                            (try rw [show 0 * 8 = 0 from rfl] at hx319_5)
                            (try rw [Addr.add_zero'] at hx319_5)
                            (try rw [show ((0 : Int)).toNat = 0 from rfl] at hx319_6)
                            (try rw [show 0 * 8 = 0 from rfl] at hx319_6)
                            (try rw [Addr.add_zero'] at hx319_6)
                            (try rw [show ((0 : Int)).toNat = 0 from rfl] at hx319_7)
                            (try rw [show 0 * 8 = 0 from rfl] at hx319_7)
                            (try rw [Addr.add_zero'] at hx319_7)
                            replace p319 := eq_true p319
                            replace q319 := eq_true q319
                            refine start_ (n := 41) (S := fun w' => w'.cell? ⟨gb310, 0, none⟩ = some (.int .i64 ((rd_T35 t303 x40_1).f0)) ∧ w'.cell? ⟨gb310, 1, none⟩ = some (.string ((rd_T35 t303 x40_1).f1)) ∧ w'.cell? ⟨gb310, 2, none⟩ = some (.int .i64 ((rd_T35 t303 x40_1).f2.f0)) ∧ w'.cell? ⟨gb310, 3, none⟩ = some (.int .i64 ((rd_T35 t303 x40_1).f2.f1)) ∧ w'.cell? ⟨gb310, 4, none⟩ = some (.bool ((rd_T35 t303 x40_1).f2.f2)) ∧ w'.cell? ⟨gb310, 5, none⟩ = some (.string ((rd_T35 t303 x40_1).f2.f3)) ∧ w'.cell? ⟨gb310, 6, none⟩ = some (.complex .f64 (((rd_T35 t303 x40_1).f2.f4).re) (((rd_T35 t303 x40_1).f2.f4).im)) ∧ w'.cell? ⟨gb310, 7, none⟩ = some (.int .i64 ((rd_T35 t303 x40_1).f3)) ∧ w'.cell? ad318 = some (.int .i64 ((rd_T35 t313 0).f0)) ∧ w'.cell? ⟨ad318.block, ad318.off + 1, none⟩ = some (.string ((rd_T35 t313 0).f1)) ∧ w'.cell? ⟨ad318.block, ad318.off + 2, none⟩ = some (.int .i64 ((rd_T35 t313 0).f2.f0)) ∧ w'.cell? ⟨ad318.block, ad318.off + 3, none⟩ = some (.int .i64 ((rd_T35 t313 0).f2.f1)) ∧ w'.cell? ⟨ad318.block, ad318.off + 4, none⟩ = some (.bool ((rd_T35 t313 0).f2.f2)) ∧ w'.cell? ⟨ad318.block, ad318.off + 5, none⟩ = some (.string ((rd_T35 t313 0).f2.f3)) ∧ w'.cell? ⟨ad318.block, ad318.off + 6, none⟩ = some (.complex .f64 (((rd_T35 t313 0).f2.f4).re) (((rd_T35 t313 0).f2.f4).im)) ∧ w'.cell? ⟨ad318.block, ad318.off + 7, none⟩ = some (.int .i64 ((rd_T35 t313 0).f3)) ∧ w'.cell? ad318 = some (.int .i64 ((rd_T35 t313 0).f0)) ∧ w'.cell? ⟨ad318.block, ad318.off + 1, none⟩ = some (.string ((rd_T35 t313 0).f1)) ∧ w'.cell? ⟨ad318.block, ad318.off + 2, none⟩ = some (.int .i64 ((rd_T35 t313 0).f2.f0)) ∧ w'.cell? ⟨ad318.block, ad318.off + 3, none⟩ = some (.int .i64 ((rd_T35 t313 0).f2.f1)) ∧ w'.cell? ⟨ad318.block, ad318.off + 4, none⟩ = some (.bool ((rd_T35 t313 0).f2.f2)) ∧ w'.cell? ⟨ad318.block, ad318.off + 5, none⟩ = some (.string ((rd_T35 t313 0).f2.f3)) ∧ w'.cell? ⟨ad318.block, ad318.off + 6, none⟩ = some (.complex .f64 (((rd_T35 t313 0).f2.f4).re) (((rd_T35 t313 0).f2.f4).im)) ∧ w'.cell? ⟨ad318.block, ad318.off + 7, none⟩ = some (.int .i64 ((rd_T35 t313 0).f3))) (ds := []) (bb_ 0 41) (by kernel_rfl) rfl rfl ⟨(blk_cell BK310.out 0).trans rfl, (blk_cell BK310.out 1).trans rfl, (blk_cell BK310.out 2).trans rfl, (blk_cell BK310.out 3).trans rfl, (blk_cell BK310.out 4).trans rfl, (blk_cell BK310.out 5).trans rfl, (blk_cell BK310.out 6).trans rfl, (blk_cell BK310.out 7).trans rfl, hx318_0, hx318_1, hx318_2, hx318_3, hx318_4, hx318_5, hx318_6, hx318_7, hx319_0, hx319_1, hx319_2, hx319_3, hx319_4, hx319_5, hx319_6, hx319_7⟩ (fun hHeld => ?_); refine with_tabW keystonelaw12_LexisLoses.tab22 keystonelaw12_LexisLoses.bits22 (fun HT_ HW_ => ?_)
                            generalize w42.drew = w56 at HO_3 HO_38 HO317 BK310 HB hx318_0 hx318_1 hx318_2 hx318_3 hx318_4 hx318_5 hx318_6 hx318_7 hx319_0 hx319_1 hx319_2 hx319_3 hx319_4 hx319_5 hx319_6 hx319_7 hHeld ⊢
                            refine pure_ (i := 0) (N := some 109) (v := ?_) (a' := ?_) (bb_ 1 40) rfl rfl (any_of HT_.out (by kernel_rfl)) (fun _ _ _ h => h) (Or.inl ⟨by rfl, ?_⟩) ?_ ?_; rotate_left; (· intro w'; go_simp; with_reducible rfl); rotate_left; (· simp only [Act.put, List.setIfInBounds_toArray, List.set_cons_zero, List.set_cons_succ, i64_w, i32_w]; rfl)
                            refine pure_ (i := 1) (N := some 110) (v := ?_) (a' := ?_) (bb_ 2 39) rfl rfl (any_of HT_.out (by kernel_rfl)) (fun _ _ _ h => h) (Or.inl ⟨by rfl, ?_⟩) ?_ ?_; rotate_left; (· intro w'; go_simp; with_reducible rfl); rotate_left; (· simp only [Act.put, List.setIfInBounds_toArray, List.set_cons_zero, List.set_cons_succ, i64_w, i32_w]; rfl)
                            refine pure_ (i := 2) (N := some 111) (v := ?_) (a' := ?_) (bb_ 3 38) rfl rfl (any_of HT_.out (by kernel_rfl)) (fun _ _ _ h => h) (Or.inl ⟨by rfl, ?_⟩) ?_ ?_; rotate_left; (· intro w'; go_simp; with_reducible rfl); rotate_left; (· simp only [Act.put, List.setIfInBounds_toArray, List.set_cons_zero, List.set_cons_succ, i64_w, i32_w]; rfl)
                            refine pure_ (i := 3) (N := some 112) (v := ?_) (a' := ?_) (bb_ 4 37) rfl rfl (any_of HT_.out (by kernel_rfl)) (fun _ _ _ h => h) (Or.inl ⟨by rfl, ?_⟩) ?_ ?_; rotate_left; (· intro w'; go_simp; with_reducible rfl); rotate_left; (· simp only [Act.put, List.setIfInBounds_toArray, List.set_cons_zero, List.set_cons_succ, i64_w, i32_w]; rfl)
                            refine pure_ (i := 4) (N := some 113) (v := ?_) (a' := ?_) (bb_ 5 36) rfl rfl (any_of HT_.out (by kernel_rfl)) (fun _ _ _ h => h) (Or.inl ⟨by rfl, ?_⟩) ?_ ?_; rotate_left; (· intro w'; go_simp; with_reducible rfl); rotate_left; (· simp only [Act.put, List.setIfInBounds_toArray, List.set_cons_zero, List.set_cons_succ, i64_w, i32_w]; rfl)
                            refine pure_ (i := 5) (N := some 114) (v := ?_) (a' := ?_) (bb_ 6 35) rfl rfl (any_of HT_.out (by kernel_rfl)) (fun _ _ _ h => h) (Or.inl ⟨by rfl, ?_⟩) ?_ ?_; rotate_left; (· intro w'; go_simp; with_reducible rfl); rotate_left; (· simp only [Act.put, List.setIfInBounds_toArray, List.set_cons_zero, List.set_cons_succ, i64_w, i32_w]; rfl)
                            refine pure_ (i := 6) (N := some 115) (v := ?_) (a' := ?_) (bb_ 7 34) rfl rfl (any_of HT_.out (by kernel_rfl)) (fun _ _ _ h => h) (Or.inl ⟨by rfl, ?_⟩) ?_ ?_; rotate_left; (· intro w'; go_simp; with_reducible rfl); rotate_left; (· simp only [Act.put, List.setIfInBounds_toArray, List.set_cons_zero, List.set_cons_succ, i64_w, i32_w]; rfl)
                            refine pure_ (i := 7) (N := some 116) (v := ?_) (a' := ?_) (bb_ 8 33) rfl rfl (any_of HT_.out (by kernel_rfl)) (fun _ _ _ h => h) (Or.inl ⟨by rfl, ?_⟩) ?_ ?_; rotate_left; (· intro w'; go_simp; with_reducible rfl); rotate_left; (· simp only [Act.put, List.setIfInBounds_toArray, List.set_cons_zero, List.set_cons_succ, i64_w, i32_w]; rfl)
                            refine pure_ (i := 8) (N := some 117) (v := ?_) (a' := ?_) (bb_ 9 32) rfl rfl (any_of HT_.out (by kernel_rfl)) (fun _ _ _ h => h) (Or.inl ⟨by rfl, ?_⟩) ?_ ?_; rotate_left; (· intro w'; go_simp; with_reducible rfl); rotate_left; (· simp only [Act.put, List.setIfInBounds_toArray, List.set_cons_zero, List.set_cons_succ, i64_w, i32_w]; rfl)
                            refine pure_ (i := 9) (N := some 118) (v := ?_) (a' := ?_) (bb_ 10 31) rfl rfl (any_of HT_.out (by kernel_rfl)) (fun _ _ _ h => h) (Or.inl ⟨by rfl, ?_⟩) ?_ ?_; rotate_left; (· intro w'; go_simp; with_reducible rfl); rotate_left; (· simp only [Act.put, List.setIfInBounds_toArray, List.set_cons_zero, List.set_cons_succ, i64_w, i32_w]; rfl)
                            refine pure_ (i := 10) (N := some 119) (v := ?_) (a' := ?_) (bb_ 11 30) rfl rfl (any_of HT_.out (by kernel_rfl)) (fun _ _ _ h => h) (Or.inl ⟨by rfl, ?_⟩) ?_ ?_; rotate_left; (· intro w'; go_simp; with_reducible rfl); rotate_left; (· simp only [Act.put, List.setIfInBounds_toArray, List.set_cons_zero, List.set_cons_succ, i64_w, i32_w]; rfl)
                            refine pure_ (i := 12) (N := some 121) (v := ?_) (a' := ?_) #[true, true, true, true, true, true, true, true, true, true, true, false, true, false, false, false, false, false, false, false, false, false, false, false, false, false, false, false, false, false, false, false, false, false, false, false, false, false, false, false, false] rfl rfl (any_of HT_.out (by kernel_rfl)) (fun _ _ _ h => h) (Or.inl ⟨by rfl, ?_⟩) ?_ ?_; rotate_left; (· intro w'; go_simp; with_reducible rfl); rotate_left; (· simp only [Act.put, List.setIfInBounds_toArray, List.set_cons_zero, List.set_cons_succ, i64_w, i32_w]; rfl)
                            refine take_ (i := 11) (N := some 120) (v := ?_) (a' := ?_) (bb_ 13 28) rfl rfl (take_ofW HT_.out HW_.out (by kernel_rfl)) (fun _ _ _ h => h) (Or.inl ⟨by rfl, ?_⟩) hHeld ?_ ?_; rotate_left; (· rintro w' ⟨s0, s1, s2, s3, s4, s5, s6, s7, s8, s9, s10, s11, s12, s13, s14, s15, s16, s17, s18, s19, s20, s21, s22, s23⟩; go_simp; with_reducible rfl); rotate_left; (· simp only [Act.put, List.setIfInBounds_toArray, List.set_cons_zero, List.set_cons_succ, i64_w, i32_w]; rfl)
                            refine take_ (i := 13) (N := some 122) (v := ?_) (a' := ?_) (bb_ 14 27) rfl rfl (take_ofW HT_.out HW_.out (by kernel_rfl)) (fun _ _ _ h => h) (Or.inl ⟨by rfl, ?_⟩) hHeld ?_ ?_; rotate_left; (· rintro w' ⟨s0, s1, s2, s3, s4, s5, s6, s7, s8, s9, s10, s11, s12, s13, s14, s15, s16, s17, s18, s19, s20, s21, s22, s23⟩; go_simp; with_reducible rfl); rotate_left; (· simp only [Act.put, List.setIfInBounds_toArray, List.set_cons_zero, List.set_cons_succ, i64_w, i32_w]; rfl)
                            refine pure_ (i := 14) (N := some 123) (v := ?_) (a' := ?_) (bb_ 15 26) rfl rfl (any_of HT_.out (by kernel_rfl)) (fun _ _ _ h => h) (Or.inl ⟨by rfl, ?_⟩) ?_ ?_; rotate_left; (· intro w'; go_simp; with_reducible rfl); rotate_left; (· simp only [Act.put, List.setIfInBounds_toArray, List.set_cons_zero, List.set_cons_succ, i64_w, i32_w]; rfl)
                            refine pure_ (i := 15) (N := some 124) (v := ?_) (a' := ?_) (bb_ 16 25) rfl rfl (any_of HT_.out (by kernel_rfl)) (fun _ _ _ h => h) (Or.inl ⟨by rfl, ?_⟩) ?_ ?_; rotate_left; (· intro w'; go_simp; with_reducible rfl); rotate_left; (· simp only [Act.put, List.setIfInBounds_toArray, List.set_cons_zero, List.set_cons_succ, i64_w, i32_w]; rfl)
                            refine pure_ (i := 16) (N := some 125) (v := ?_) (a' := ?_) (bb_ 17 24) rfl rfl (any_of HT_.out (by kernel_rfl)) (fun _ _ _ h => h) (Or.inl ⟨by rfl, ?_⟩) ?_ ?_; rotate_left; (· intro w'; go_simp; with_reducible rfl); rotate_left; (· simp only [Act.put, List.setIfInBounds_toArray, List.set_cons_zero, List.set_cons_succ, i64_w, i32_w]; rfl)
                            refine pure_ (i := 17) (N := some 126) (v := ?_) (a' := ?_) (bb_ 18 23) rfl rfl (any_of HT_.out (by kernel_rfl)) (fun _ _ _ h => h) (Or.inl ⟨by rfl, ?_⟩) ?_ ?_; rotate_left; (· intro w'; go_simp; with_reducible rfl); rotate_left; (· simp only [Act.put, List.setIfInBounds_toArray, List.set_cons_zero, List.set_cons_succ, i64_w, i32_w]; rfl)
                            refine pure_ (i := 18) (N := some 127) (v := ?_) (a' := ?_) (bb_ 19 22) rfl rfl (any_of HT_.out (by kernel_rfl)) (fun _ _ _ h => h) (Or.inl ⟨by rfl, ?_⟩) ?_ ?_; rotate_left; (· intro w'; go_simp; with_reducible rfl); rotate_left; (· simp only [Act.put, List.setIfInBounds_toArray, List.set_cons_zero, List.set_cons_succ, i64_w, i32_w]; rfl)
                            refine pure_ (i := 19) (N := some 128) (v := ?_) (a' := ?_) (bb_ 20 21) rfl rfl (any_of HT_.out (by kernel_rfl)) (fun _ _ _ h => h) (Or.inl ⟨by rfl, ?_⟩) ?_ ?_; rotate_left; (· intro w'; go_simp; with_reducible rfl); rotate_left; (· simp only [Act.put, List.setIfInBounds_toArray, List.set_cons_zero, List.set_cons_succ, i64_w, i32_w]; rfl)
                            refine pure_ (i := 21) (N := some 130) (v := ?_) (a' := ?_) #[true, true, true, true, true, true, true, true, true, true, true, true, true, true, true, true, true, true, true, true, false, true, false, false, false, false, false, false, false, false, false, false, false, false, false, false, false, false, false, false, false] rfl rfl (any_of HT_.out (by kernel_rfl)) (fun _ _ _ h => h) (Or.inl ⟨by rfl, ?_⟩) ?_ ?_; rotate_left; (· intro w'; go_simp; with_reducible rfl); rotate_left; (· simp only [Act.put, List.setIfInBounds_toArray, List.set_cons_zero, List.set_cons_succ, i64_w, i32_w]; rfl)
                            refine take_ (i := 20) (N := some 129) (v := ?_) (a' := ?_) (bb_ 22 19) rfl rfl (take_ofW HT_.out HW_.out (by kernel_rfl)) (fun _ _ _ h => h) (Or.inl ⟨by rfl, ?_⟩) hHeld ?_ ?_; rotate_left; (· rintro w' ⟨s0, s1, s2, s3, s4, s5, s6, s7, s8, s9, s10, s11, s12, s13, s14, s15, s16, s17, s18, s19, s20, s21, s22, s23⟩; go_simp; with_reducible rfl); rotate_left; (· simp only [Act.put, List.setIfInBounds_toArray, List.set_cons_zero, List.set_cons_succ, i64_w, i32_w]; rfl)
                            refine take_ (i := 22) (N := some 131) (v := ?_) (a' := ?_) (bb_ 23 18) rfl rfl (take_ofW HT_.out HW_.out (by kernel_rfl)) (fun _ _ _ h => h) (Or.inl ⟨by rfl, ?_⟩) hHeld ?_ ?_; rotate_left; (· rintro w' ⟨s0, s1, s2, s3, s4, s5, s6, s7, s8, s9, s10, s11, s12, s13, s14, s15, s16, s17, s18, s19, s20, s21, s22, s23⟩; go_simp; with_reducible rfl); rotate_left; (· simp only [Act.put, List.setIfInBounds_toArray, List.set_cons_zero, List.set_cons_succ, i64_w, i32_w]; rfl)
                            refine pure_ (i := 23) (N := some 132) (v := ?_) (a' := ?_) (bb_ 24 17) rfl rfl (any_of HT_.out (by kernel_rfl)) (fun _ _ _ h => h) (Or.inl ⟨by rfl, ?_⟩) ?_ ?_; rotate_left; (· intro w'; go_simp; with_reducible rfl); rotate_left; (· simp only [Act.put, List.setIfInBounds_toArray, List.set_cons_zero, List.set_cons_succ, i64_w, i32_w]; rfl)
                            refine pure_ (i := 24) (N := some 133) (v := ?_) (a' := ?_) (bb_ 25 16) rfl rfl (any_of HT_.out (by kernel_rfl)) (fun _ _ _ h => h) (Or.inl ⟨by rfl, ?_⟩) ?_ ?_; rotate_left; (· intro w'; go_simp; with_reducible rfl); rotate_left; (· simp only [Act.put, List.setIfInBounds_toArray, List.set_cons_zero, List.set_cons_succ, i64_w, i32_w]; rfl)
                            refine pure_ (i := 25) (N := some 134) (v := ?_) (a' := ?_) (bb_ 26 15) rfl rfl (any_of HT_.out (by kernel_rfl)) (fun _ _ _ h => h) (Or.inl ⟨by rfl, ?_⟩) ?_ ?_; rotate_left; (· intro w'; go_simp; with_reducible rfl); rotate_left; (· simp only [Act.put, List.setIfInBounds_toArray, List.set_cons_zero, List.set_cons_succ, i64_w, i32_w]; rfl)
                            refine pure_ (i := 26) (N := some 135) (v := undef) (a' := ?_) (bb_ 27 14) rfl rfl (any_of HT_.out (by kernel_rfl)) (fun _ _ _ h => h) (Or.inr ⟨by rfl, rfl⟩) ?_ ?_; rotate_left; (· simp only [Act.put, List.setIfInBounds_toArray, List.set_cons_zero, List.set_cons_succ, i64_w, i32_w]; rfl)
                            refine pure_ (i := 27) (N := some 136) (v := undef) (a' := ?_) (bb_ 28 13) rfl rfl (any_of HT_.out (by kernel_rfl)) (fun _ _ _ h => h) (Or.inr ⟨by rfl, rfl⟩) ?_ ?_; rotate_left; (· simp only [Act.put, List.setIfInBounds_toArray, List.set_cons_zero, List.set_cons_succ, i64_w, i32_w]; rfl)
                            refine pure_ (i := 28) (N := some 137) (v := undef) (a' := ?_) (bb_ 29 12) rfl rfl (any_of HT_.out (by kernel_rfl)) (fun _ _ _ h => h) (Or.inr ⟨by rfl, rfl⟩) ?_ ?_; rotate_left; (· simp only [Act.put, List.setIfInBounds_toArray, List.set_cons_zero, List.set_cons_succ, i64_w, i32_w]; rfl)
                            refine pure_ (i := 29) (N := some 138) (v := undef) (a' := ?_) (bb_ 30 11) rfl rfl (any_of HT_.out (by kernel_rfl)) (fun _ _ _ h => h) (Or.inr ⟨by rfl, rfl⟩) ?_ ?_; rotate_left; (· simp only [Act.put, List.setIfInBounds_toArray, List.set_cons_zero, List.set_cons_succ, i64_w, i32_w]; rfl)
                            refine pure_ (i := 30) (N := some 139) (v := undef) (a' := ?_) (bb_ 31 10) rfl rfl (any_of HT_.out (by kernel_rfl)) (fun _ _ _ h => h) (Or.inr ⟨by rfl, rfl⟩) ?_ ?_; rotate_left; (· simp only [Act.put, List.setIfInBounds_toArray, List.set_cons_zero, List.set_cons_succ, i64_w, i32_w]; rfl)
                            refine pure_ (i := 31) (N := some 140) (v := undef) (a' := ?_) (bb_ 32 9) rfl rfl (any_of HT_.out (by kernel_rfl)) (fun _ _ _ h => h) (Or.inr ⟨by rfl, rfl⟩) ?_ ?_; rotate_left; (· simp only [Act.put, List.setIfInBounds_toArray, List.set_cons_zero, List.set_cons_succ, i64_w, i32_w]; rfl)
                            refine pure_ (i := 32) (N := some 141) (v := undef) (a' := ?_) (bb_ 33 8) rfl rfl (any_of HT_.out (by kernel_rfl)) (fun _ _ _ h => h) (Or.inr ⟨by rfl, rfl⟩) ?_ ?_; rotate_left; (· simp only [Act.put, List.setIfInBounds_toArray, List.set_cons_zero, List.set_cons_succ, i64_w, i32_w]; rfl)
                            refine pure_ (i := 33) (N := some 142) (v := ?_) (a' := ?_) (bb_ 34 7) rfl rfl (any_of HT_.out (by kernel_rfl)) (fun _ _ _ h => h) (Or.inl ⟨by rfl, ?_⟩) ?_ ?_; rotate_left; (· intro w'; go_simp; with_reducible rfl); rotate_left; (· simp only [Act.put, List.setIfInBounds_toArray, List.set_cons_zero, List.set_cons_succ, i64_w, i32_w]; rfl)
                            refine pure_ (i := 34) (N := some 143) (v := ?_) (a' := ?_) (bb_ 35 6) rfl rfl (any_of HT_.out (by kernel_rfl)) (fun _ _ _ h => h) (Or.inl ⟨by rfl, ?_⟩) ?_ ?_; rotate_left; (· intro w'; go_simp; with_reducible rfl); rotate_left; (· simp only [Act.put, List.setIfInBounds_toArray, List.set_cons_zero, List.set_cons_succ, i64_w, i32_w]; rfl)
                            refine pure_ (i := 35) (N := some 144) (v := undef) (a' := ?_) (bb_ 36 5) rfl rfl (any_of HT_.out (by kernel_rfl)) (fun _ _ _ h => h) (Or.inr ⟨by rfl, rfl⟩) ?_ ?_; rotate_left; (· simp only [Act.put, List.setIfInBounds_toArray, List.set_cons_zero, List.set_cons_succ, i64_w, i32_w]; rfl)
                            refine pure_ (i := 36) (N := some 145) (v := undef) (a' := ?_) (bb_ 37 4) rfl rfl (any_of HT_.out (by kernel_rfl)) (fun _ _ _ h => h) (Or.inr ⟨by rfl, rfl⟩) ?_ ?_; rotate_left; (· simp only [Act.put, List.setIfInBounds_toArray, List.set_cons_zero, List.set_cons_succ, i64_w, i32_w]; rfl)
                            refine pure_ (i := 37) (N := some 146) (v := undef) (a' := ?_) (bb_ 38 3) rfl rfl (any_of HT_.out (by kernel_rfl)) (fun _ _ _ h => h) (Or.inr ⟨by rfl, rfl⟩) ?_ ?_; rotate_left; (· simp only [Act.put, List.setIfInBounds_toArray, List.set_cons_zero, List.set_cons_succ, i64_w, i32_w]; rfl)
                            refine pure_ (i := 38) (N := some 147) (v := undef) (a' := ?_) (bb_ 39 2) rfl rfl (any_of HT_.out (by kernel_rfl)) (fun _ _ _ h => h) (Or.inr ⟨by rfl, rfl⟩) ?_ ?_; rotate_left; (· simp only [Act.put, List.setIfInBounds_toArray, List.set_cons_zero, List.set_cons_succ, i64_w, i32_w]; rfl)
                            refine pure_ (i := 39) (N := some 148) (v := undef) (a' := ?_) (bb_ 40 1) rfl rfl (any_of HT_.out (by kernel_rfl)) (fun _ _ _ h => h) (Or.inr ⟨by rfl, rfl⟩) ?_ ?_; rotate_left; (· simp only [Act.put, List.setIfInBounds_toArray, List.set_cons_zero, List.set_cons_succ, i64_w, i32_w]; rfl)
                            refine pure_ (i := 40) (N := some 149) (v := ?_) (a' := ?_) (bb_ 41 0) rfl rfl (any_of HT_.out (by kernel_rfl)) (fun _ _ _ h => h) (Or.inl ⟨by rfl, ?_⟩) ?_ ?_; rotate_left; (· intro w'; go_simp; with_reducible rfl); rotate_left; (· simp only [Act.put, List.setIfInBounds_toArray, List.set_cons_zero, List.set_cons_succ, i64_w, i32_w]; rfl)
                            refine done_ (done_of HT_.out (by kernel_rfl)) ?_
                            try go_wp2
                            go_meet
                            case rel => exact ⟨_, (false), (by first | rfl | (simp; done) | (simp [*]; done)), H', ⟨by have := HK1.out; have := HJ11.out; have := HJ24.out; have := HJ28.out; have := HK5.out; first | omega | exact Nat.le_refl _⟩, ⟨by (with_reducible repeat (first | apply Kd.R_alloc | apply Kd.R_drewN | apply Kd.R_drew)); exact Kd.R_mono HO_3.out (fun _ hk => hk.1)⟩, ⟨by (with_reducible repeat (first | apply Kd.R_alloc | apply Kd.R_drewN | apply Kd.R_drew)); exact Kd.R_mono HO_38.out (fun _ hk => hk.1)⟩, ⟨by (with_reducible repeat (first | refine blk_drewN ?_ _ | refine blk_drew ?_ | refine blk_alloc ?_ _)); exact BK310.out⟩, ⟨by repeat (first | (with_reducible first | exact HB.out | apply below_alloc | apply pw_below_drewN | apply below_drew1 | refine below_set ?_ GE310.out) | exact HB.out)⟩⟩
                          rw [if_pos c47] at H
                          have c47b0 : (((rd_T35 t313 0).f1).toList == ((rd_T35 t303 x40_1).f1).toList) = true := beq_iff_eq.mpr c47
                          have c47b1 : (((rd_T35 t313 0).f1).toList != ((rd_T35 t303 x40_1).f1).toList) = false := bne_eq_false_iff_eq.mpr c47
                          clear c47
                          replace H := Option.bind_eq_some_iff.mp H
                          obtain ⟨t321, A480, H⟩ := H
                          replace H : (if t321 = true then (keystonelaw12_LexisLoses.j5 k5 a0 t303 x9_24 x10_5 x11_5 t303 (t303.length : Int) x40_1 (((rd_T35 t313 0).f3) == 0) ((rd_T35 t303 x40_1).f0) ((rd_T35 t303 x40_1).f1) ((rd_T35 t303 x40_1).f2.f0) ((rd_T35 t303 x40_1).f2.f1) ((rd_T35 t303 x40_1).f2.f2) ((rd_T35 t303 x40_1).f2.f3) ((rd_T35 t303 x40_1).f2.f4) ((rd_T35 t303 x40_1).f3)) else (keystonelaw12_LexisLoses.j5 k5 a0 t303 x9_24 x10_5 x11_5 t303 (t303.length : Int) x40_1 false ((rd_T35 t303 x40_1).f0) ((rd_T35 t303 x40_1).f1) ((rd_T35 t303 x40_1).f2.f0) ((rd_T35 t303 x40_1).f2.f1) ((rd_T35 t303 x40_1).f2.f2) ((rd_T35 t303 x40_1).f2.f3) ((rd_T35 t303 x40_1).f2.f4) ((rd_T35 t303 x40_1).f3))) = some r := H
                          have A48 := Aside0.mk A480
                          clear A480
                          by_cases c49 : t321 = true
                          rotate_left
                          · replace c49 := Bool.eq_false_iff.mpr c49
                            subst c49
                            have H1 : (keystonelaw12_LexisLoses.j5 k5 a0 t303 x9_24 x10_5 x11_5 t303 (t303.length : Int) x40_1 false ((rd_T35 t303 x40_1).f0) ((rd_T35 t303 x40_1).f1) ((rd_T35 t303 x40_1).f2.f0) ((rd_T35 t303 x40_1).f2.f1) ((rd_T35 t303 x40_1).f2.f2) ((rd_T35 t303 x40_1).f2.f3) ((rd_T35 t303 x40_1).f2.f4) ((rd_T35 t303 x40_1).f3)) = some r := by rw [if_neg (show ¬ (false = true) by decide)] at H; exact H
                            clear H
                            have H := H1
                            clear H1
                            have H' := Aside0.mk H
                            clear H
                            try go_wp2
                            have n0_ := Aside0.mk (Kd.R_drew HO_3.out)
                            have n1_ := Aside0.mk (Kd.R_drew HO_38.out)
                            have n2_ := Aside0.mk (Kd.R_drew HO317.out)
                            have n3_ := Aside0.mk (blk_drew BK310.out)
                            have n4_ := Aside0.mk (below_drew1 HB.out)
                            clear HO_3
                            clear HO_38
                            clear HO317
                            clear BK310
                            clear HB
                            have HO_3 := n0_
                            have HO_38 := n1_
                            have HO317 := n2_
                            have BK310 := n3_
                            have HB := n4_
                            clear n0_ n1_ n2_ n3_ n4_
                            obtain ⟨Ao54, co54, eo54⟩ := Kd.R_slice HO317.out
                            (first | subst eo54 | (injection eo54 with f1_ f2_ f3_; have f4_ := f1_.symm; have f5_ := f3_.symm; clear f1_ f2_ f3_; subst f4_; subst f5_))
                            have p318 : 0 ≤ (0 : Int) := (by omega)
                            have q318 : 0 < (t313.length : Int) := of_decide_eq_true (by first | (with_reducible assumption) | assumption)
                            obtain ⟨ad318, e318, hx318_0, hx318_1, hx318_2, hx318_3, hx318_4, hx318_5, hx318_6, hx318_7⟩ := at_T35 (Kd.R_reads' HO317.out).2.2 0 p318 q318
                            cases e318
                            have qi318 : (0 < t313.length) = True := eq_true (by omega)
                            (try rw [show ((0 : Int)).toNat = 0 from rfl] at hx318_0)
                            (try rw [show 0 * 8 = 0 from rfl] at hx318_0)
                            (try rw [Addr.add_zero'] at hx318_0)
                            (try rw [show ((0 : Int)).toNat = 0 from rfl] at hx318_1)
                            (try rw [show 0 * 8 = 0 from rfl] at hx318_1)
                            (try rw [Addr.add_zero'] at hx318_1)
                            (try rw [show ((0 : Int)).toNat = 0 from rfl] at hx318_2)
                            (try rw [show 0 * 8 = 0 from rfl] at hx318_2)
                            (try rw [Addr.add_zero'] at hx318_2)
                            (try rw [show ((0 : Int)).toNat = 0 from rfl] at hx318_3)
                            (try rw [show 0 * 8 = 0 from rfl] at hx318_3)
                            (try rw [Addr.add_zero'] at hx318_3)
                            (try rw [show ((0 : Int)).toNat = 0 from rfl] at hx318_4)
                            (try rw [show 0 * 8 = 0 from rfl] at hx318_4)
                            (try rw [Addr.add_zero'] at hx318_4)
                            (try rw [show ((0 : Int)).toNat = 0 from rfl] at hx318_5)
                            (try rw [show 0 * 8 = 0 from rfl] at hx318_5)
                            (try rw [Addr.add_zero'] at hx318_5)
                            (try rw [show ((0 : Int)).toNat = 0 from rfl] at hx318_6)
                            (try rw [show 0 * 8 = 0 from rfl] at hx318_6)
                            (try rw [Addr.add_zero'] at hx318_6)
                            (try rw [show ((0 : Int)).toNat = 0 from rfl] at hx318_7)
                            (try rw [show 0 * 8 = 0 from rfl] at hx318_7)
                            (try rw [Addr.add_zero'] at hx318_7)
                            replace p318 := eq_true p318
                            replace q318 := eq_true q318
                            have p319 : 0 ≤ (0 : Int) := (by omega)
                            have q319 : 0 < (t313.length : Int) := of_decide_eq_true (by first | (with_reducible assumption) | assumption)
                            obtain ⟨ad319, e319, hx319_0, hx319_1, hx319_2, hx319_3, hx319_4, hx319_5, hx319_6, hx319_7⟩ := at_T35 (Kd.R_reads' HO317.out).2.2 0 p319 q319
                            obtain rfl : ad318 = ad319 := (by injection e319)
                            have qi319 : (0 < t313.length) = True := eq_true (by omega)
                            (try rw [show ((0 : Int)).toNat = 0 from rfl] at hx319_0)
                            (try rw [show 0 * 8 = 0 from rfl] at hx319_0)
                            (try rw [Addr.add_zero'] at hx319_0)
                            (try rw [show ((0 : Int)).toNat = 0 from rfl] at hx319_1)
                            (try rw [show 0 * 8 = 0 from rfl] at hx319_1)
                            (try rw [Addr.add_zero'] at hx319_1)
                            (try rw [show ((0 : Int)).toNat = 0 from rfl] at hx319_2)
                            (try rw [show 0 * 8 = 0 from rfl] at hx319_2)
                            (try rw [Addr.add_zero'] at hx319_2)
                            (try rw [show ((0 : Int)).toNat = 0 from rfl] at hx319_3)
                            (try rw [show 0 * 8 = 0 from rfl] at hx319_3)
                            (try rw [Addr.add_zero'] at hx319_3)
                            (try rw [show ((0 : Int)).toNat = 0 from rfl] at hx319_4)
                            (try rw [show 0 * 8 = 0 from rfl] at hx319_4)
                            (try rw [Addr.add_zero'] at hx319_4)
                            (try rw [show ((0 : Int)).toNat = 0 from rfl] at hx319_5)
                            (try rw [show 0 * 8 = 0 from rfl] at hx319_5)
                            (try rw [Addr.add_zero'] at hx319_5)
                            (try rw [show ((0 : Int)).toNat = 0 from rfl] at hx319_6)
                            (try rw [show 0 * 8 = 0 from rfl] at hx319_6)
                            (try rw [Addr.add_zero'] at hx319_6)
                            (try rw [show ((0 : Int)).toNat = 0 from rfl] at hx319_7)
                            (try rw [show 0 * 8 = 0 from rfl] at hx319_7)
                            (try rw [Addr.add_zero'] at hx319_7)
                            replace p319 := eq_true p319
                            replace q319 := eq_true q319
                            have p320 : 0 ≤ (0 : Int) := (by omega)
                            have q320 : 0 < (t313.length : Int) := of_decide_eq_true (by first | (with_reducible assumption) | assumption)
                            obtain ⟨ad320, e320, hx320_0, hx320_1, hx320_2, hx320_3, hx320_4, hx320_5, hx320_6, hx320_7⟩ := at_T35 (Kd.R_reads' HO317.out).2.2 0 p320 q320
                            obtain rfl : ad318 = ad320 := (by injection e320)
                            have qi320 : (0 < t313.length) = True := eq_true (by omega)
                            (try rw [show ((0 : Int)).toNat = 0 from rfl] at hx320_0)
                            (try rw [show 0 * 8 = 0 from rfl] at hx320_0)
                            (try rw [Addr.add_zero'] at hx320_0)
                            (try rw [show ((0 : Int)).toNat = 0 from rfl] at hx320_1)
                            (try rw [show 0 * 8 = 0 from rfl] at hx320_1)
                            (try rw [Addr.add_zero'] at hx320_1)
                            (try rw [show ((0 : Int)).toNat = 0 from rfl] at hx320_2)
                            (try rw [show 0 * 8 = 0 from rfl] at hx320_2)
                            (try rw [Addr.add_zero'] at hx320_2)
                            (try rw [show ((0 : Int)).toNat = 0 from rfl] at hx320_3)
                            (try rw [show 0 * 8 = 0 from rfl] at hx320_3)
                            (try rw [Addr.add_zero'] at hx320_3)
                            (try rw [show ((0 : Int)).toNat = 0 from rfl] at hx320_4)
                            (try rw [show 0 * 8 = 0 from rfl] at hx320_4)
                            (try rw [Addr.add_zero'] at hx320_4)
                            (try rw [show ((0 : Int)).toNat = 0 from rfl] at hx320_5)
                            (try rw [show 0 * 8 = 0 from rfl] at hx320_5)
                            (try rw [Addr.add_zero'] at hx320_5)
                            (try rw [show ((0 : Int)).toNat = 0 from rfl] at hx320_6)
                            (try rw [show 0 * 8 = 0 from rfl] at hx320_6)
                            (try rw [Addr.add_zero'] at hx320_6)
                            (try rw [show ((0 : Int)).toNat = 0 from rfl] at hx320_7)
                            (try rw [show 0 * 8 = 0 from rfl] at hx320_7)
                            (try rw [Addr.add_zero'] at hx320_7)
                            replace p320 := eq_true p320
                            replace q320 := eq_true q320
                            refine start_ (n := 41) (S := fun w' => w'.cell? ⟨gb310, 0, none⟩ = some (.int .i64 ((rd_T35 t303 x40_1).f0)) ∧ w'.cell? ⟨gb310, 1, none⟩ = some (.string ((rd_T35 t303 x40_1).f1)) ∧ w'.cell? ⟨gb310, 2, none⟩ = some (.int .i64 ((rd_T35 t303 x40_1).f2.f0)) ∧ w'.cell? ⟨gb310, 3, none⟩ = some (.int .i64 ((rd_T35 t303 x40_1).f2.f1)) ∧ w'.cell? ⟨gb310, 4, none⟩ = some (.bool ((rd_T35 t303 x40_1).f2.f2)) ∧ w'.cell? ⟨gb310, 5, none⟩ = some (.string ((rd_T35 t303 x40_1).f2.f3)) ∧ w'.cell? ⟨gb310, 6, none⟩ = some (.complex .f64 (((rd_T35 t303 x40_1).f2.f4).re) (((rd_T35 t303 x40_1).f2.f4).im)) ∧ w'.cell? ⟨gb310, 7, none⟩ = some (.int .i64 ((rd_T35 t303 x40_1).f3)) ∧ w'.cell? ad318 = some (.int .i64 ((rd_T35 t313 0).f0)) ∧ w'.cell? ⟨ad318.block, ad318.off + 1, none⟩ = some (.string ((rd_T35 t313 0).f1)) ∧ w'.cell? ⟨ad318.block, ad318.off + 2, none⟩ = some (.int .i64 ((rd_T35 t313 0).f2.f0)) ∧ w'.cell? ⟨ad318.block, ad318.off + 3, none⟩ = some (.int .i64 ((rd_T35 t313 0).f2.f1)) ∧ w'.cell? ⟨ad318.block, ad318.off + 4, none⟩ = some (.bool ((rd_T35 t313 0).f2.f2)) ∧ w'.cell? ⟨ad318.block, ad318.off + 5, none⟩ = some (.string ((rd_T35 t313 0).f2.f3)) ∧ w'.cell? ⟨ad318.block, ad318.off + 6, none⟩ = some (.complex .f64 (((rd_T35 t313 0).f2.f4).re) (((rd_T35 t313 0).f2.f4).im)) ∧ w'.cell? ⟨ad318.block, ad318.off + 7, none⟩ = some (.int .i64 ((rd_T35 t313 0).f3)) ∧ w'.cell? ad318 = some (.int .i64 ((rd_T35 t313 0).f0)) ∧ w'.cell? ⟨ad318.block, ad318.off + 1, none⟩ = some (.string ((rd_T35 t313 0).f1)) ∧ w'.cell? ⟨ad318.block, ad318.off + 2, none⟩ = some (.int .i64 ((rd_T35 t313 0).f2.f0)) ∧ w'.cell? ⟨ad318.block, ad318.off + 3, none⟩ = some (.int .i64 ((rd_T35 t313 0).f2.f1)) ∧ w'.cell? ⟨ad318.block, ad318.off + 4, none⟩ = some (.bool ((rd_T35 t313 0).f2.f2)) ∧ w'.cell? ⟨ad318.block, ad318.off + 5, none⟩ = some (.string ((rd_T35 t313 0).f2.f3)) ∧ w'.cell? ⟨ad318.block, ad318.off + 6, none⟩ = some (.complex .f64 (((rd_T35 t313 0).f2.f4).re) (((rd_T35 t313 0).f2.f4).im)) ∧ w'.cell? ⟨ad318.block, ad318.off + 7, none⟩ = some (.int .i64 ((rd_T35 t313 0).f3)) ∧ w'.cell? ad318 = some (.int .i64 ((rd_T35 t313 0).f0)) ∧ w'.cell? ⟨ad318.block, ad318.off + 1, none⟩ = some (.string ((rd_T35 t313 0).f1)) ∧ w'.cell? ⟨ad318.block, ad318.off + 2, none⟩ = some (.int .i64 ((rd_T35 t313 0).f2.f0)) ∧ w'.cell? ⟨ad318.block, ad318.off + 3, none⟩ = some (.int .i64 ((rd_T35 t313 0).f2.f1)) ∧ w'.cell? ⟨ad318.block, ad318.off + 4, none⟩ = some (.bool ((rd_T35 t313 0).f2.f2)) ∧ w'.cell? ⟨ad318.block, ad318.off + 5, none⟩ = some (.string ((rd_T35 t313 0).f2.f3)) ∧ w'.cell? ⟨ad318.block, ad318.off + 6, none⟩ = some (.complex .f64 (((rd_T35 t313 0).f2.f4).re) (((rd_T35 t313 0).f2.f4).im)) ∧ w'.cell? ⟨ad318.block, ad318.off + 7, none⟩ = some (.int .i64 ((rd_T35 t313 0).f3))) (ds := []) (bb_ 0 41) (by kernel_rfl) rfl rfl ⟨(blk_cell BK310.out 0).trans rfl, (blk_cell BK310.out 1).trans rfl, (blk_cell BK310.out 2).trans rfl, (blk_cell BK310.out 3).trans rfl, (blk_cell BK310.out 4).trans rfl, (blk_cell BK310.out 5).trans rfl, (blk_cell BK310.out 6).trans rfl, (blk_cell BK310.out 7).trans rfl, hx318_0, hx318_1, hx318_2, hx318_3, hx318_4, hx318_5, hx318_6, hx318_7, hx319_0, hx319_1, hx319_2, hx319_3, hx319_4, hx319_5, hx319_6, hx319_7, hx320_0, hx320_1, hx320_2, hx320_3, hx320_4, hx320_5, hx320_6, hx320_7⟩ (fun hHeld => ?_); refine with_tabW keystonelaw12_LexisLoses.tab22 keystonelaw12_LexisLoses.bits22 (fun HT_ HW_ => ?_)
                            generalize w42.drew = w53 at HO_3 HO_38 HO317 BK310 HB hx318_0 hx318_1 hx318_2 hx318_3 hx318_4 hx318_5 hx318_6 hx318_7 hx319_0 hx319_1 hx319_2 hx319_3 hx319_4 hx319_5 hx319_6 hx319_7 hx320_0 hx320_1 hx320_2 hx320_3 hx320_4 hx320_5 hx320_6 hx320_7 hHeld ⊢
                            refine pure_ (i := 0) (N := some 109) (v := ?_) (a' := ?_) (bb_ 1 40) rfl rfl (any_of HT_.out (by kernel_rfl)) (fun _ _ _ h => h) (Or.inl ⟨by rfl, ?_⟩) ?_ ?_; rotate_left; (· intro w'; go_simp; with_reducible rfl); rotate_left; (· simp only [Act.put, List.setIfInBounds_toArray, List.set_cons_zero, List.set_cons_succ, i64_w, i32_w]; rfl)
                            refine pure_ (i := 1) (N := some 110) (v := ?_) (a' := ?_) (bb_ 2 39) rfl rfl (any_of HT_.out (by kernel_rfl)) (fun _ _ _ h => h) (Or.inl ⟨by rfl, ?_⟩) ?_ ?_; rotate_left; (· intro w'; go_simp; with_reducible rfl); rotate_left; (· simp only [Act.put, List.setIfInBounds_toArray, List.set_cons_zero, List.set_cons_succ, i64_w, i32_w]; rfl)
                            refine pure_ (i := 2) (N := some 111) (v := ?_) (a' := ?_) (bb_ 3 38) rfl rfl (any_of HT_.out (by kernel_rfl)) (fun _ _ _ h => h) (Or.inl ⟨by rfl, ?_⟩) ?_ ?_; rotate_left; (· intro w'; go_simp; with_reducible rfl); rotate_left; (· simp only [Act.put, List.setIfInBounds_toArray, List.set_cons_zero, List.set_cons_succ, i64_w, i32_w]; rfl)
                            refine pure_ (i := 3) (N := some 112) (v := ?_) (a' := ?_) (bb_ 4 37) rfl rfl (any_of HT_.out (by kernel_rfl)) (fun _ _ _ h => h) (Or.inl ⟨by rfl, ?_⟩) ?_ ?_; rotate_left; (· intro w'; go_simp; with_reducible rfl); rotate_left; (· simp only [Act.put, List.setIfInBounds_toArray, List.set_cons_zero, List.set_cons_succ, i64_w, i32_w]; rfl)
                            refine pure_ (i := 4) (N := some 113) (v := ?_) (a' := ?_) (bb_ 5 36) rfl rfl (any_of HT_.out (by kernel_rfl)) (fun _ _ _ h => h) (Or.inl ⟨by rfl, ?_⟩) ?_ ?_; rotate_left; (· intro w'; go_simp; with_reducible rfl); rotate_left; (· simp only [Act.put, List.setIfInBounds_toArray, List.set_cons_zero, List.set_cons_succ, i64_w, i32_w]; rfl)
                            refine pure_ (i := 5) (N := some 114) (v := ?_) (a' := ?_) (bb_ 6 35) rfl rfl (any_of HT_.out (by kernel_rfl)) (fun _ _ _ h => h) (Or.inl ⟨by rfl, ?_⟩) ?_ ?_; rotate_left; (· intro w'; go_simp; with_reducible rfl); rotate_left; (· simp only [Act.put, List.setIfInBounds_toArray, List.set_cons_zero, List.set_cons_succ, i64_w, i32_w]; rfl)
                            refine pure_ (i := 6) (N := some 115) (v := ?_) (a' := ?_) (bb_ 7 34) rfl rfl (any_of HT_.out (by kernel_rfl)) (fun _ _ _ h => h) (Or.inl ⟨by rfl, ?_⟩) ?_ ?_; rotate_left; (· intro w'; go_simp; with_reducible rfl); rotate_left; (· simp only [Act.put, List.setIfInBounds_toArray, List.set_cons_zero, List.set_cons_succ, i64_w, i32_w]; rfl)
                            refine pure_ (i := 7) (N := some 116) (v := ?_) (a' := ?_) (bb_ 8 33) rfl rfl (any_of HT_.out (by kernel_rfl)) (fun _ _ _ h => h) (Or.inl ⟨by rfl, ?_⟩) ?_ ?_; rotate_left; (· intro w'; go_simp; with_reducible rfl); rotate_left; (· simp only [Act.put, List.setIfInBounds_toArray, List.set_cons_zero, List.set_cons_succ, i64_w, i32_w]; rfl)
                            refine pure_ (i := 8) (N := some 117) (v := ?_) (a' := ?_) (bb_ 9 32) rfl rfl (any_of HT_.out (by kernel_rfl)) (fun _ _ _ h => h) (Or.inl ⟨by rfl, ?_⟩) ?_ ?_; rotate_left; (· intro w'; go_simp; with_reducible rfl); rotate_left; (· simp only [Act.put, List.setIfInBounds_toArray, List.set_cons_zero, List.set_cons_succ, i64_w, i32_w]; rfl)
                            refine pure_ (i := 9) (N := some 118) (v := ?_) (a' := ?_) (bb_ 10 31) rfl rfl (any_of HT_.out (by kernel_rfl)) (fun _ _ _ h => h) (Or.inl ⟨by rfl, ?_⟩) ?_ ?_; rotate_left; (· intro w'; go_simp; with_reducible rfl); rotate_left; (· simp only [Act.put, List.setIfInBounds_toArray, List.set_cons_zero, List.set_cons_succ, i64_w, i32_w]; rfl)
                            refine pure_ (i := 10) (N := some 119) (v := ?_) (a' := ?_) (bb_ 11 30) rfl rfl (any_of HT_.out (by kernel_rfl)) (fun _ _ _ h => h) (Or.inl ⟨by rfl, ?_⟩) ?_ ?_; rotate_left; (· intro w'; go_simp; with_reducible rfl); rotate_left; (· simp only [Act.put, List.setIfInBounds_toArray, List.set_cons_zero, List.set_cons_succ, i64_w, i32_w]; rfl)
                            refine pure_ (i := 12) (N := some 121) (v := ?_) (a' := ?_) #[true, true, true, true, true, true, true, true, true, true, true, false, true, false, false, false, false, false, false, false, false, false, false, false, false, false, false, false, false, false, false, false, false, false, false, false, false, false, false, false, false] rfl rfl (any_of HT_.out (by kernel_rfl)) (fun _ _ _ h => h) (Or.inl ⟨by rfl, ?_⟩) ?_ ?_; rotate_left; (· intro w'; go_simp; with_reducible rfl); rotate_left; (· simp only [Act.put, List.setIfInBounds_toArray, List.set_cons_zero, List.set_cons_succ, i64_w, i32_w]; rfl)
                            refine take_ (i := 11) (N := some 120) (v := ?_) (a' := ?_) (bb_ 13 28) rfl rfl (take_ofW HT_.out HW_.out (by kernel_rfl)) (fun _ _ _ h => h) (Or.inl ⟨by rfl, ?_⟩) hHeld ?_ ?_; rotate_left; (· rintro w' ⟨s0, s1, s2, s3, s4, s5, s6, s7, s8, s9, s10, s11, s12, s13, s14, s15, s16, s17, s18, s19, s20, s21, s22, s23, s24, s25, s26, s27, s28, s29, s30, s31⟩; go_simp; with_reducible rfl); rotate_left; (· simp only [Act.put, List.setIfInBounds_toArray, List.set_cons_zero, List.set_cons_succ, i64_w, i32_w]; rfl)
                            refine take_ (i := 13) (N := some 122) (v := ?_) (a' := ?_) (bb_ 14 27) rfl rfl (take_ofW HT_.out HW_.out (by kernel_rfl)) (fun _ _ _ h => h) (Or.inl ⟨by rfl, ?_⟩) hHeld ?_ ?_; rotate_left; (· rintro w' ⟨s0, s1, s2, s3, s4, s5, s6, s7, s8, s9, s10, s11, s12, s13, s14, s15, s16, s17, s18, s19, s20, s21, s22, s23, s24, s25, s26, s27, s28, s29, s30, s31⟩; go_simp; with_reducible rfl); rotate_left; (· simp only [Act.put, List.setIfInBounds_toArray, List.set_cons_zero, List.set_cons_succ, i64_w, i32_w]; rfl)
                            refine pure_ (i := 14) (N := some 123) (v := ?_) (a' := ?_) (bb_ 15 26) rfl rfl (any_of HT_.out (by kernel_rfl)) (fun _ _ _ h => h) (Or.inl ⟨by rfl, ?_⟩) ?_ ?_; rotate_left; (· intro w'; go_simp; with_reducible rfl); rotate_left; (· simp only [Act.put, List.setIfInBounds_toArray, List.set_cons_zero, List.set_cons_succ, i64_w, i32_w]; rfl)
                            refine pure_ (i := 15) (N := some 124) (v := ?_) (a' := ?_) (bb_ 16 25) rfl rfl (any_of HT_.out (by kernel_rfl)) (fun _ _ _ h => h) (Or.inl ⟨by rfl, ?_⟩) ?_ ?_; rotate_left; (· intro w'; go_simp; with_reducible rfl); rotate_left; (· simp only [Act.put, List.setIfInBounds_toArray, List.set_cons_zero, List.set_cons_succ, i64_w, i32_w]; rfl)
                            refine pure_ (i := 16) (N := some 125) (v := ?_) (a' := ?_) (bb_ 17 24) rfl rfl (any_of HT_.out (by kernel_rfl)) (fun _ _ _ h => h) (Or.inl ⟨by rfl, ?_⟩) ?_ ?_; rotate_left; (· intro w'; go_simp; with_reducible rfl); rotate_left; (· simp only [Act.put, List.setIfInBounds_toArray, List.set_cons_zero, List.set_cons_succ, i64_w, i32_w]; rfl)
                            refine pure_ (i := 17) (N := some 126) (v := ?_) (a' := ?_) (bb_ 18 23) rfl rfl (any_of HT_.out (by kernel_rfl)) (fun _ _ _ h => h) (Or.inl ⟨by rfl, ?_⟩) ?_ ?_; rotate_left; (· intro w'; go_simp; with_reducible rfl); rotate_left; (· simp only [Act.put, List.setIfInBounds_toArray, List.set_cons_zero, List.set_cons_succ, i64_w, i32_w]; rfl)
                            refine pure_ (i := 18) (N := some 127) (v := ?_) (a' := ?_) (bb_ 19 22) rfl rfl (any_of HT_.out (by kernel_rfl)) (fun _ _ _ h => h) (Or.inl ⟨by rfl, ?_⟩) ?_ ?_; rotate_left; (· intro w'; go_simp; with_reducible rfl); rotate_left; (· simp only [Act.put, List.setIfInBounds_toArray, List.set_cons_zero, List.set_cons_succ, i64_w, i32_w]; rfl)
                            refine pure_ (i := 19) (N := some 128) (v := ?_) (a' := ?_) (bb_ 20 21) rfl rfl (any_of HT_.out (by kernel_rfl)) (fun _ _ _ h => h) (Or.inl ⟨by rfl, ?_⟩) ?_ ?_; rotate_left; (· intro w'; go_simp; with_reducible rfl); rotate_left; (· simp only [Act.put, List.setIfInBounds_toArray, List.set_cons_zero, List.set_cons_succ, i64_w, i32_w]; rfl)
                            refine pure_ (i := 21) (N := some 130) (v := ?_) (a' := ?_) #[true, true, true, true, true, true, true, true, true, true, true, true, true, true, true, true, true, true, true, true, false, true, false, false, false, false, false, false, false, false, false, false, false, false, false, false, false, false, false, false, false] rfl rfl (any_of HT_.out (by kernel_rfl)) (fun _ _ _ h => h) (Or.inl ⟨by rfl, ?_⟩) ?_ ?_; rotate_left; (· intro w'; go_simp; with_reducible rfl); rotate_left; (· simp only [Act.put, List.setIfInBounds_toArray, List.set_cons_zero, List.set_cons_succ, i64_w, i32_w]; rfl)
                            refine take_ (i := 20) (N := some 129) (v := ?_) (a' := ?_) (bb_ 22 19) rfl rfl (take_ofW HT_.out HW_.out (by kernel_rfl)) (fun _ _ _ h => h) (Or.inl ⟨by rfl, ?_⟩) hHeld ?_ ?_; rotate_left; (· rintro w' ⟨s0, s1, s2, s3, s4, s5, s6, s7, s8, s9, s10, s11, s12, s13, s14, s15, s16, s17, s18, s19, s20, s21, s22, s23, s24, s25, s26, s27, s28, s29, s30, s31⟩; go_simp; with_reducible rfl); rotate_left; (· simp only [Act.put, List.setIfInBounds_toArray, List.set_cons_zero, List.set_cons_succ, i64_w, i32_w]; rfl)
                            refine take_ (i := 22) (N := some 131) (v := ?_) (a' := ?_) (bb_ 23 18) rfl rfl (take_ofW HT_.out HW_.out (by kernel_rfl)) (fun _ _ _ h => h) (Or.inl ⟨by rfl, ?_⟩) hHeld ?_ ?_; rotate_left; (· rintro w' ⟨s0, s1, s2, s3, s4, s5, s6, s7, s8, s9, s10, s11, s12, s13, s14, s15, s16, s17, s18, s19, s20, s21, s22, s23, s24, s25, s26, s27, s28, s29, s30, s31⟩; go_simp; with_reducible rfl); rotate_left; (· simp only [Act.put, List.setIfInBounds_toArray, List.set_cons_zero, List.set_cons_succ, i64_w, i32_w]; rfl)
                            refine pure_ (i := 23) (N := some 132) (v := ?_) (a' := ?_) (bb_ 24 17) rfl rfl (any_of HT_.out (by kernel_rfl)) (fun _ _ _ h => h) (Or.inl ⟨by rfl, ?_⟩) ?_ ?_; rotate_left; (· intro w'; go_simp; with_reducible rfl); rotate_left; (· simp only [Act.put, List.setIfInBounds_toArray, List.set_cons_zero, List.set_cons_succ, i64_w, i32_w]; rfl)
                            refine pure_ (i := 24) (N := some 133) (v := ?_) (a' := ?_) (bb_ 25 16) rfl rfl (any_of HT_.out (by kernel_rfl)) (fun _ _ _ h => h) (Or.inl ⟨by rfl, ?_⟩) ?_ ?_; rotate_left; (· intro w'; go_simp; with_reducible rfl); rotate_left; (· simp only [Act.put, List.setIfInBounds_toArray, List.set_cons_zero, List.set_cons_succ, i64_w, i32_w]; rfl)
                            refine pure_ (i := 25) (N := some 134) (v := ?_) (a' := ?_) (bb_ 26 15) rfl rfl (any_of HT_.out (by kernel_rfl)) (fun _ _ _ h => h) (Or.inl ⟨by rfl, ?_⟩) ?_ ?_; rotate_left; (· intro w'; go_simp; with_reducible rfl); rotate_left; (· simp only [Act.put, List.setIfInBounds_toArray, List.set_cons_zero, List.set_cons_succ, i64_w, i32_w]; rfl)
                            refine pure_ (i := 26) (N := some 135) (v := ?_) (a' := ?_) (bb_ 27 14) rfl rfl (any_of HT_.out (by kernel_rfl)) (fun _ _ _ h => h) (Or.inl ⟨by rfl, ?_⟩) ?_ ?_; rotate_left; (· intro w'; go_simp; with_reducible rfl); rotate_left; (· simp only [Act.put, List.setIfInBounds_toArray, List.set_cons_zero, List.set_cons_succ, i64_w, i32_w]; rfl)
                            refine pure_ (i := 27) (N := some 136) (v := ?_) (a' := ?_) (bb_ 28 13) rfl rfl (any_of HT_.out (by kernel_rfl)) (fun _ _ _ h => h) (Or.inl ⟨by rfl, ?_⟩) ?_ ?_; rotate_left; (· intro w'; go_simp; with_reducible rfl); rotate_left; (· simp only [Act.put, List.setIfInBounds_toArray, List.set_cons_zero, List.set_cons_succ, i64_w, i32_w]; rfl)
                            refine pure_ (i := 28) (N := some 137) (v := ?_) (a' := ?_) (bb_ 29 12) rfl rfl (any_of HT_.out (by kernel_rfl)) (fun _ _ _ h => h) (Or.inl ⟨by rfl, ?_⟩) ?_ ?_; rotate_left; (· intro w'; go_simp; with_reducible rfl); rotate_left; (· simp only [Act.put, List.setIfInBounds_toArray, List.set_cons_zero, List.set_cons_succ, i64_w, i32_w]; rfl)
                            refine pure_ (i := 30) (N := some 139) (v := ?_) (a' := ?_) #[true, true, true, true, true, true, true, true, true, true, true, true, true, true, true, true, true, true, true, true, true, true, true, true, true, true, true, true, true, false, true, false, false, false, false, false, false, false, false, false, false] rfl rfl (any_of HT_.out (by kernel_rfl)) (fun _ _ _ h => h) (Or.inl ⟨by rfl, ?_⟩) ?_ ?_; rotate_left; (· intro w'; go_simp; with_reducible rfl); rotate_left; (· simp only [Act.put, List.setIfInBounds_toArray, List.set_cons_zero, List.set_cons_succ, i64_w, i32_w]; rfl)
                            refine take_ (i := 29) (N := some 138) (v := ?_) (a' := ?_) (bb_ 31 10) rfl rfl (take_ofW HT_.out HW_.out (by kernel_rfl)) (fun _ _ _ h => h) (Or.inl ⟨by rfl, ?_⟩) hHeld ?_ ?_; rotate_left; (· rintro w' ⟨s0, s1, s2, s3, s4, s5, s6, s7, s8, s9, s10, s11, s12, s13, s14, s15, s16, s17, s18, s19, s20, s21, s22, s23, s24, s25, s26, s27, s28, s29, s30, s31⟩; go_simp; with_reducible rfl); rotate_left; (· simp only [Act.put, List.setIfInBounds_toArray, List.set_cons_zero, List.set_cons_succ, i64_w, i32_w]; rfl)
                            refine take_ (i := 31) (N := some 140) (v := ?_) (a' := ?_) (bb_ 32 9) rfl rfl (take_ofW HT_.out HW_.out (by kernel_rfl)) (fun _ _ _ h => h) (Or.inl ⟨by rfl, ?_⟩) hHeld ?_ ?_; rotate_left; (· rintro w' ⟨s0, s1, s2, s3, s4, s5, s6, s7, s8, s9, s10, s11, s12, s13, s14, s15, s16, s17, s18, s19, s20, s21, s22, s23, s24, s25, s26, s27, s28, s29, s30, s31⟩; go_simp; with_reducible rfl); rotate_left; (· simp only [Act.put, List.setIfInBounds_toArray, List.set_cons_zero, List.set_cons_succ, i64_w, i32_w]; rfl)
                            refine one_ (i := 32) (N := some 141) (bb_ 33 8) rfl rfl (one_of HT_.out (by kernel_rfl)) (by decide) (fun K hK => ?_)
                            refine goes_ Tryd.func18 (by kernel_rfl) rfl #[.agg #[.int .i64 ((rd_T35 t313 0).f2.f0), .int .i64 ((rd_T35 t313 0).f2.f1), .bool ((rd_T35 t313 0).f2.f2), .string ((rd_T35 t313 0).f2.f3), .complex .f64 (((rd_T35 t313 0).f2.f4).re) (((rd_T35 t313 0).f2.f4).im)], .agg #[.int .i64 ((rd_T35 t303 x40_1).f2.f0), .int .i64 ((rd_T35 t303 x40_1).f2.f1), .bool ((rd_T35 t303 x40_1).f2.f2), .string ((rd_T35 t303 x40_1).f2.f3), .complex .f64 (((rd_T35 t303 x40_1).f2.f4).re) (((rd_T35 t303 x40_1).f2.f4).im)]] (by rfl) rfl rfl (by (try simp only [List.map_toArray, List.map_cons, List.map_nil]); first | done | rfl | (simp only [List.length_drop, List.length_take]; rfl)) ?_
                            with_reducible refine (keystoneref04_SameValue.calls ((rd_T35 t313 0).f2.f0) ((rd_T35 t313 0).f2.f1) ((rd_T35 t313 0).f2.f2) ((rd_T35 t313 0).f2.f3) ((rd_T35 t313 0).f2.f4) ((rd_T35 t303 x40_1).f2.f0) ((rd_T35 t303 x40_1).f2.f1) ((rd_T35 t303 x40_1).f2.f2) ((rd_T35 t303 x40_1).f2.f3) ((rd_T35 t303 x40_1).f2.f4) false _ A48.out).mono ?_
                            rintro e w55 ⟨rfl, hb⟩
                            have HS8_ := (hb.cell (World.block_lt_of_cell? _ _ (hHeld.2.2.2.2.2.2.2.2.1))).trans (hHeld.2.2.2.2.2.2.2.2.1)
                            have HS9_ := (hb.cell (World.block_lt_of_cell? _ _ (hHeld.2.2.2.2.2.2.2.2.2.1))).trans (hHeld.2.2.2.2.2.2.2.2.2.1)
                            have HS10_ := (hb.cell (World.block_lt_of_cell? _ _ (hHeld.2.2.2.2.2.2.2.2.2.2.1))).trans (hHeld.2.2.2.2.2.2.2.2.2.2.1)
                            have HS11_ := (hb.cell (World.block_lt_of_cell? _ _ (hHeld.2.2.2.2.2.2.2.2.2.2.2.1))).trans (hHeld.2.2.2.2.2.2.2.2.2.2.2.1)
                            have HS12_ := (hb.cell (World.block_lt_of_cell? _ _ (hHeld.2.2.2.2.2.2.2.2.2.2.2.2.1))).trans (hHeld.2.2.2.2.2.2.2.2.2.2.2.2.1)
                            have HS13_ := (hb.cell (World.block_lt_of_cell? _ _ (hHeld.2.2.2.2.2.2.2.2.2.2.2.2.2.1))).trans (hHeld.2.2.2.2.2.2.2.2.2.2.2.2.2.1)
                            have HS14_ := (hb.cell (World.block_lt_of_cell? _ _ (hHeld.2.2.2.2.2.2.2.2.2.2.2.2.2.2.1))).trans (hHeld.2.2.2.2.2.2.2.2.2.2.2.2.2.2.1)
                            have HS15_ := (hb.cell (World.block_lt_of_cell? _ _ (hHeld.2.2.2.2.2.2.2.2.2.2.2.2.2.2.2.1))).trans (hHeld.2.2.2.2.2.2.2.2.2.2.2.2.2.2.2.1)
                            have HS16_ := (hb.cell (World.block_lt_of_cell? _ _ (hHeld.2.2.2.2.2.2.2.2.2.2.2.2.2.2.2.2.1))).trans (hHeld.2.2.2.2.2.2.2.2.2.2.2.2.2.2.2.2.1)
                            have HS17_ := (hb.cell (World.block_lt_of_cell? _ _ (hHeld.2.2.2.2.2.2.2.2.2.2.2.2.2.2.2.2.2.1))).trans (hHeld.2.2.2.2.2.2.2.2.2.2.2.2.2.2.2.2.2.1)
                            have HS18_ := (hb.cell (World.block_lt_of_cell? _ _ (hHeld.2.2.2.2.2.2.2.2.2.2.2.2.2.2.2.2.2.2.1))).trans (hHeld.2.2.2.2.2.2.2.2.2.2.2.2.2.2.2.2.2.2.1)
                            have HS19_ := (hb.cell (World.block_lt_of_cell? _ _ (hHeld.2.2.2.2.2.2.2.2.2.2.2.2.2.2.2.2.2.2.2.1))).trans (hHeld.2.2.2.2.2.2.2.2.2.2.2.2.2.2.2.2.2.2.2.1)
                            have HS20_ := (hb.cell (World.block_lt_of_cell? _ _ (hHeld.2.2.2.2.2.2.2.2.2.2.2.2.2.2.2.2.2.2.2.2.1))).trans (hHeld.2.2.2.2.2.2.2.2.2.2.2.2.2.2.2.2.2.2.2.2.1)
                            have HS21_ := (hb.cell (World.block_lt_of_cell? _ _ (hHeld.2.2.2.2.2.2.2.2.2.2.2.2.2.2.2.2.2.2.2.2.2.1))).trans (hHeld.2.2.2.2.2.2.2.2.2.2.2.2.2.2.2.2.2.2.2.2.2.1)
                            have HS22_ := (hb.cell (World.block_lt_of_cell? _ _ (hHeld.2.2.2.2.2.2.2.2.2.2.2.2.2.2.2.2.2.2.2.2.2.2.1))).trans (hHeld.2.2.2.2.2.2.2.2.2.2.2.2.2.2.2.2.2.2.2.2.2.2.1)
                            have HS23_ := (hb.cell (World.block_lt_of_cell? _ _ (hHeld.2.2.2.2.2.2.2.2.2.2.2.2.2.2.2.2.2.2.2.2.2.2.2.1))).trans (hHeld.2.2.2.2.2.2.2.2.2.2.2.2.2.2.2.2.2.2.2.2.2.2.2.1)
                            have HS24_ := (hb.cell (World.block_lt_of_cell? _ _ (hHeld.2.2.2.2.2.2.2.2.2.2.2.2.2.2.2.2.2.2.2.2.2.2.2.2.1))).trans (hHeld.2.2.2.2.2.2.2.2.2.2.2.2.2.2.2.2.2.2.2.2.2.2.2.2.1)
                            have HS25_ := (hb.cell (World.block_lt_of_cell? _ _ (hHeld.2.2.2.2.2.2.2.2.2.2.2.2.2.2.2.2.2.2.2.2.2.2.2.2.2.1))).trans (hHeld.2.2.2.2.2.2.2.2.2.2.2.2.2.2.2.2.2.2.2.2.2.2.2.2.2.1)
                            have HS26_ := (hb.cell (World.block_lt_of_cell? _ _ (hHeld.2.2.2.2.2.2.2.2.2.2.2.2.2.2.2.2.2.2.2.2.2.2.2.2.2.2.1))).trans (hHeld.2.2.2.2.2.2.2.2.2.2.2.2.2.2.2.2.2.2.2.2.2.2.2.2.2.2.1)
                            have HS27_ := (hb.cell (World.block_lt_of_cell? _ _ (hHeld.2.2.2.2.2.2.2.2.2.2.2.2.2.2.2.2.2.2.2.2.2.2.2.2.2.2.2.1))).trans (hHeld.2.2.2.2.2.2.2.2.2.2.2.2.2.2.2.2.2.2.2.2.2.2.2.2.2.2.2.1)
                            have HS28_ := (hb.cell (World.block_lt_of_cell? _ _ (hHeld.2.2.2.2.2.2.2.2.2.2.2.2.2.2.2.2.2.2.2.2.2.2.2.2.2.2.2.2.1))).trans (hHeld.2.2.2.2.2.2.2.2.2.2.2.2.2.2.2.2.2.2.2.2.2.2.2.2.2.2.2.2.1)
                            have HS29_ := (hb.cell (World.block_lt_of_cell? _ _ (hHeld.2.2.2.2.2.2.2.2.2.2.2.2.2.2.2.2.2.2.2.2.2.2.2.2.2.2.2.2.2.1))).trans (hHeld.2.2.2.2.2.2.2.2.2.2.2.2.2.2.2.2.2.2.2.2.2.2.2.2.2.2.2.2.2.1)
                            have HS30_ := (hb.cell (World.block_lt_of_cell? _ _ (hHeld.2.2.2.2.2.2.2.2.2.2.2.2.2.2.2.2.2.2.2.2.2.2.2.2.2.2.2.2.2.2.1))).trans (hHeld.2.2.2.2.2.2.2.2.2.2.2.2.2.2.2.2.2.2.2.2.2.2.2.2.2.2.2.2.2.2.1)
                            have HS31_ := (hb.cell (World.block_lt_of_cell? _ _ (hHeld.2.2.2.2.2.2.2.2.2.2.2.2.2.2.2.2.2.2.2.2.2.2.2.2.2.2.2.2.2.2.2))).trans (hHeld.2.2.2.2.2.2.2.2.2.2.2.2.2.2.2.2.2.2.2.2.2.2.2.2.2.2.2.2.2.2.2)
                            refine ⟨_, rfl, ?_⟩
                            have n0_ := Aside0.mk (Kd.R_below (by (with_reducible repeat (first | apply Kd.R_alloc | apply Kd.R_drewN | apply Kd.R_drew)); exact HO_3.out) hb)
                            have n1_ := Aside0.mk (Kd.R_below (by (with_reducible repeat (first | apply Kd.R_alloc | apply Kd.R_drewN | apply Kd.R_drew)); exact HO_38.out) hb)
                            have n2_ := Aside0.mk (Kd.R_below (by (with_reducible repeat (first | apply Kd.R_alloc | apply Kd.R_drewN | apply Kd.R_drew)); exact HO317.out) hb)
                            have n3_ := Aside0.mk (blk_below (g := gb310) (o := .cells #[.int .i64 ((rd_T35 t303 x40_1).f0), .string ((rd_T35 t303 x40_1).f1), .int .i64 ((rd_T35 t303 x40_1).f2.f0), .int .i64 ((rd_T35 t303 x40_1).f2.f1), .bool ((rd_T35 t303 x40_1).f2.f2), .string ((rd_T35 t303 x40_1).f2.f3), .complex .f64 (((rd_T35 t303 x40_1).f2.f4).re) (((rd_T35 t303 x40_1).f2.f4).im), .int .i64 ((rd_T35 t303 x40_1).f3)] 35 (0, 0)) (by (with_reducible repeat (first | refine blk_drewN ?_ _ | refine blk_drew ?_ | refine blk_alloc ?_ _)); exact BK310.out) hb)
                            have n4_ := Aside0.mk (below_step (by repeat (first | (with_reducible first | exact HB.out | apply below_alloc | apply pw_below_drewN | apply below_drew1 | refine below_set ?_ GE310.out) | exact HB.out)) hb)
                            clear HO_3
                            clear HO_38
                            clear HO317
                            clear BK310
                            clear HB
                            have HO_3 := n0_
                            have HO_38 := n1_
                            have HO317 := n2_
                            have BK310 := n3_
                            have HB := n4_
                            clear n0_ n1_ n2_ n3_ n4_
                            (try clear hb)
                            (try clear hb2)
                            (try clear hk)
                            (try clear hi)
                            refine hK.out _ _ ⟨(blk_cell BK310.out 0).trans rfl, (blk_cell BK310.out 1).trans rfl, (blk_cell BK310.out 2).trans rfl, (blk_cell BK310.out 3).trans rfl, (blk_cell BK310.out 4).trans rfl, (blk_cell BK310.out 5).trans rfl, (blk_cell BK310.out 6).trans rfl, (blk_cell BK310.out 7).trans rfl, HS8_, HS9_, HS10_, HS11_, HS12_, HS13_, HS14_, HS15_, HS16_, HS17_, HS18_, HS19_, HS20_, HS21_, HS22_, HS23_, HS24_, HS25_, HS26_, HS27_, HS28_, HS29_, HS30_, HS31_⟩ (fun hHeld => ?_)
                            clear hK K
                            refine norm_ (a' := ?_) ?_ ?_
                            rotate_left
                            · show Act.put _ (some 141) _ = _
                              simp only [Act.put, List.setIfInBounds_toArray, List.set_cons_zero, List.set_cons_succ, i64_w, i32_w]
                              rfl
                            refine pure_ (i := 33) (N := some 142) (v := ?_) (a' := ?_) (bb_ 34 7) rfl rfl (any_of HT_.out (by kernel_rfl)) (fun _ _ _ h => h) (Or.inl ⟨by rfl, ?_⟩) ?_ ?_; rotate_left; (· intro w'; go_simp; with_reducible rfl); rotate_left; (· simp only [Act.put, List.setIfInBounds_toArray, List.set_cons_zero, List.set_cons_succ, i64_w, i32_w]; rfl)
                            refine pure_ (i := 34) (N := some 143) (v := ?_) (a' := ?_) (bb_ 35 6) rfl rfl (any_of HT_.out (by kernel_rfl)) (fun _ _ _ h => h) (Or.inl ⟨by rfl, ?_⟩) ?_ ?_; rotate_left; (· intro w'; go_simp; with_reducible rfl); rotate_left; (· simp only [Act.put, List.setIfInBounds_toArray, List.set_cons_zero, List.set_cons_succ, i64_w, i32_w]; rfl)
                            refine pure_ (i := 35) (N := some 144) (v := undef) (a' := ?_) (bb_ 36 5) rfl rfl (any_of HT_.out (by kernel_rfl)) (fun _ _ _ h => h) (Or.inr ⟨by rfl, rfl⟩) ?_ ?_; rotate_left; (· simp only [Act.put, List.setIfInBounds_toArray, List.set_cons_zero, List.set_cons_succ, i64_w, i32_w]; rfl)
                            refine pure_ (i := 36) (N := some 145) (v := undef) (a' := ?_) (bb_ 37 4) rfl rfl (any_of HT_.out (by kernel_rfl)) (fun _ _ _ h => h) (Or.inr ⟨by rfl, rfl⟩) ?_ ?_; rotate_left; (· simp only [Act.put, List.setIfInBounds_toArray, List.set_cons_zero, List.set_cons_succ, i64_w, i32_w]; rfl)
                            refine pure_ (i := 37) (N := some 146) (v := undef) (a' := ?_) (bb_ 38 3) rfl rfl (any_of HT_.out (by kernel_rfl)) (fun _ _ _ h => h) (Or.inr ⟨by rfl, rfl⟩) ?_ ?_; rotate_left; (· simp only [Act.put, List.setIfInBounds_toArray, List.set_cons_zero, List.set_cons_succ, i64_w, i32_w]; rfl)
                            refine pure_ (i := 38) (N := some 147) (v := undef) (a' := ?_) (bb_ 39 2) rfl rfl (any_of HT_.out (by kernel_rfl)) (fun _ _ _ h => h) (Or.inr ⟨by rfl, rfl⟩) ?_ ?_; rotate_left; (· simp only [Act.put, List.setIfInBounds_toArray, List.set_cons_zero, List.set_cons_succ, i64_w, i32_w]; rfl)
                            refine pure_ (i := 39) (N := some 148) (v := undef) (a' := ?_) (bb_ 40 1) rfl rfl (any_of HT_.out (by kernel_rfl)) (fun _ _ _ h => h) (Or.inr ⟨by rfl, rfl⟩) ?_ ?_; rotate_left; (· simp only [Act.put, List.setIfInBounds_toArray, List.set_cons_zero, List.set_cons_succ, i64_w, i32_w]; rfl)
                            refine pure_ (i := 40) (N := some 149) (v := ?_) (a' := ?_) (bb_ 41 0) rfl rfl (any_of HT_.out (by kernel_rfl)) (fun _ _ _ h => h) (Or.inl ⟨by rfl, ?_⟩) ?_ ?_; rotate_left; (· intro w'; go_simp; with_reducible rfl); rotate_left; (· simp only [Act.put, List.setIfInBounds_toArray, List.set_cons_zero, List.set_cons_succ, i64_w, i32_w]; rfl)
                            refine done_ (done_of HT_.out (by kernel_rfl)) ?_
                            try go_wp2
                            go_meet
                            case rel => exact ⟨_, (false), (by first | rfl | (simp; done) | (simp [*]; done)), H', ⟨by have := HK1.out; have := HJ11.out; have := HJ24.out; have := HJ28.out; have := HK5.out; first | omega | exact Nat.le_refl _⟩, ⟨by (with_reducible repeat (first | apply Kd.R_alloc | apply Kd.R_drewN | apply Kd.R_drew)); exact Kd.R_mono HO_3.out (fun _ hk => hk.1)⟩, ⟨by (with_reducible repeat (first | apply Kd.R_alloc | apply Kd.R_drewN | apply Kd.R_drew)); exact Kd.R_mono HO_38.out (fun _ hk => hk.1)⟩, ⟨by (with_reducible repeat (first | refine blk_drewN ?_ _ | refine blk_drew ?_ | refine blk_alloc ?_ _)); exact BK310.out⟩, ⟨by repeat (first | (with_reducible first | exact HB.out | apply below_alloc | apply pw_below_drewN | apply below_drew1 | refine below_set ?_ GE310.out) | exact HB.out)⟩⟩
                          subst c49
                          have H1 : (keystonelaw12_LexisLoses.j5 k5 a0 t303 x9_24 x10_5 x11_5 t303 (t303.length : Int) x40_1 (((rd_T35 t313 0).f3) == 0) ((rd_T35 t303 x40_1).f0) ((rd_T35 t303 x40_1).f1) ((rd_T35 t303 x40_1).f2.f0) ((rd_T35 t303 x40_1).f2.f1) ((rd_T35 t303 x40_1).f2.f2) ((rd_T35 t303 x40_1).f2.f3) ((rd_T35 t303 x40_1).f2.f4) ((rd_T35 t303 x40_1).f3)) = some r := by rw [if_pos rfl] at H; exact H
                          clear H
                          have H := H1
                          clear H1
                          have H' := Aside0.mk H
                          clear H
                          try go_wp2
                          have n0_ := Aside0.mk (Kd.R_drew HO_3.out)
                          have n1_ := Aside0.mk (Kd.R_drew HO_38.out)
                          have n2_ := Aside0.mk (Kd.R_drew HO317.out)
                          have n3_ := Aside0.mk (blk_drew BK310.out)
                          have n4_ := Aside0.mk (below_drew1 HB.out)
                          clear HO_3
                          clear HO_38
                          clear HO317
                          clear BK310
                          clear HB
                          have HO_3 := n0_
                          have HO_38 := n1_
                          have HO317 := n2_
                          have BK310 := n3_
                          have HB := n4_
                          clear n0_ n1_ n2_ n3_ n4_
                          obtain ⟨Ao51, co51, eo51⟩ := Kd.R_slice HO317.out
                          (first | subst eo51 | (injection eo51 with f1_ f2_ f3_; have f4_ := f1_.symm; have f5_ := f3_.symm; clear f1_ f2_ f3_; subst f4_; subst f5_))
                          have p318 : 0 ≤ (0 : Int) := (by omega)
                          have q318 : 0 < (t313.length : Int) := of_decide_eq_true (by first | (with_reducible assumption) | assumption)
                          obtain ⟨ad318, e318, hx318_0, hx318_1, hx318_2, hx318_3, hx318_4, hx318_5, hx318_6, hx318_7⟩ := at_T35 (Kd.R_reads' HO317.out).2.2 0 p318 q318
                          cases e318
                          have qi318 : (0 < t313.length) = True := eq_true (by omega)
                          (try rw [show ((0 : Int)).toNat = 0 from rfl] at hx318_0)
                          (try rw [show 0 * 8 = 0 from rfl] at hx318_0)
                          (try rw [Addr.add_zero'] at hx318_0)
                          (try rw [show ((0 : Int)).toNat = 0 from rfl] at hx318_1)
                          (try rw [show 0 * 8 = 0 from rfl] at hx318_1)
                          (try rw [Addr.add_zero'] at hx318_1)
                          (try rw [show ((0 : Int)).toNat = 0 from rfl] at hx318_2)
                          (try rw [show 0 * 8 = 0 from rfl] at hx318_2)
                          (try rw [Addr.add_zero'] at hx318_2)
                          (try rw [show ((0 : Int)).toNat = 0 from rfl] at hx318_3)
                          (try rw [show 0 * 8 = 0 from rfl] at hx318_3)
                          (try rw [Addr.add_zero'] at hx318_3)
                          (try rw [show ((0 : Int)).toNat = 0 from rfl] at hx318_4)
                          (try rw [show 0 * 8 = 0 from rfl] at hx318_4)
                          (try rw [Addr.add_zero'] at hx318_4)
                          (try rw [show ((0 : Int)).toNat = 0 from rfl] at hx318_5)
                          (try rw [show 0 * 8 = 0 from rfl] at hx318_5)
                          (try rw [Addr.add_zero'] at hx318_5)
                          (try rw [show ((0 : Int)).toNat = 0 from rfl] at hx318_6)
                          (try rw [show 0 * 8 = 0 from rfl] at hx318_6)
                          (try rw [Addr.add_zero'] at hx318_6)
                          (try rw [show ((0 : Int)).toNat = 0 from rfl] at hx318_7)
                          (try rw [show 0 * 8 = 0 from rfl] at hx318_7)
                          (try rw [Addr.add_zero'] at hx318_7)
                          replace p318 := eq_true p318
                          replace q318 := eq_true q318
                          have p319 : 0 ≤ (0 : Int) := (by omega)
                          have q319 : 0 < (t313.length : Int) := of_decide_eq_true (by first | (with_reducible assumption) | assumption)
                          obtain ⟨ad319, e319, hx319_0, hx319_1, hx319_2, hx319_3, hx319_4, hx319_5, hx319_6, hx319_7⟩ := at_T35 (Kd.R_reads' HO317.out).2.2 0 p319 q319
                          obtain rfl : ad318 = ad319 := (by injection e319)
                          have qi319 : (0 < t313.length) = True := eq_true (by omega)
                          (try rw [show ((0 : Int)).toNat = 0 from rfl] at hx319_0)
                          (try rw [show 0 * 8 = 0 from rfl] at hx319_0)
                          (try rw [Addr.add_zero'] at hx319_0)
                          (try rw [show ((0 : Int)).toNat = 0 from rfl] at hx319_1)
                          (try rw [show 0 * 8 = 0 from rfl] at hx319_1)
                          (try rw [Addr.add_zero'] at hx319_1)
                          (try rw [show ((0 : Int)).toNat = 0 from rfl] at hx319_2)
                          (try rw [show 0 * 8 = 0 from rfl] at hx319_2)
                          (try rw [Addr.add_zero'] at hx319_2)
                          (try rw [show ((0 : Int)).toNat = 0 from rfl] at hx319_3)
                          (try rw [show 0 * 8 = 0 from rfl] at hx319_3)
                          (try rw [Addr.add_zero'] at hx319_3)
                          (try rw [show ((0 : Int)).toNat = 0 from rfl] at hx319_4)
                          (try rw [show 0 * 8 = 0 from rfl] at hx319_4)
                          (try rw [Addr.add_zero'] at hx319_4)
                          (try rw [show ((0 : Int)).toNat = 0 from rfl] at hx319_5)
                          (try rw [show 0 * 8 = 0 from rfl] at hx319_5)
                          (try rw [Addr.add_zero'] at hx319_5)
                          (try rw [show ((0 : Int)).toNat = 0 from rfl] at hx319_6)
                          (try rw [show 0 * 8 = 0 from rfl] at hx319_6)
                          (try rw [Addr.add_zero'] at hx319_6)
                          (try rw [show ((0 : Int)).toNat = 0 from rfl] at hx319_7)
                          (try rw [show 0 * 8 = 0 from rfl] at hx319_7)
                          (try rw [Addr.add_zero'] at hx319_7)
                          replace p319 := eq_true p319
                          replace q319 := eq_true q319
                          have p320 : 0 ≤ (0 : Int) := (by omega)
                          have q320 : 0 < (t313.length : Int) := of_decide_eq_true (by first | (with_reducible assumption) | assumption)
                          obtain ⟨ad320, e320, hx320_0, hx320_1, hx320_2, hx320_3, hx320_4, hx320_5, hx320_6, hx320_7⟩ := at_T35 (Kd.R_reads' HO317.out).2.2 0 p320 q320
                          obtain rfl : ad318 = ad320 := (by injection e320)
                          have qi320 : (0 < t313.length) = True := eq_true (by omega)
                          (try rw [show ((0 : Int)).toNat = 0 from rfl] at hx320_0)
                          (try rw [show 0 * 8 = 0 from rfl] at hx320_0)
                          (try rw [Addr.add_zero'] at hx320_0)
                          (try rw [show ((0 : Int)).toNat = 0 from rfl] at hx320_1)
                          (try rw [show 0 * 8 = 0 from rfl] at hx320_1)
                          (try rw [Addr.add_zero'] at hx320_1)
                          (try rw [show ((0 : Int)).toNat = 0 from rfl] at hx320_2)
                          (try rw [show 0 * 8 = 0 from rfl] at hx320_2)
                          (try rw [Addr.add_zero'] at hx320_2)
                          (try rw [show ((0 : Int)).toNat = 0 from rfl] at hx320_3)
                          (try rw [show 0 * 8 = 0 from rfl] at hx320_3)
                          (try rw [Addr.add_zero'] at hx320_3)
                          (try rw [show ((0 : Int)).toNat = 0 from rfl] at hx320_4)
                          (try rw [show 0 * 8 = 0 from rfl] at hx320_4)
                          (try rw [Addr.add_zero'] at hx320_4)
                          (try rw [show ((0 : Int)).toNat = 0 from rfl] at hx320_5)
                          (try rw [show 0 * 8 = 0 from rfl] at hx320_5)
                          (try rw [Addr.add_zero'] at hx320_5)
                          (try rw [show ((0 : Int)).toNat = 0 from rfl] at hx320_6)
                          (try rw [show 0 * 8 = 0 from rfl] at hx320_6)
                          (try rw [Addr.add_zero'] at hx320_6)
                          (try rw [show ((0 : Int)).toNat = 0 from rfl] at hx320_7)
                          (try rw [show 0 * 8 = 0 from rfl] at hx320_7)
                          (try rw [Addr.add_zero'] at hx320_7)
                          replace p320 := eq_true p320
                          replace q320 := eq_true q320
                          have p322 : 0 ≤ (0 : Int) := (by omega)
                          have q322 : 0 < (t313.length : Int) := of_decide_eq_true (by first | (with_reducible assumption) | assumption)
                          obtain ⟨ad322, e322, hx322_0, hx322_1, hx322_2, hx322_3, hx322_4, hx322_5, hx322_6, hx322_7⟩ := at_T35 (Kd.R_reads' HO317.out).2.2 0 p322 q322
                          obtain rfl : ad318 = ad322 := (by injection e322)
                          have qi322 : (0 < t313.length) = True := eq_true (by omega)
                          (try rw [show ((0 : Int)).toNat = 0 from rfl] at hx322_0)
                          (try rw [show 0 * 8 = 0 from rfl] at hx322_0)
                          (try rw [Addr.add_zero'] at hx322_0)
                          (try rw [show ((0 : Int)).toNat = 0 from rfl] at hx322_1)
                          (try rw [show 0 * 8 = 0 from rfl] at hx322_1)
                          (try rw [Addr.add_zero'] at hx322_1)
                          (try rw [show ((0 : Int)).toNat = 0 from rfl] at hx322_2)
                          (try rw [show 0 * 8 = 0 from rfl] at hx322_2)
                          (try rw [Addr.add_zero'] at hx322_2)
                          (try rw [show ((0 : Int)).toNat = 0 from rfl] at hx322_3)
                          (try rw [show 0 * 8 = 0 from rfl] at hx322_3)
                          (try rw [Addr.add_zero'] at hx322_3)
                          (try rw [show ((0 : Int)).toNat = 0 from rfl] at hx322_4)
                          (try rw [show 0 * 8 = 0 from rfl] at hx322_4)
                          (try rw [Addr.add_zero'] at hx322_4)
                          (try rw [show ((0 : Int)).toNat = 0 from rfl] at hx322_5)
                          (try rw [show 0 * 8 = 0 from rfl] at hx322_5)
                          (try rw [Addr.add_zero'] at hx322_5)
                          (try rw [show ((0 : Int)).toNat = 0 from rfl] at hx322_6)
                          (try rw [show 0 * 8 = 0 from rfl] at hx322_6)
                          (try rw [Addr.add_zero'] at hx322_6)
                          (try rw [show ((0 : Int)).toNat = 0 from rfl] at hx322_7)
                          (try rw [show 0 * 8 = 0 from rfl] at hx322_7)
                          (try rw [Addr.add_zero'] at hx322_7)
                          replace p322 := eq_true p322
                          replace q322 := eq_true q322
                          refine start_ (n := 41) (S := fun w' => w'.cell? ⟨gb310, 0, none⟩ = some (.int .i64 ((rd_T35 t303 x40_1).f0)) ∧ w'.cell? ⟨gb310, 1, none⟩ = some (.string ((rd_T35 t303 x40_1).f1)) ∧ w'.cell? ⟨gb310, 2, none⟩ = some (.int .i64 ((rd_T35 t303 x40_1).f2.f0)) ∧ w'.cell? ⟨gb310, 3, none⟩ = some (.int .i64 ((rd_T35 t303 x40_1).f2.f1)) ∧ w'.cell? ⟨gb310, 4, none⟩ = some (.bool ((rd_T35 t303 x40_1).f2.f2)) ∧ w'.cell? ⟨gb310, 5, none⟩ = some (.string ((rd_T35 t303 x40_1).f2.f3)) ∧ w'.cell? ⟨gb310, 6, none⟩ = some (.complex .f64 (((rd_T35 t303 x40_1).f2.f4).re) (((rd_T35 t303 x40_1).f2.f4).im)) ∧ w'.cell? ⟨gb310, 7, none⟩ = some (.int .i64 ((rd_T35 t303 x40_1).f3)) ∧ w'.cell? ad318 = some (.int .i64 ((rd_T35 t313 0).f0)) ∧ w'.cell? ⟨ad318.block, ad318.off + 1, none⟩ = some (.string ((rd_T35 t313 0).f1)) ∧ w'.cell? ⟨ad318.block, ad318.off + 2, none⟩ = some (.int .i64 ((rd_T35 t313 0).f2.f0)) ∧ w'.cell? ⟨ad318.block, ad318.off + 3, none⟩ = some (.int .i64 ((rd_T35 t313 0).f2.f1)) ∧ w'.cell? ⟨ad318.block, ad318.off + 4, none⟩ = some (.bool ((rd_T35 t313 0).f2.f2)) ∧ w'.cell? ⟨ad318.block, ad318.off + 5, none⟩ = some (.string ((rd_T35 t313 0).f2.f3)) ∧ w'.cell? ⟨ad318.block, ad318.off + 6, none⟩ = some (.complex .f64 (((rd_T35 t313 0).f2.f4).re) (((rd_T35 t313 0).f2.f4).im)) ∧ w'.cell? ⟨ad318.block, ad318.off + 7, none⟩ = some (.int .i64 ((rd_T35 t313 0).f3)) ∧ w'.cell? ad318 = some (.int .i64 ((rd_T35 t313 0).f0)) ∧ w'.cell? ⟨ad318.block, ad318.off + 1, none⟩ = some (.string ((rd_T35 t313 0).f1)) ∧ w'.cell? ⟨ad318.block, ad318.off + 2, none⟩ = some (.int .i64 ((rd_T35 t313 0).f2.f0)) ∧ w'.cell? ⟨ad318.block, ad318.off + 3, none⟩ = some (.int .i64 ((rd_T35 t313 0).f2.f1)) ∧ w'.cell? ⟨ad318.block, ad318.off + 4, none⟩ = some (.bool ((rd_T35 t313 0).f2.f2)) ∧ w'.cell? ⟨ad318.block, ad318.off + 5, none⟩ = some (.string ((rd_T35 t313 0).f2.f3)) ∧ w'.cell? ⟨ad318.block, ad318.off + 6, none⟩ = some (.complex .f64 (((rd_T35 t313 0).f2.f4).re) (((rd_T35 t313 0).f2.f4).im)) ∧ w'.cell? ⟨ad318.block, ad318.off + 7, none⟩ = some (.int .i64 ((rd_T35 t313 0).f3)) ∧ w'.cell? ad318 = some (.int .i64 ((rd_T35 t313 0).f0)) ∧ w'.cell? ⟨ad318.block, ad318.off + 1, none⟩ = some (.string ((rd_T35 t313 0).f1)) ∧ w'.cell? ⟨ad318.block, ad318.off + 2, none⟩ = some (.int .i64 ((rd_T35 t313 0).f2.f0)) ∧ w'.cell? ⟨ad318.block, ad318.off + 3, none⟩ = some (.int .i64 ((rd_T35 t313 0).f2.f1)) ∧ w'.cell? ⟨ad318.block, ad318.off + 4, none⟩ = some (.bool ((rd_T35 t313 0).f2.f2)) ∧ w'.cell? ⟨ad318.block, ad318.off + 5, none⟩ = some (.string ((rd_T35 t313 0).f2.f3)) ∧ w'.cell? ⟨ad318.block, ad318.off + 6, none⟩ = some (.complex .f64 (((rd_T35 t313 0).f2.f4).re) (((rd_T35 t313 0).f2.f4).im)) ∧ w'.cell? ⟨ad318.block, ad318.off + 7, none⟩ = some (.int .i64 ((rd_T35 t313 0).f3)) ∧ w'.cell? ad318 = some (.int .i64 ((rd_T35 t313 0).f0)) ∧ w'.cell? ⟨ad318.block, ad318.off + 1, none⟩ = some (.string ((rd_T35 t313 0).f1)) ∧ w'.cell? ⟨ad318.block, ad318.off + 2, none⟩ = some (.int .i64 ((rd_T35 t313 0).f2.f0)) ∧ w'.cell? ⟨ad318.block, ad318.off + 3, none⟩ = some (.int .i64 ((rd_T35 t313 0).f2.f1)) ∧ w'.cell? ⟨ad318.block, ad318.off + 4, none⟩ = some (.bool ((rd_T35 t313 0).f2.f2)) ∧ w'.cell? ⟨ad318.block, ad318.off + 5, none⟩ = some (.string ((rd_T35 t313 0).f2.f3)) ∧ w'.cell? ⟨ad318.block, ad318.off + 6, none⟩ = some (.complex .f64 (((rd_T35 t313 0).f2.f4).re) (((rd_T35 t313 0).f2.f4).im)) ∧ w'.cell? ⟨ad318.block, ad318.off + 7, none⟩ = some (.int .i64 ((rd_T35 t313 0).f3))) (ds := []) (bb_ 0 41) (by kernel_rfl) rfl rfl ⟨(blk_cell BK310.out 0).trans rfl, (blk_cell BK310.out 1).trans rfl, (blk_cell BK310.out 2).trans rfl, (blk_cell BK310.out 3).trans rfl, (blk_cell BK310.out 4).trans rfl, (blk_cell BK310.out 5).trans rfl, (blk_cell BK310.out 6).trans rfl, (blk_cell BK310.out 7).trans rfl, hx318_0, hx318_1, hx318_2, hx318_3, hx318_4, hx318_5, hx318_6, hx318_7, hx319_0, hx319_1, hx319_2, hx319_3, hx319_4, hx319_5, hx319_6, hx319_7, hx320_0, hx320_1, hx320_2, hx320_3, hx320_4, hx320_5, hx320_6, hx320_7, hx322_0, hx322_1, hx322_2, hx322_3, hx322_4, hx322_5, hx322_6, hx322_7⟩ (fun hHeld => ?_); refine with_tabW keystonelaw12_LexisLoses.tab22 keystonelaw12_LexisLoses.bits22 (fun HT_ HW_ => ?_)
                          generalize w42.drew = w50 at HO_3 HO_38 HO317 BK310 HB hx318_0 hx318_1 hx318_2 hx318_3 hx318_4 hx318_5 hx318_6 hx318_7 hx319_0 hx319_1 hx319_2 hx319_3 hx319_4 hx319_5 hx319_6 hx319_7 hx320_0 hx320_1 hx320_2 hx320_3 hx320_4 hx320_5 hx320_6 hx320_7 hx322_0 hx322_1 hx322_2 hx322_3 hx322_4 hx322_5 hx322_6 hx322_7 hHeld ⊢
                          refine pure_ (i := 0) (N := some 109) (v := ?_) (a' := ?_) (bb_ 1 40) rfl rfl (any_of HT_.out (by kernel_rfl)) (fun _ _ _ h => h) (Or.inl ⟨by rfl, ?_⟩) ?_ ?_; rotate_left; (· intro w'; go_simp; with_reducible rfl); rotate_left; (· simp only [Act.put, List.setIfInBounds_toArray, List.set_cons_zero, List.set_cons_succ, i64_w, i32_w]; rfl)
                          refine pure_ (i := 1) (N := some 110) (v := ?_) (a' := ?_) (bb_ 2 39) rfl rfl (any_of HT_.out (by kernel_rfl)) (fun _ _ _ h => h) (Or.inl ⟨by rfl, ?_⟩) ?_ ?_; rotate_left; (· intro w'; go_simp; with_reducible rfl); rotate_left; (· simp only [Act.put, List.setIfInBounds_toArray, List.set_cons_zero, List.set_cons_succ, i64_w, i32_w]; rfl)
                          refine pure_ (i := 2) (N := some 111) (v := ?_) (a' := ?_) (bb_ 3 38) rfl rfl (any_of HT_.out (by kernel_rfl)) (fun _ _ _ h => h) (Or.inl ⟨by rfl, ?_⟩) ?_ ?_; rotate_left; (· intro w'; go_simp; with_reducible rfl); rotate_left; (· simp only [Act.put, List.setIfInBounds_toArray, List.set_cons_zero, List.set_cons_succ, i64_w, i32_w]; rfl)
                          refine pure_ (i := 3) (N := some 112) (v := ?_) (a' := ?_) (bb_ 4 37) rfl rfl (any_of HT_.out (by kernel_rfl)) (fun _ _ _ h => h) (Or.inl ⟨by rfl, ?_⟩) ?_ ?_; rotate_left; (· intro w'; go_simp; with_reducible rfl); rotate_left; (· simp only [Act.put, List.setIfInBounds_toArray, List.set_cons_zero, List.set_cons_succ, i64_w, i32_w]; rfl)
                          refine pure_ (i := 4) (N := some 113) (v := ?_) (a' := ?_) (bb_ 5 36) rfl rfl (any_of HT_.out (by kernel_rfl)) (fun _ _ _ h => h) (Or.inl ⟨by rfl, ?_⟩) ?_ ?_; rotate_left; (· intro w'; go_simp; with_reducible rfl); rotate_left; (· simp only [Act.put, List.setIfInBounds_toArray, List.set_cons_zero, List.set_cons_succ, i64_w, i32_w]; rfl)
                          refine pure_ (i := 5) (N := some 114) (v := ?_) (a' := ?_) (bb_ 6 35) rfl rfl (any_of HT_.out (by kernel_rfl)) (fun _ _ _ h => h) (Or.inl ⟨by rfl, ?_⟩) ?_ ?_; rotate_left; (· intro w'; go_simp; with_reducible rfl); rotate_left; (· simp only [Act.put, List.setIfInBounds_toArray, List.set_cons_zero, List.set_cons_succ, i64_w, i32_w]; rfl)
                          refine pure_ (i := 6) (N := some 115) (v := ?_) (a' := ?_) (bb_ 7 34) rfl rfl (any_of HT_.out (by kernel_rfl)) (fun _ _ _ h => h) (Or.inl ⟨by rfl, ?_⟩) ?_ ?_; rotate_left; (· intro w'; go_simp; with_reducible rfl); rotate_left; (· simp only [Act.put, List.setIfInBounds_toArray, List.set_cons_zero, List.set_cons_succ, i64_w, i32_w]; rfl)
                          refine pure_ (i := 7) (N := some 116) (v := ?_) (a' := ?_) (bb_ 8 33) rfl rfl (any_of HT_.out (by kernel_rfl)) (fun _ _ _ h => h) (Or.inl ⟨by rfl, ?_⟩) ?_ ?_; rotate_left; (· intro w'; go_simp; with_reducible rfl); rotate_left; (· simp only [Act.put, List.setIfInBounds_toArray, List.set_cons_zero, List.set_cons_succ, i64_w, i32_w]; rfl)
                          refine pure_ (i := 8) (N := some 117) (v := ?_) (a' := ?_) (bb_ 9 32) rfl rfl (any_of HT_.out (by kernel_rfl)) (fun _ _ _ h => h) (Or.inl ⟨by rfl, ?_⟩) ?_ ?_; rotate_left; (· intro w'; go_simp; with_reducible rfl); rotate_left; (· simp only [Act.put, List.setIfInBounds_toArray, List.set_cons_zero, List.set_cons_succ, i64_w, i32_w]; rfl)
                          refine pure_ (i := 9) (N := some 118) (v := ?_) (a' := ?_) (bb_ 10 31) rfl rfl (any_of HT_.out (by kernel_rfl)) (fun _ _ _ h => h) (Or.inl ⟨by rfl, ?_⟩) ?_ ?_; rotate_left; (· intro w'; go_simp; with_reducible rfl); rotate_left; (· simp only [Act.put, List.setIfInBounds_toArray, List.set_cons_zero, List.set_cons_succ, i64_w, i32_w]; rfl)
                          refine pure_ (i := 10) (N := some 119) (v := ?_) (a' := ?_) (bb_ 11 30) rfl rfl (any_of HT_.out (by kernel_rfl)) (fun _ _ _ h => h) (Or.inl ⟨by rfl, ?_⟩) ?_ ?_; rotate_left; (· intro w'; go_simp; with_reducible rfl); rotate_left; (· simp only [Act.put, List.setIfInBounds_toArray, List.set_cons_zero, List.set_cons_succ, i64_w, i32_w]; rfl)
                          refine pure_ (i := 12) (N := some 121) (v := ?_) (a' := ?_) #[true, true, true, true, true, true, true, true, true, true, true, false, true, false, false, false, false, false, false, false, false, false, false, false, false, false, false, false, false, false, false, false, false, false, false, false, false, false, false, false, false] rfl rfl (any_of HT_.out (by kernel_rfl)) (fun _ _ _ h => h) (Or.inl ⟨by rfl, ?_⟩) ?_ ?_; rotate_left; (· intro w'; go_simp; with_reducible rfl); rotate_left; (· simp only [Act.put, List.setIfInBounds_toArray, List.set_cons_zero, List.set_cons_succ, i64_w, i32_w]; rfl)
                          refine take_ (i := 11) (N := some 120) (v := ?_) (a' := ?_) (bb_ 13 28) rfl rfl (take_ofW HT_.out HW_.out (by kernel_rfl)) (fun _ _ _ h => h) (Or.inl ⟨by rfl, ?_⟩) hHeld ?_ ?_; rotate_left; (· rintro w' ⟨s0, s1, s2, s3, s4, s5, s6, s7, s8, s9, s10, s11, s12, s13, s14, s15, s16, s17, s18, s19, s20, s21, s22, s23, s24, s25, s26, s27, s28, s29, s30, s31, s32, s33, s34, s35, s36, s37, s38, s39⟩; go_simp; with_reducible rfl); rotate_left; (· simp only [Act.put, List.setIfInBounds_toArray, List.set_cons_zero, List.set_cons_succ, i64_w, i32_w]; rfl)
                          refine take_ (i := 13) (N := some 122) (v := ?_) (a' := ?_) (bb_ 14 27) rfl rfl (take_ofW HT_.out HW_.out (by kernel_rfl)) (fun _ _ _ h => h) (Or.inl ⟨by rfl, ?_⟩) hHeld ?_ ?_; rotate_left; (· rintro w' ⟨s0, s1, s2, s3, s4, s5, s6, s7, s8, s9, s10, s11, s12, s13, s14, s15, s16, s17, s18, s19, s20, s21, s22, s23, s24, s25, s26, s27, s28, s29, s30, s31, s32, s33, s34, s35, s36, s37, s38, s39⟩; go_simp; with_reducible rfl); rotate_left; (· simp only [Act.put, List.setIfInBounds_toArray, List.set_cons_zero, List.set_cons_succ, i64_w, i32_w]; rfl)
                          refine pure_ (i := 14) (N := some 123) (v := ?_) (a' := ?_) (bb_ 15 26) rfl rfl (any_of HT_.out (by kernel_rfl)) (fun _ _ _ h => h) (Or.inl ⟨by rfl, ?_⟩) ?_ ?_; rotate_left; (· intro w'; go_simp; with_reducible rfl); rotate_left; (· simp only [Act.put, List.setIfInBounds_toArray, List.set_cons_zero, List.set_cons_succ, i64_w, i32_w]; rfl)
                          refine pure_ (i := 15) (N := some 124) (v := ?_) (a' := ?_) (bb_ 16 25) rfl rfl (any_of HT_.out (by kernel_rfl)) (fun _ _ _ h => h) (Or.inl ⟨by rfl, ?_⟩) ?_ ?_; rotate_left; (· intro w'; go_simp; with_reducible rfl); rotate_left; (· simp only [Act.put, List.setIfInBounds_toArray, List.set_cons_zero, List.set_cons_succ, i64_w, i32_w]; rfl)
                          refine pure_ (i := 16) (N := some 125) (v := ?_) (a' := ?_) (bb_ 17 24) rfl rfl (any_of HT_.out (by kernel_rfl)) (fun _ _ _ h => h) (Or.inl ⟨by rfl, ?_⟩) ?_ ?_; rotate_left; (· intro w'; go_simp; with_reducible rfl); rotate_left; (· simp only [Act.put, List.setIfInBounds_toArray, List.set_cons_zero, List.set_cons_succ, i64_w, i32_w]; rfl)
                          refine pure_ (i := 17) (N := some 126) (v := ?_) (a' := ?_) (bb_ 18 23) rfl rfl (any_of HT_.out (by kernel_rfl)) (fun _ _ _ h => h) (Or.inl ⟨by rfl, ?_⟩) ?_ ?_; rotate_left; (· intro w'; go_simp; with_reducible rfl); rotate_left; (· simp only [Act.put, List.setIfInBounds_toArray, List.set_cons_zero, List.set_cons_succ, i64_w, i32_w]; rfl)
                          refine pure_ (i := 18) (N := some 127) (v := ?_) (a' := ?_) (bb_ 19 22) rfl rfl (any_of HT_.out (by kernel_rfl)) (fun _ _ _ h => h) (Or.inl ⟨by rfl, ?_⟩) ?_ ?_; rotate_left; (· intro w'; go_simp; with_reducible rfl); rotate_left; (· simp only [Act.put, List.setIfInBounds_toArray, List.set_cons_zero, List.set_cons_succ, i64_w, i32_w]; rfl)
                          refine pure_ (i := 19) (N := some 128) (v := ?_) (a' := ?_) (bb_ 20 21) rfl rfl (any_of HT_.out (by kernel_rfl)) (fun _ _ _ h => h) (Or.inl ⟨by rfl, ?_⟩) ?_ ?_; rotate_left; (· intro w'; go_simp; with_reducible rfl); rotate_left; (· simp only [Act.put, List.setIfInBounds_toArray, List.set_cons_zero, List.set_cons_succ, i64_w, i32_w]; rfl)
                          refine pure_ (i := 21) (N := some 130) (v := ?_) (a' := ?_) #[true, true, true, true, true, true, true, true, true, true, true, true, true, true, true, true, true, true, true, true, false, true, false, false, false, false, false, false, false, false, false, false, false, false, false, false, false, false, false, false, false] rfl rfl (any_of HT_.out (by kernel_rfl)) (fun _ _ _ h => h) (Or.inl ⟨by rfl, ?_⟩) ?_ ?_; rotate_left; (· intro w'; go_simp; with_reducible rfl); rotate_left; (· simp only [Act.put, List.setIfInBounds_toArray, List.set_cons_zero, List.set_cons_succ, i64_w, i32_w]; rfl)
                          refine take_ (i := 20) (N := some 129) (v := ?_) (a' := ?_) (bb_ 22 19) rfl rfl (take_ofW HT_.out HW_.out (by kernel_rfl)) (fun _ _ _ h => h) (Or.inl ⟨by rfl, ?_⟩) hHeld ?_ ?_; rotate_left; (· rintro w' ⟨s0, s1, s2, s3, s4, s5, s6, s7, s8, s9, s10, s11, s12, s13, s14, s15, s16, s17, s18, s19, s20, s21, s22, s23, s24, s25, s26, s27, s28, s29, s30, s31, s32, s33, s34, s35, s36, s37, s38, s39⟩; go_simp; with_reducible rfl); rotate_left; (· simp only [Act.put, List.setIfInBounds_toArray, List.set_cons_zero, List.set_cons_succ, i64_w, i32_w]; rfl)
                          refine take_ (i := 22) (N := some 131) (v := ?_) (a' := ?_) (bb_ 23 18) rfl rfl (take_ofW HT_.out HW_.out (by kernel_rfl)) (fun _ _ _ h => h) (Or.inl ⟨by rfl, ?_⟩) hHeld ?_ ?_; rotate_left; (· rintro w' ⟨s0, s1, s2, s3, s4, s5, s6, s7, s8, s9, s10, s11, s12, s13, s14, s15, s16, s17, s18, s19, s20, s21, s22, s23, s24, s25, s26, s27, s28, s29, s30, s31, s32, s33, s34, s35, s36, s37, s38, s39⟩; go_simp; with_reducible rfl); rotate_left; (· simp only [Act.put, List.setIfInBounds_toArray, List.set_cons_zero, List.set_cons_succ, i64_w, i32_w]; rfl)
                          refine pure_ (i := 23) (N := some 132) (v := ?_) (a' := ?_) (bb_ 24 17) rfl rfl (any_of HT_.out (by kernel_rfl)) (fun _ _ _ h => h) (Or.inl ⟨by rfl, ?_⟩) ?_ ?_; rotate_left; (· intro w'; go_simp; with_reducible rfl); rotate_left; (· simp only [Act.put, List.setIfInBounds_toArray, List.set_cons_zero, List.set_cons_succ, i64_w, i32_w]; rfl)
                          refine pure_ (i := 24) (N := some 133) (v := ?_) (a' := ?_) (bb_ 25 16) rfl rfl (any_of HT_.out (by kernel_rfl)) (fun _ _ _ h => h) (Or.inl ⟨by rfl, ?_⟩) ?_ ?_; rotate_left; (· intro w'; go_simp; with_reducible rfl); rotate_left; (· simp only [Act.put, List.setIfInBounds_toArray, List.set_cons_zero, List.set_cons_succ, i64_w, i32_w]; rfl)
                          refine pure_ (i := 25) (N := some 134) (v := ?_) (a' := ?_) (bb_ 26 15) rfl rfl (any_of HT_.out (by kernel_rfl)) (fun _ _ _ h => h) (Or.inl ⟨by rfl, ?_⟩) ?_ ?_; rotate_left; (· intro w'; go_simp; with_reducible rfl); rotate_left; (· simp only [Act.put, List.setIfInBounds_toArray, List.set_cons_zero, List.set_cons_succ, i64_w, i32_w]; rfl)
                          refine pure_ (i := 26) (N := some 135) (v := ?_) (a' := ?_) (bb_ 27 14) rfl rfl (any_of HT_.out (by kernel_rfl)) (fun _ _ _ h => h) (Or.inl ⟨by rfl, ?_⟩) ?_ ?_; rotate_left; (· intro w'; go_simp; with_reducible rfl); rotate_left; (· simp only [Act.put, List.setIfInBounds_toArray, List.set_cons_zero, List.set_cons_succ, i64_w, i32_w]; rfl)
                          refine pure_ (i := 27) (N := some 136) (v := ?_) (a' := ?_) (bb_ 28 13) rfl rfl (any_of HT_.out (by kernel_rfl)) (fun _ _ _ h => h) (Or.inl ⟨by rfl, ?_⟩) ?_ ?_; rotate_left; (· intro w'; go_simp; with_reducible rfl); rotate_left; (· simp only [Act.put, List.setIfInBounds_toArray, List.set_cons_zero, List.set_cons_succ, i64_w, i32_w]; rfl)
                          refine pure_ (i := 28) (N := some 137) (v := ?_) (a' := ?_) (bb_ 29 12) rfl rfl (any_of HT_.out (by kernel_rfl)) (fun _ _ _ h => h) (Or.inl ⟨by rfl, ?_⟩) ?_ ?_; rotate_left; (· intro w'; go_simp; with_reducible rfl); rotate_left; (· simp only [Act.put, List.setIfInBounds_toArray, List.set_cons_zero, List.set_cons_succ, i64_w, i32_w]; rfl)
                          refine pure_ (i := 30) (N := some 139) (v := ?_) (a' := ?_) #[true, true, true, true, true, true, true, true, true, true, true, true, true, true, true, true, true, true, true, true, true, true, true, true, true, true, true, true, true, false, true, false, false, false, false, false, false, false, false, false, false] rfl rfl (any_of HT_.out (by kernel_rfl)) (fun _ _ _ h => h) (Or.inl ⟨by rfl, ?_⟩) ?_ ?_; rotate_left; (· intro w'; go_simp; with_reducible rfl); rotate_left; (· simp only [Act.put, List.setIfInBounds_toArray, List.set_cons_zero, List.set_cons_succ, i64_w, i32_w]; rfl)
                          refine take_ (i := 29) (N := some 138) (v := ?_) (a' := ?_) (bb_ 31 10) rfl rfl (take_ofW HT_.out HW_.out (by kernel_rfl)) (fun _ _ _ h => h) (Or.inl ⟨by rfl, ?_⟩) hHeld ?_ ?_; rotate_left; (· rintro w' ⟨s0, s1, s2, s3, s4, s5, s6, s7, s8, s9, s10, s11, s12, s13, s14, s15, s16, s17, s18, s19, s20, s21, s22, s23, s24, s25, s26, s27, s28, s29, s30, s31, s32, s33, s34, s35, s36, s37, s38, s39⟩; go_simp; with_reducible rfl); rotate_left; (· simp only [Act.put, List.setIfInBounds_toArray, List.set_cons_zero, List.set_cons_succ, i64_w, i32_w]; rfl)
                          refine take_ (i := 31) (N := some 140) (v := ?_) (a' := ?_) (bb_ 32 9) rfl rfl (take_ofW HT_.out HW_.out (by kernel_rfl)) (fun _ _ _ h => h) (Or.inl ⟨by rfl, ?_⟩) hHeld ?_ ?_; rotate_left; (· rintro w' ⟨s0, s1, s2, s3, s4, s5, s6, s7, s8, s9, s10, s11, s12, s13, s14, s15, s16, s17, s18, s19, s20, s21, s22, s23, s24, s25, s26, s27, s28, s29, s30, s31, s32, s33, s34, s35, s36, s37, s38, s39⟩; go_simp; with_reducible rfl); rotate_left; (· simp only [Act.put, List.setIfInBounds_toArray, List.set_cons_zero, List.set_cons_succ, i64_w, i32_w]; rfl)
                          refine one_ (i := 32) (N := some 141) (bb_ 33 8) rfl rfl (one_of HT_.out (by kernel_rfl)) (by decide) (fun K hK => ?_)
                          refine goes_ Tryd.func18 (by kernel_rfl) rfl #[.agg #[.int .i64 ((rd_T35 t313 0).f2.f0), .int .i64 ((rd_T35 t313 0).f2.f1), .bool ((rd_T35 t313 0).f2.f2), .string ((rd_T35 t313 0).f2.f3), .complex .f64 (((rd_T35 t313 0).f2.f4).re) (((rd_T35 t313 0).f2.f4).im)], .agg #[.int .i64 ((rd_T35 t303 x40_1).f2.f0), .int .i64 ((rd_T35 t303 x40_1).f2.f1), .bool ((rd_T35 t303 x40_1).f2.f2), .string ((rd_T35 t303 x40_1).f2.f3), .complex .f64 (((rd_T35 t303 x40_1).f2.f4).re) (((rd_T35 t303 x40_1).f2.f4).im)]] (by rfl) rfl rfl (by (try simp only [List.map_toArray, List.map_cons, List.map_nil]); first | done | rfl | (simp only [List.length_drop, List.length_take]; rfl)) ?_
                          with_reducible refine (keystoneref04_SameValue.calls ((rd_T35 t313 0).f2.f0) ((rd_T35 t313 0).f2.f1) ((rd_T35 t313 0).f2.f2) ((rd_T35 t313 0).f2.f3) ((rd_T35 t313 0).f2.f4) ((rd_T35 t303 x40_1).f2.f0) ((rd_T35 t303 x40_1).f2.f1) ((rd_T35 t303 x40_1).f2.f2) ((rd_T35 t303 x40_1).f2.f3) ((rd_T35 t303 x40_1).f2.f4) true _ A48.out).mono ?_
                          rintro e w52 ⟨rfl, hb⟩
                          have HS8_ := (hb.cell (World.block_lt_of_cell? _ _ (hHeld.2.2.2.2.2.2.2.2.1))).trans (hHeld.2.2.2.2.2.2.2.2.1)
                          have HS9_ := (hb.cell (World.block_lt_of_cell? _ _ (hHeld.2.2.2.2.2.2.2.2.2.1))).trans (hHeld.2.2.2.2.2.2.2.2.2.1)
                          have HS10_ := (hb.cell (World.block_lt_of_cell? _ _ (hHeld.2.2.2.2.2.2.2.2.2.2.1))).trans (hHeld.2.2.2.2.2.2.2.2.2.2.1)
                          have HS11_ := (hb.cell (World.block_lt_of_cell? _ _ (hHeld.2.2.2.2.2.2.2.2.2.2.2.1))).trans (hHeld.2.2.2.2.2.2.2.2.2.2.2.1)
                          have HS12_ := (hb.cell (World.block_lt_of_cell? _ _ (hHeld.2.2.2.2.2.2.2.2.2.2.2.2.1))).trans (hHeld.2.2.2.2.2.2.2.2.2.2.2.2.1)
                          have HS13_ := (hb.cell (World.block_lt_of_cell? _ _ (hHeld.2.2.2.2.2.2.2.2.2.2.2.2.2.1))).trans (hHeld.2.2.2.2.2.2.2.2.2.2.2.2.2.1)
                          have HS14_ := (hb.cell (World.block_lt_of_cell? _ _ (hHeld.2.2.2.2.2.2.2.2.2.2.2.2.2.2.1))).trans (hHeld.2.2.2.2.2.2.2.2.2.2.2.2.2.2.1)
                          have HS15_ := (hb.cell (World.block_lt_of_cell? _ _ (hHeld.2.2.2.2.2.2.2.2.2.2.2.2.2.2.2.1))).trans (hHeld.2.2.2.2.2.2.2.2.2.2.2.2.2.2.2.1)
                          have HS16_ := (hb.cell (World.block_lt_of_cell? _ _ (hHeld.2.2.2.2.2.2.2.2.2.2.2.2.2.2.2.2.1))).trans (hHeld.2.2.2.2.2.2.2.2.2.2.2.2.2.2.2.2.1)
                          have HS17_ := (hb.cell (World.block_lt_of_cell? _ _ (hHeld.2.2.2.2.2.2.2.2.2.2.2.2.2.2.2.2.2.1))).trans (hHeld.2.2.2.2.2.2.2.2.2.2.2.2.2.2.2.2.2.1)
                          have HS18_ := (hb.cell (World.block_lt_of_cell? _ _ (hHeld.2.2.2.2.2.2.2.2.2.2.2.2.2.2.2.2.2.2.1))).trans (hHeld.2.2.2.2.2.2.2.2.2.2.2.2.2.2.2.2.2.2.1)
                          have HS19_ := (hb.cell (World.block_lt_of_cell? _ _ (hHeld.2.2.2.2.2.2.2.2.2.2.2.2.2.2.2.2.2.2.2.1))).trans (hHeld.2.2.2.2.2.2.2.2.2.2.2.2.2.2.2.2.2.2.2.1)
                          have HS20_ := (hb.cell (World.block_lt_of_cell? _ _ (hHeld.2.2.2.2.2.2.2.2.2.2.2.2.2.2.2.2.2.2.2.2.1))).trans (hHeld.2.2.2.2.2.2.2.2.2.2.2.2.2.2.2.2.2.2.2.2.1)
                          have HS21_ := (hb.cell (World.block_lt_of_cell? _ _ (hHeld.2.2.2.2.2.2.2.2.2.2.2.2.2.2.2.2.2.2.2.2.2.1))).trans (hHeld.2.2.2.2.2.2.2.2.2.2.2.2.2.2.2.2.2.2.2.2.2.1)
                          have HS22_ := (hb.cell (World.block_lt_of_cell? _ _ (hHeld.2.2.2.2.2.2.2.2.2.2.2.2.2.2.2.2.2.2.2.2.2.2.1))).trans (hHeld.2.2.2.2.2.2.2.2.2.2.2.2.2.2.2.2.2.2.2.2.2.2.1)
                          have HS23_ := (hb.cell (World.block_lt_of_cell? _ _ (hHeld.2.2.2.2.2.2.2.2.2.2.2.2.2.2.2.2.2.2.2.2.2.2.2.1))).trans (hHeld.2.2.2.2.2.2.2.2.2.2.2.2.2.2.2.2.2.2.2.2.2.2.2.1)
                          have HS24_ := (hb.cell (World.block_lt_of_cell? _ _ (hHeld.2.2.2.2.2.2.2.2.2.2.2.2.2.2.2.2.2.2.2.2.2.2.2.2.1))).trans (hHeld.2.2.2.2.2.2.2.2.2.2.2.2.2.2.2.2.2.2.2.2.2.2.2.2.1)
                          have HS25_ := (hb.cell (World.block_lt_of_cell? _ _ (hHeld.2.2.2.2.2.2.2.2.2.2.2.2.2.2.2.2.2.2.2.2.2.2.2.2.2.1))).trans (hHeld.2.2.2.2.2.2.2.2.2.2.2.2.2.2.2.2.2.2.2.2.2.2.2.2.2.1)
                          have HS26_ := (hb.cell (World.block_lt_of_cell? _ _ (hHeld.2.2.2.2.2.2.2.2.2.2.2.2.2.2.2.2.2.2.2.2.2.2.2.2.2.2.1))).trans (hHeld.2.2.2.2.2.2.2.2.2.2.2.2.2.2.2.2.2.2.2.2.2.2.2.2.2.2.1)
                          have HS27_ := (hb.cell (World.block_lt_of_cell? _ _ (hHeld.2.2.2.2.2.2.2.2.2.2.2.2.2.2.2.2.2.2.2.2.2.2.2.2.2.2.2.1))).trans (hHeld.2.2.2.2.2.2.2.2.2.2.2.2.2.2.2.2.2.2.2.2.2.2.2.2.2.2.2.1)
                          have HS28_ := (hb.cell (World.block_lt_of_cell? _ _ (hHeld.2.2.2.2.2.2.2.2.2.2.2.2.2.2.2.2.2.2.2.2.2.2.2.2.2.2.2.2.1))).trans (hHeld.2.2.2.2.2.2.2.2.2.2.2.2.2.2.2.2.2.2.2.2.2.2.2.2.2.2.2.2.1)
                          have HS29_ := (hb.cell (World.block_lt_of_cell? _ _ (hHeld.2.2.2.2.2.2.2.2.2.2.2.2.2.2.2.2.2.2.2.2.2.2.2.2.2.2.2.2.2.1))).trans (hHeld.2.2.2.2.2.2.2.2.2.2.2.2.2.2.2.2.2.2.2.2.2.2.2.2.2.2.2.2.2.1)
                          have HS30_ := (hb.cell (World.block_lt_of_cell? _ _ (hHeld.2.2.2.2.2.2.2.2.2.2.2.2.2.2.2.2.2.2.2.2.2.2.2.2.2.2.2.2.2.2.1))).trans (hHeld.2.2.2.2.2.2.2.2.2.2.2.2.2.2.2.2.2.2.2.2.2.2.2.2.2.2.2.2.2.2.1)
                          have HS31_ := (hb.cell (World.block_lt_of_cell? _ _ (hHeld.2.2.2.2.2.2.2.2.2.2.2.2.2.2.2.2.2.2.2.2.2.2.2.2.2.2.2.2.2.2.2.1))).trans (hHeld.2.2.2.2.2.2.2.2.2.2.2.2.2.2.2.2.2.2.2.2.2.2.2.2.2.2.2.2.2.2.2.1)
                          have HS32_ := (hb.cell (World.block_lt_of_cell? _ _ (hHeld.2.2.2.2.2.2.2.2.2.2.2.2.2.2.2.2.2.2.2.2.2.2.2.2.2.2.2.2.2.2.2.2.1))).trans (hHeld.2.2.2.2.2.2.2.2.2.2.2.2.2.2.2.2.2.2.2.2.2.2.2.2.2.2.2.2.2.2.2.2.1)
                          have HS33_ := (hb.cell (World.block_lt_of_cell? _ _ (hHeld.2.2.2.2.2.2.2.2.2.2.2.2.2.2.2.2.2.2.2.2.2.2.2.2.2.2.2.2.2.2.2.2.2.1))).trans (hHeld.2.2.2.2.2.2.2.2.2.2.2.2.2.2.2.2.2.2.2.2.2.2.2.2.2.2.2.2.2.2.2.2.2.1)
                          have HS34_ := (hb.cell (World.block_lt_of_cell? _ _ (hHeld.2.2.2.2.2.2.2.2.2.2.2.2.2.2.2.2.2.2.2.2.2.2.2.2.2.2.2.2.2.2.2.2.2.2.1))).trans (hHeld.2.2.2.2.2.2.2.2.2.2.2.2.2.2.2.2.2.2.2.2.2.2.2.2.2.2.2.2.2.2.2.2.2.2.1)
                          have HS35_ := (hb.cell (World.block_lt_of_cell? _ _ (hHeld.2.2.2.2.2.2.2.2.2.2.2.2.2.2.2.2.2.2.2.2.2.2.2.2.2.2.2.2.2.2.2.2.2.2.2.1))).trans (hHeld.2.2.2.2.2.2.2.2.2.2.2.2.2.2.2.2.2.2.2.2.2.2.2.2.2.2.2.2.2.2.2.2.2.2.2.1)
                          have HS36_ := (hb.cell (World.block_lt_of_cell? _ _ (hHeld.2.2.2.2.2.2.2.2.2.2.2.2.2.2.2.2.2.2.2.2.2.2.2.2.2.2.2.2.2.2.2.2.2.2.2.2.1))).trans (hHeld.2.2.2.2.2.2.2.2.2.2.2.2.2.2.2.2.2.2.2.2.2.2.2.2.2.2.2.2.2.2.2.2.2.2.2.2.1)
                          have HS37_ := (hb.cell (World.block_lt_of_cell? _ _ (hHeld.2.2.2.2.2.2.2.2.2.2.2.2.2.2.2.2.2.2.2.2.2.2.2.2.2.2.2.2.2.2.2.2.2.2.2.2.2.1))).trans (hHeld.2.2.2.2.2.2.2.2.2.2.2.2.2.2.2.2.2.2.2.2.2.2.2.2.2.2.2.2.2.2.2.2.2.2.2.2.2.1)
                          have HS38_ := (hb.cell (World.block_lt_of_cell? _ _ (hHeld.2.2.2.2.2.2.2.2.2.2.2.2.2.2.2.2.2.2.2.2.2.2.2.2.2.2.2.2.2.2.2.2.2.2.2.2.2.2.1))).trans (hHeld.2.2.2.2.2.2.2.2.2.2.2.2.2.2.2.2.2.2.2.2.2.2.2.2.2.2.2.2.2.2.2.2.2.2.2.2.2.2.1)
                          have HS39_ := (hb.cell (World.block_lt_of_cell? _ _ (hHeld.2.2.2.2.2.2.2.2.2.2.2.2.2.2.2.2.2.2.2.2.2.2.2.2.2.2.2.2.2.2.2.2.2.2.2.2.2.2.2))).trans (hHeld.2.2.2.2.2.2.2.2.2.2.2.2.2.2.2.2.2.2.2.2.2.2.2.2.2.2.2.2.2.2.2.2.2.2.2.2.2.2.2)
                          refine ⟨_, rfl, ?_⟩
                          have n0_ := Aside0.mk (Kd.R_below (by (with_reducible repeat (first | apply Kd.R_alloc | apply Kd.R_drewN | apply Kd.R_drew)); exact HO_3.out) hb)
                          have n1_ := Aside0.mk (Kd.R_below (by (with_reducible repeat (first | apply Kd.R_alloc | apply Kd.R_drewN | apply Kd.R_drew)); exact HO_38.out) hb)
                          have n2_ := Aside0.mk (Kd.R_below (by (with_reducible repeat (first | apply Kd.R_alloc | apply Kd.R_drewN | apply Kd.R_drew)); exact HO317.out) hb)
                          have n3_ := Aside0.mk (blk_below (g := gb310) (o := .cells #[.int .i64 ((rd_T35 t303 x40_1).f0), .string ((rd_T35 t303 x40_1).f1), .int .i64 ((rd_T35 t303 x40_1).f2.f0), .int .i64 ((rd_T35 t303 x40_1).f2.f1), .bool ((rd_T35 t303 x40_1).f2.f2), .string ((rd_T35 t303 x40_1).f2.f3), .complex .f64 (((rd_T35 t303 x40_1).f2.f4).re) (((rd_T35 t303 x40_1).f2.f4).im), .int .i64 ((rd_T35 t303 x40_1).f3)] 35 (0, 0)) (by (with_reducible repeat (first | refine blk_drewN ?_ _ | refine blk_drew ?_ | refine blk_alloc ?_ _)); exact BK310.out) hb)
                          have n4_ := Aside0.mk (below_step (by repeat (first | (with_reducible first | exact HB.out | apply below_alloc | apply pw_below_drewN | apply below_drew1 | refine below_set ?_ GE310.out) | exact HB.out)) hb)
                          clear HO_3
                          clear HO_38
                          clear HO317
                          clear BK310
                          clear HB
                          have HO_3 := n0_
                          have HO_38 := n1_
                          have HO317 := n2_
                          have BK310 := n3_
                          have HB := n4_
                          clear n0_ n1_ n2_ n3_ n4_
                          (try clear hb)
                          (try clear hb2)
                          (try clear hk)
                          (try clear hi)
                          refine hK.out _ _ ⟨(blk_cell BK310.out 0).trans rfl, (blk_cell BK310.out 1).trans rfl, (blk_cell BK310.out 2).trans rfl, (blk_cell BK310.out 3).trans rfl, (blk_cell BK310.out 4).trans rfl, (blk_cell BK310.out 5).trans rfl, (blk_cell BK310.out 6).trans rfl, (blk_cell BK310.out 7).trans rfl, HS8_, HS9_, HS10_, HS11_, HS12_, HS13_, HS14_, HS15_, HS16_, HS17_, HS18_, HS19_, HS20_, HS21_, HS22_, HS23_, HS24_, HS25_, HS26_, HS27_, HS28_, HS29_, HS30_, HS31_, HS32_, HS33_, HS34_, HS35_, HS36_, HS37_, HS38_, HS39_⟩ (fun hHeld => ?_)
                          clear hK K
                          refine norm_ (a' := ?_) ?_ ?_
                          rotate_left
                          · show Act.put _ (some 141) _ = _
                            simp only [Act.put, List.setIfInBounds_toArray, List.set_cons_zero, List.set_cons_succ, i64_w, i32_w]
                            rfl
                          refine pure_ (i := 33) (N := some 142) (v := ?_) (a' := ?_) (bb_ 34 7) rfl rfl (any_of HT_.out (by kernel_rfl)) (fun _ _ _ h => h) (Or.inl ⟨by rfl, ?_⟩) ?_ ?_; rotate_left; (· intro w'; go_simp; with_reducible rfl); rotate_left; (· simp only [Act.put, List.setIfInBounds_toArray, List.set_cons_zero, List.set_cons_succ, i64_w, i32_w]; rfl)
                          refine pure_ (i := 34) (N := some 143) (v := ?_) (a' := ?_) (bb_ 35 6) rfl rfl (any_of HT_.out (by kernel_rfl)) (fun _ _ _ h => h) (Or.inl ⟨by rfl, ?_⟩) ?_ ?_; rotate_left; (· intro w'; go_simp; with_reducible rfl); rotate_left; (· simp only [Act.put, List.setIfInBounds_toArray, List.set_cons_zero, List.set_cons_succ, i64_w, i32_w]; rfl)
                          refine pure_ (i := 35) (N := some 144) (v := ?_) (a' := ?_) (bb_ 36 5) rfl rfl (any_of HT_.out (by kernel_rfl)) (fun _ _ _ h => h) (Or.inl ⟨by rfl, ?_⟩) ?_ ?_; rotate_left; (· intro w'; go_simp; with_reducible rfl); rotate_left; (· simp only [Act.put, List.setIfInBounds_toArray, List.set_cons_zero, List.set_cons_succ, i64_w, i32_w]; rfl)
                          refine pure_ (i := 36) (N := some 145) (v := ?_) (a' := ?_) (bb_ 37 4) rfl rfl (any_of HT_.out (by kernel_rfl)) (fun _ _ _ h => h) (Or.inl ⟨by rfl, ?_⟩) ?_ ?_; rotate_left; (· intro w'; go_simp; with_reducible rfl); rotate_left; (· simp only [Act.put, List.setIfInBounds_toArray, List.set_cons_zero, List.set_cons_succ, i64_w, i32_w]; rfl)
                          refine pure_ (i := 37) (N := some 146) (v := ?_) (a' := ?_) (bb_ 38 3) rfl rfl (any_of HT_.out (by kernel_rfl)) (fun _ _ _ h => h) (Or.inl ⟨by rfl, ?_⟩) ?_ ?_; rotate_left; (· intro w'; go_simp; with_reducible rfl); rotate_left; (· simp only [Act.put, List.setIfInBounds_toArray, List.set_cons_zero, List.set_cons_succ, i64_w, i32_w]; rfl)
                          refine take_ (i := 38) (N := some 147) (v := ?_) (a' := ?_) (bb_ 39 2) rfl rfl (take_ofW HT_.out HW_.out (by kernel_rfl)) (fun _ _ _ h => h) (Or.inl ⟨by rfl, ?_⟩) hHeld ?_ ?_; rotate_left; (· rintro w' ⟨s0, s1, s2, s3, s4, s5, s6, s7, s8, s9, s10, s11, s12, s13, s14, s15, s16, s17, s18, s19, s20, s21, s22, s23, s24, s25, s26, s27, s28, s29, s30, s31, s32, s33, s34, s35, s36, s37, s38, s39⟩; go_simp; with_reducible rfl); rotate_left; (· simp only [Act.put, List.setIfInBounds_toArray, List.set_cons_zero, List.set_cons_succ, i64_w, i32_w]; rfl)
                          refine pure_ (i := 39) (N := some 148) (v := ?_) (a' := ?_) (bb_ 40 1) rfl rfl (any_of HT_.out (by kernel_rfl)) (fun _ _ _ h => h) (Or.inl ⟨by rfl, ?_⟩) ?_ ?_; rotate_left; (· intro w'; go_simp; with_reducible rfl); rotate_left; (· simp only [Act.put, List.setIfInBounds_toArray, List.set_cons_zero, List.set_cons_succ, i64_w, i32_w]; rfl)
                          refine pure_ (i := 40) (N := some 149) (v := ?_) (a' := ?_) (bb_ 41 0) rfl rfl (any_of HT_.out (by kernel_rfl)) (fun _ _ _ h => h) (Or.inl ⟨by rfl, ?_⟩) ?_ ?_; rotate_left; (· intro w'; go_simp; with_reducible rfl); rotate_left; (· simp only [Act.put, List.setIfInBounds_toArray, List.set_cons_zero, List.set_cons_succ, i64_w, i32_w]; rfl)
                          refine done_ (done_of HT_.out (by kernel_rfl)) ?_
                          try go_wp2
                          go_meet
                          case rel => exact ⟨_, ((((rd_T35 t313 0).f3) == 0)), (by first | rfl | (simp; done) | (simp [*]; done)), H', ⟨by have := HK1.out; have := HJ11.out; have := HJ24.out; have := HJ28.out; have := HK5.out; first | omega | exact Nat.le_refl _⟩, ⟨by (with_reducible repeat (first | apply Kd.R_alloc | apply Kd.R_drewN | apply Kd.R_drew)); exact Kd.R_mono HO_3.out (fun _ hk => hk.1)⟩, ⟨by (with_reducible repeat (first | apply Kd.R_alloc | apply Kd.R_drewN | apply Kd.R_drew)); exact Kd.R_mono HO_38.out (fun _ hk => hk.1)⟩, ⟨by (with_reducible repeat (first | refine blk_drewN ?_ _ | refine blk_drew ?_ | refine blk_alloc ?_ _)); exact BK310.out⟩, ⟨by repeat (first | (with_reducible first | exact HB.out | apply below_alloc | apply pw_below_drewN | apply below_drew1 | refine below_set ?_ GE310.out) | exact HB.out)⟩⟩
                        case rest =>
                          clear HC40
                          try clear p2
                          try clear c4
                          try clear c43
                          try clear c43b0
                          try clear c43b1
                          try clear c44
                          try clear c44b0
                          try clear c44b1
                          try clear c45
                          obtain ⟨kq, x149_39, rfl, HA, HJ39, HO_3, HO_38, BK310, HB⟩ := hcut
                          cases kq with
                          | zero => exact absurd HA.out (by simp [keystonelaw12_LexisLoses.j5])
                          | succ kj39 =>
                            have H := HA.out
                            clear HA
                            simp only [keystonelaw12_LexisLoses.j5] at H
                            by_cases c63 : x149_39 = true
                            · subst c63
                              have H1 : (keystonelaw12_LexisLoses.j6 kj39 a0 t303 x11_5 t303 (t303.length : Int) x40_1 ((rd_T35 t303 x40_1).f0) ((rd_T35 t303 x40_1).f1) ((rd_T35 t303 x40_1).f2.f0) ((rd_T35 t303 x40_1).f2.f1) ((rd_T35 t303 x40_1).f2.f2) ((rd_T35 t303 x40_1).f2.f3) ((rd_T35 t303 x40_1).f2.f4) ((rd_T35 t303 x40_1).f3)) = some r := by rw [if_pos rfl] at H; exact H
                              clear H
                              have H := H1
                              clear H1
                              have H' := Aside0.mk H
                              clear H
                              go_wp2
                              go_meet
                              case rel => exact ⟨_, (x11_5), (by first | rfl | (simp; done) | (simp [*]; done)), H', ⟨by have := HK1.out; have := HJ11.out; have := HJ24.out; have := HJ28.out; have := HK5.out; have := HJ39.out; first | omega | exact Nat.le_refl _⟩, ⟨by (with_reducible repeat (first | apply Kd.R_alloc | apply Kd.R_drewN | apply Kd.R_drew)); exact HO_3.out⟩, ⟨by (with_reducible repeat (first | apply Kd.R_alloc | apply Kd.R_drewN | apply Kd.R_drew)); exact HO_38.out⟩, ⟨by (with_reducible repeat (first | refine blk_drewN ?_ _ | refine blk_drew ?_ | refine blk_alloc ?_ _)); exact BK310.out⟩, ⟨by repeat (first | (with_reducible first | exact HB.out | apply below_alloc | apply pw_below_drewN | apply below_drew1 | refine below_set ?_ GE310.out) | exact HB.out)⟩⟩
                            replace c63 := Bool.eq_false_iff.mpr c63
                            subst c63
                            have H1 : (keystonelaw12_LexisLoses.l1 kj39 a0 t303 x9_24 x10_5 (wrap64 (x11_5 + 1)) t303 (t303.length : Int) x40_1 ((rd_T35 t303 x40_1).f0) ((rd_T35 t303 x40_1).f1) ((rd_T35 t303 x40_1).f2.f0) ((rd_T35 t303 x40_1).f2.f1) ((rd_T35 t303 x40_1).f2.f2) ((rd_T35 t303 x40_1).f2.f3) ((rd_T35 t303 x40_1).f2.f4) ((rd_T35 t303 x40_1).f3)) = some r := by rw [if_neg (show ¬ (false = true) by decide)] at H; exact H
                            clear H
                            have H := H1
                            clear H1
                            have H' := Aside0.mk H
                            clear H
                            go_wp2
                            go_roundg kj39
                            case measure => have := HK1.out; have := HJ11.out; have := HJ24.out; have := HJ28.out; have := HK5.out; have := HJ39.out; omega
                            case rel => exact ⟨(x10_5), (wrap64 (x11_5 + 1)), (by first | rfl | (simp; done) | (simp [*]; done)), (by first | rfl | (simp; done) | (simp [*]; done)), H', ⟨by have := HK1.out; have := HJ11.out; have := HJ24.out; have := HJ28.out; have := HK5.out; have := HJ39.out; omega⟩, ⟨by (with_reducible repeat (first | apply Kd.R_alloc | apply Kd.R_drewN | apply Kd.R_drew)); exact HO_3.out⟩, ⟨by (with_reducible repeat (first | apply Kd.R_alloc | apply Kd.R_drewN | apply Kd.R_drew)); exact HO_38.out⟩, ⟨by (with_reducible repeat (first | refine blk_drewN ?_ _ | refine blk_drew ?_ | refine blk_alloc ?_ _)); exact BK310.out⟩, ⟨by repeat (first | (with_reducible first | exact HB.out | apply below_alloc | apply pw_below_drewN | apply below_drew1 | refine below_set ?_ GE310.out) | exact HB.out)⟩⟩
                  case rest =>
                    clear HC34
                    try clear p2
                    try clear c3
                    try clear c4
                    try clear c6
                    try clear p6
                    try clear c35
                    try clear c35b0
                    try clear c36
                    try clear c37
                    try clear c38
                    try clear c43
                    try clear c43b0
                    try clear c43b1
                    try clear c44
                    try clear c44b0
                    try clear c44b1
                    try clear c45
                    try clear c63
                    try clear p64
                    try clear hcz64_0
                    try clear hcz64_1
                    try clear hcz64_2
                    try clear hcz64_3
                    try clear hcz64_4
                    try clear hcz64_5
                    try clear hcz64_6
                    try clear hcz64_7
                    try clear hfz64_0
                    try clear hfz64_1
                    try clear hfz64_2
                    try clear hfz64_3
                    try clear hfz64_4
                    try clear hfz64_5
                    try clear hfz64_6
                    try clear hfz64_7
                    try clear p2
                    obtain ⟨kq, x10_33, rfl, HA, HJ33, HO_3, HO_38, BK310, HB⟩ := hcut
                    cases kq with
                    | zero => exact absurd HA.out (by simp [keystonelaw12_LexisLoses.j6])
                    | succ kj33 =>
                      have H := HA.out
                      clear HA
                      simp only [keystonelaw12_LexisLoses.j6] at H
                      by_cases c65 : x10_33 = 0
                      · rw [if_pos c65] at H
                        have c65b0 : (x10_33 == 0) = true := beq_iff_eq.mpr c65
                        have c65b1 : (x10_33 != 0) = false := bne_eq_false_iff_eq.mpr c65
                        clear c65
                        obtain rfl := Option.some.inj H
                        exact absurd hr_ (by simp)
                      rw [if_neg c65] at H
                      have c65b0 : (x10_33 == 0) = false := beq_eq_false_iff_ne.mpr c65
                      have c65b1 : (x10_33 != 0) = true := bne_iff_ne.mpr c65
                      have H' := Aside0.mk H
                      clear H
                      have hcz66_0 : wc.cell? ⟨gb310, 0, none⟩ = some (.int .i64 ((rd_T35 t303 x40_1).f0)) := (blk_cell BK310.out 0).trans rfl
                      have hcz66_1 : wc.cell? ⟨gb310, 1, none⟩ = some (.string ((rd_T35 t303 x40_1).f1)) := (blk_cell BK310.out 1).trans rfl
                      have hcz66_2 : wc.cell? ⟨gb310, 2, none⟩ = some (.int .i64 ((rd_T35 t303 x40_1).f2.f0)) := (blk_cell BK310.out 2).trans rfl
                      have hcz66_3 : wc.cell? ⟨gb310, 3, none⟩ = some (.int .i64 ((rd_T35 t303 x40_1).f2.f1)) := (blk_cell BK310.out 3).trans rfl
                      have hcz66_4 : wc.cell? ⟨gb310, 4, none⟩ = some (.bool ((rd_T35 t303 x40_1).f2.f2)) := (blk_cell BK310.out 4).trans rfl
                      have hcz66_5 : wc.cell? ⟨gb310, 5, none⟩ = some (.string ((rd_T35 t303 x40_1).f2.f3)) := (blk_cell BK310.out 5).trans rfl
                      have hcz66_6 : wc.cell? ⟨gb310, 6, none⟩ = some (.complex .f64 (((rd_T35 t303 x40_1).f2.f4).re) (((rd_T35 t303 x40_1).f2.f4).im)) := (blk_cell BK310.out 6).trans rfl
                      have hcz66_7 : wc.cell? ⟨gb310, 7, none⟩ = some (.int .i64 ((rd_T35 t303 x40_1).f3)) := (blk_cell BK310.out 7).trans rfl
                      have hfz66_0 := blk_frozen BK310.out 0
                      have hfz66_1 := blk_frozen BK310.out 1
                      have hfz66_2 := blk_frozen BK310.out 2
                      have hfz66_3 := blk_frozen BK310.out 3
                      have hfz66_4 := blk_frozen BK310.out 4
                      have hfz66_5 := blk_frozen BK310.out 5
                      have hfz66_6 := blk_frozen BK310.out 6
                      have hfz66_7 := blk_frozen BK310.out 7
                      go_wp2
                      go_roundg kj33
                      case measure => have := HK1.out; have := HJ11.out; have := HJ24.out; have := HJ28.out; have := HJ33.out; omega
                      case rel => exact ⟨(wrap64 (((rd_T35 t303 x40_1).f3) + x10_33)), (wrap64 (x40_1 + 1)), (by first | rfl | (simp; done) | (simp [*]; done)), (by first | rfl | (simp; done) | (simp [*]; done)), H', ⟨by have := HK1.out; have := HJ11.out; have := HJ24.out; have := HJ28.out; have := HJ33.out; omega⟩, ⟨by (with_reducible repeat (first | apply Kd.R_alloc | apply Kd.R_drewN | apply Kd.R_drew)); exact Kd.R_mono HO_3.out (fun _ hk => trivial)⟩, ⟨by (with_reducible repeat (first | apply Kd.R_alloc | apply Kd.R_drewN | apply Kd.R_drew)); exact Kd.R_mono HO_38.out (fun _ hk => trivial)⟩, ⟨by repeat (first | (with_reducible first | exact HB.out | apply below_alloc | apply pw_below_drewN | apply below_drew1 | refine below_set ?_ GE310.out) | exact HB.out)⟩⟩

/-- THE ONE PURE STATEMENT of keystonelaw12_LexisLoses: yours. -/
def keystonelaw12_LexisLoses.Pure : Prop := ∀ (a0 : ByteArray), a0.size ≤ 140737488351232 → ∃ k, keystonelaw12_LexisLoses.f k a0 = some true
theorem keystonelaw12_LexisLoses.walk (P : keystonelaw12_LexisLoses.Pure) (a0 : ByteArray) (w : World) (w0 : a0.size ≤ 140737488351232) (hGE : GE w) :
    Calls Tryd.prog 5 #[.string a0] w fun e w' => e = .returned (.bool true) ∧ Below w.heap.size w w' := by
  obtain ⟨k, h⟩ := P a0 w0
  refine (keystonelaw12_LexisLoses.calls k a0 true rfl w hGE h).mono ?_
  rintro e w' ⟨rfl, hd⟩
  exact ⟨rfl, hd⟩

end Go.Proofs.YtmloklmcoedciaaDoor.KB
