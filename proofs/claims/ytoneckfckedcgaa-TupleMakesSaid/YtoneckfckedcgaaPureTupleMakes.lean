/- The plain part of TupleMakes: what the walk computes is always true. Condition: none beyond the ranges of the arguments. -/
import Derived.Test.YtoneckfckedcgaaKBx3
namespace Go.Proofs.Ytoneckfckedcgaa.Pure
open Go.RowKit Go.Proofs.Ytoneckfckedcgaa.KB Go.Proofs.YtoneckfckedcgaaW.PrintWords Go.Proofs.YtoneckfckedcgaaW.PrintLast

theorem order_self (d : Ieee.Datum) (h : d.isNaN = false) : d.order d = some .eq := by
  cases d with
  | number s m i => simp [Ieee.Datum.order]
  | infinity s => simp [Ieee.Datum.order]
  | nan s t => simp [Ieee.Datum.isNaN] at h

theorem read_word (f : Ieee.Format) (neg : Bool) (rung : Nat) (h : rung ≤ f.infRung) : (f.read (f.word neg rung)).isNaN = false := by
  have h1 := f.infRung_lt
  have h2 : f.word neg rung % f.signWeight = rung := by
    unfold Ieee.Format.word
    split
    · rw [Nat.add_mod_left, Nat.mod_eq_of_lt (by omega)]
    · exact Nat.mod_eq_of_lt (by omega)
  unfold Ieee.Format.read
  simp only [h2]
  split
  · rfl
  · split
    · rfl
    · split
      · rfl
      · omega

theorem read_nearest (f : Ieee.Format) (neg : Bool) (mag : Nat) (place : Int) : (f.read (f.nearest neg mag place)).isNaN = false := by
  unfold Ieee.Format.nearest
  dsimp only
  split
  · exact read_word f _ _ (Nat.zero_le _)
  · exact read_word f _ _ (Nat.min_le_right ..)

theorem eq_self_ofInt (n : Int) : FloatKind.f64.format.order (floatOfInt .f64 n) (floatOfInt .f64 n) = some .eq :=
  order_self _ (read_nearest _ _ _ _)

theorem eq_self_zero : FloatKind.f64.format.order 0 0 = some .eq := by decide +kernel

theorem quotient_one (x : Ieee.Datum) (h : x.isNaN = false) (k m : Nat) (b : Bool) (i : Int) (hm : m ≠ 0) : ∃ y, (Ieee.Datum.number b m i).quotient k x = some y := by
  cases x with
  | number t n j => simp only [Ieee.Datum.quotient]; split <;> simp_all
  | infinity t => exact ⟨_, rfl⟩
  | nan t u => simp [Ieee.Datum.isNaN] at h

theorem minus_some (x : Nat) (h : (Ieee.Format.read FloatKind.f64.format x).isNaN = false) : ∃ b, keystonelaw04_minus.f x = some b := by
  unfold keystonelaw04_minus.f
  split
  · exact ⟨_, rfl⟩
  · split
    · have e : ∃ m b i, Ieee.Format.read FloatKind.f64.format 4607182418800017408 = .number b m i ∧ m ≠ 0 := ⟨_, _, _, rfl, by decide +kernel⟩
      obtain ⟨m, b, i, e, hm⟩ := e
      obtain ⟨y, hy⟩ := quotient_one (Ieee.Format.read FloatKind.f64.format x) h (FloatKind.f64.format.fractionBits + 2) m b i hm
      have e2 : floatBits .quo .f64 4607182418800017408 x = some (FloatKind.f64.format.write y) := by
        show Ieee.Format.div _ _ _ = _
        unfold Ieee.Format.div
        rw [e, hy]
        rfl
      rw [e2]
      exact ⟨_, rfl⟩
    · exact ⟨_, rfl⟩

theorem zero_ok : (Ieee.Format.read FloatKind.f64.format 0).isNaN = false := by decide +kernel

theorem bits_same (k n : Int) (y : Bool) (s : ByteArray) (p : CPt) (h1 : (Ieee.Format.read FloatKind.f64.format p.re).isNaN = false) (h2 : (Ieee.Format.read FloatKind.f64.format p.im).isNaN = false) :
    keystonelaw04_bits.f k n y s p k n y s p = some true := by
  obtain ⟨b1, e1⟩ := minus_some _ h1
  obtain ⟨b2, e2⟩ := minus_some _ h2
  have o1 : FloatKind.f64.format.order p.re p.re = some .eq := order_self _ h1
  have o2 : FloatKind.f64.format.order p.im p.im = some .eq := order_self _ h2
  simp [keystonelaw04_bits.f, keystoneref04_SameValue.f, e1, e2, o1, o2]

theorem TupleMakes : keystonelaw04_TupleMakes.Pure := by
  intro a0 a1 a2 a3 a4 a5 _ _ _ _ _
  have z := bits_same (p := ⟨0, 0⟩) (h1 := zero_ok) (h2 := zero_ok)
  have q := bits_same 4 0 false ⟨#[]⟩ ⟨floatOfInt .f64 a1, floatOfInt .f64 a2⟩ (read_nearest _ _ _ _) (read_nearest _ _ _ _)
  have e : tuple_Zero.f a5 = keystoneref04_Zero.f a5 := rfl
  have e2 : ∃ k, keystoneref04_Zero.f a5 = some (k, 0, false, ⟨#[]⟩, ⟨0, 0⟩, 5) ∨ keystoneref04_Zero.f a5 = some (k, 0, false, ⟨#[]⟩, ⟨0, 0⟩, 0) := by
    unfold keystoneref04_Zero.f
    split
    · exact ⟨_, .inl rfl⟩
    · split
      · exact ⟨_, .inl rfl⟩
      · exact ⟨_, .inr rfl⟩
  obtain ⟨k, e2 | e2⟩ := e2 <;>
    simp [keystonelaw04_TupleMakes.f, e, e2, z, q, tuple_Int.f, tuple_Bool.f, tuple_Bytes.f, tuple_Point.f]

end Go.Proofs.Ytoneckfckedcgaa.Pure
