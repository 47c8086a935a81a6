/- The plain part of TupleReads, second text: one value at a place; which values may be in a key. Condition: a text of at most 2^47 - 4096 bytes. -/
import Derived.Test.YtdonndklddjfiaaDoorPureReads1
namespace Go.Proofs.YtdonndklddjfiaaDoor.Pure.Rd
open Go.RowKit Go.Proofs.YtdonndklddjfiaaDoor.KA Go.Proofs.YtdonndklddjfiaaDoorW.PrintWords Go.Proofs.YtdonndklddjfiaaDoorW.PrintLast
set_option linter.unusedVariables false

/-- What a key's value may be, its length aside. -/
def OKV (f0 f1 : Int) (f2 : Bool) (f3 : ByteArray) : Prop := (f0 = 1 ∧ f2 = false ∧ f3 = ⟨#[]⟩) ∨ (f0 = 2 ∧ f1 = 0 ∧ f3 = ⟨#[]⟩) ∨ (f0 = 3 ∧ f1 = 0 ∧ f2 = false)
def VGood (s : ByteArray) (p : Nat) : Prop := ∃ (f0 f1 : Int) (f2 : Bool) (f3 : ByteArray) (e : Nat), p < e ∧ e ≤ s.size ∧ OKV f0 f1 f2 f3 ∧ (∃ k, tuple_fromKey.f k (s.extract p s.size) = some (f0, f1, f2, f3, ⟨0, 0⟩, ((e - p : Nat) : Int), true)) ∧ ∃ k, keystoneref04_take.f k s (p : Int) = some (f0, f1, f2, f3, ⟨0, 0⟩, (e : Int))
def VBad (s : ByteArray) (p : Nat) : Prop := (∃ k a0 a1 a2 a3 a4 a5, tuple_fromKey.f k (s.extract p s.size) = some (a0, a1, a2, a3, a4, a5, false)) ∧ ∃ k a0 a1 a2 a3 a4, keystoneref04_take.f k s (p : Int) = some (a0, a1, a2, a3, a4, -1)
theorem from_j0 (x : ByteArray) (hx : 0 < x.size) (k : Nat) (h2 : bt x 0 ≠ 2) : tuple_fromKey.j0 (k + 1) x false = tuple_fromKey.j2 k x false := by
  have c1 : (0 : Int) < (x.size : Int) := by omega
  rw [tuple_fromKey.j0.eq_2, if_neg (by decide), if_pos c1, if_neg h2]
theorem from_j2 (x : ByteArray) (hx : 0 < x.size) (k : Nat) (h3 : bt x 0 ≠ 3) : tuple_fromKey.j2 (k + 1) x false = some (0, 0, false, (⟨#[]⟩ : ByteArray), (⟨0, 0⟩ : CPt), 0, false) := by
  have c1 : (0 : Int) < (x.size : Int) := by omega
  rw [tuple_fromKey.j2.eq_2, if_neg (by decide), if_pos c1, if_neg h3]
theorem from_f (x : ByteArray) (hx : 0 < x.size) (k : Nat) : tuple_fromKey.f k x = if bt x 0 = 1 then tuple_fromKey.j0 k x (decide ((x.size : Int) ≥ 9)) else tuple_fromKey.j0 k x false := by
  have c1 : (0 : Int) < (x.size : Int) := by omega
  rw [tuple_fromKey.f, if_pos c1]
theorem take_f (s : ByteArray) (hs : s.size ≤ 140737488351232) (p : Nat) (hp : p < s.size) (k : Nat) : keystoneref04_take.f k s (p : Int) =
    if bt s (p : Int) = 1 then (if (((s.size - (p + 1) : Nat) : Int)) < 8 then (some (bt s (p : Int), 0, false, (⟨#[]⟩ : ByteArray), (⟨0, 0⟩ : CPt), (-1))) else (keystoneref04_take.l0 k s ((p + 1 : Nat) : Int) 0 0 (bt s (p : Int)) 0 false (⟨#[]⟩ : ByteArray) (⟨0, 0⟩ : CPt)))
    else (if bt s (p : Int) = 2 then (if ((p + 1 : Nat) : Int) ≥ (s.size : Int) then (some (bt s (p : Int), 0, false, (⟨#[]⟩ : ByteArray), (⟨0, 0⟩ : CPt), (-1))) else (if 0 ≤ ((p + 1 : Nat) : Int) then (if ((p + 1 : Nat) : Int) < (s.size : Int) then (if (bt s ((p + 1 : Nat) : Int)) > 1 then (some (bt s (p : Int), 0, false, (⟨#[]⟩ : ByteArray), (⟨0, 0⟩ : CPt), (-1))) else (some (bt s (p : Int), 0, ((bt s ((p + 1 : Nat) : Int)) == 1), (⟨#[]⟩ : ByteArray), (⟨0, 0⟩ : CPt), ((p + 2 : Nat) : Int)))) else (none)) else (none)))
    else (if bt s (p : Int) = 3 then (keystoneref04_take.l1 k s ((p + 1 : Nat) : Int) ([] : List Int) (bt s (p : Int)) 0 false (⟨#[]⟩ : ByteArray) (⟨0, 0⟩ : CPt)) else (some (bt s (p : Int), 0, false, (⟨#[]⟩ : ByteArray), (⟨0, 0⟩ : CPt), (-1))))) := by
  have hr := bt_range s (p : Int)
  have e0 : wrap64 (bt s (p : Int)) = bt s (p : Int) := w64 _ (by omega) (by omega)
  have e1 : wrap64 ((p : Int) + 1) = ((p + 1 : Nat) : Int) := wadd p 1 (by omega) (by omega)
  have e2 : wrap64 ((s.size : Int) - ((p + 1 : Nat) : Int)) = ((s.size - (p + 1) : Nat) : Int) := by rw [w64 _ (by omega) (by omega)]; omega
  have e3 : wrap64 (((p + 1 : Nat) : Int) + 1) = ((p + 2 : Nat) : Int) := wadd (p + 1) 1 (by omega) (by omega)
  have c1 : (p : Int) < (s.size : Int) := by omega
  rw [keystoneref04_take.f, if_pos (Int.natCast_nonneg _), if_pos c1, e0, e1, e2, e3]
theorem value_int (s : ByteArray) (hs : s.size ≤ 140737488351232) (p : Nat) (hp : p < s.size) (hc : bt s (p : Int) = 1) : VGood s p ∨ VBad s p := by
  have hz := ext_size s p s.size (Nat.le_refl _)
  have hx : bt (s.extract p s.size) 0 = 1 := (ext_at s p s.size 0 (Nat.le_refl _) (by omega)).trans hc
  have hx0 : 0 < (s.extract p s.size).size := by omega
  by_cases h9 : p + 9 ≤ s.size
  · obtain ⟨k1, p1⟩ := prog_eight s hs p h9 8 0 rfl
    obtain ⟨k2, p2⟩ := ref_eight s hs (p + 1) (by omega) 1 0 false ⟨#[]⟩ ⟨0, 0⟩ 8 0 rfl
    refine .inl ⟨1, wrap64 (IntKind.u64.wrap (acc8 s (p + 1) 8 - 9223372036854775808)), false, ⟨#[]⟩, p + 9, by omega, h9, .inl ⟨rfl, rfl, rfl⟩, ⟨k1 + 1, ?_⟩, ⟨k2, ?_⟩⟩
    · rw [from_f _ hx0, if_pos hx, decide_eq_true (show ((s.extract p s.size).size : Int) ≥ 9 by omega), tuple_fromKey.j0.eq_2, if_pos rfl, show p + 9 - p = 9 by omega]
      exact p1
    · rw [take_f s hs p hp, if_pos hc, if_neg (by omega), hc]
      exact p2
  · have g1 : tuple_fromKey.f (0 + 1 + 1) (s.extract p s.size) = some (0, 0, false, (⟨#[]⟩ : ByteArray), (⟨0, 0⟩ : CPt), 0, false) := by rw [from_f _ hx0, if_pos hx, decide_eq_false (show ¬ ((s.extract p s.size).size : Int) ≥ 9 by omega), from_j0 _ hx0 _ (by rw [hx]; decide), from_j2 _ hx0 _ (by rw [hx]; decide)]
    have g2 : keystoneref04_take.f 0 s (p : Int) = some (bt s (p : Int), 0, false, (⟨#[]⟩ : ByteArray), (⟨0, 0⟩ : CPt), (-1)) := by rw [take_f s hs p hp, if_pos hc, if_pos (by omega)]
    exact .inr ⟨⟨_, _, _, _, _, _, _, g1⟩, ⟨_, _, _, _, _, _, g2⟩⟩
theorem value_bool (s : ByteArray) (hs : s.size ≤ 140737488351232) (p : Nat) (hp : p < s.size) (hc : bt s (p : Int) = 2) : VGood s p ∨ VBad s p := by
  have hz := ext_size s p s.size (Nat.le_refl _)
  have hx : bt (s.extract p s.size) 0 = 2 := (ext_at s p s.size 0 (Nat.le_refl _) (by omega)).trans hc
  have hx0 : 0 < (s.extract p s.size).size := by omega
  have hx01 : (0 : Int) < ((s.extract p s.size).size : Int) := by omega
  have hno : ∀ k, tuple_fromKey.j2 (k + 1) (s.extract p s.size) false = some (0, 0, false, (⟨#[]⟩ : ByteArray), (⟨0, 0⟩ : CPt), 0, false) := fun k => from_j2 _ hx0 k (by rw [hx]; decide)
  by_cases h2 : p + 1 < s.size
  · have hb1 : bt (s.extract p s.size) 1 = bt s ((p + 1 : Nat) : Int) := ext_at s p s.size 1 (Nat.le_refl _) (by omega)
    have hr := bt_range s ((p + 1 : Nat) : Int)
    have c2 : ((s.extract p s.size).size : Int) ≥ 2 := by omega
    have c1 : (1 : Int) < ((s.extract p s.size).size : Int) := by omega
    have J : ∀ k, tuple_fromKey.f (k + 1) (s.extract p s.size) = tuple_fromKey.j2 k (s.extract p s.size) (decide (bt s ((p + 1 : Nat) : Int) < 2)) := fun k => by
      rw [from_f _ hx0, if_neg (by rw [hx]; decide), tuple_fromKey.j0.eq_2, if_neg (by decide), if_pos hx01, if_pos hx, if_pos c2, if_pos c1, hb1]
    by_cases hb : bt s ((p + 1 : Nat) : Int) < 2
    · refine .inl ⟨2, 0, (bt s ((p + 1 : Nat) : Int) == 1), ⟨#[]⟩, p + 2, by omega, by omega, .inr (.inl ⟨rfl, rfl, rfl⟩), ⟨0 + 1 + 1, ?_⟩, ⟨0, ?_⟩⟩
      · rw [J, decide_eq_true hb, tuple_fromKey.j2.eq_2, if_pos rfl, if_pos c1, tuple_Bool.f, Option.bind_some, hb1, show p + 2 - p = 2 by omega]
        rfl
      · rw [take_f s hs p hp, if_neg (by rw [hc]; decide), if_pos hc, if_neg (by omega), if_pos (Int.natCast_nonneg _), if_pos (by omega), if_neg (by omega), hc]
    · have g1 : tuple_fromKey.f (0 + 1 + 1) (s.extract p s.size) = some (0, 0, false, (⟨#[]⟩ : ByteArray), (⟨0, 0⟩ : CPt), 0, false) := by rw [J, decide_eq_false hb, hno]
      have g2 : keystoneref04_take.f 0 s (p : Int) = some (bt s (p : Int), 0, false, (⟨#[]⟩ : ByteArray), (⟨0, 0⟩ : CPt), (-1)) := by rw [take_f s hs p hp, if_neg (by rw [hc]; decide), if_pos hc, if_neg (by omega), if_pos (Int.natCast_nonneg _), if_pos (by omega), if_pos (by omega)]
      exact .inr ⟨⟨_, _, _, _, _, _, _, g1⟩, ⟨_, _, _, _, _, _, g2⟩⟩
  · have c2 : ¬ ((s.extract p s.size).size : Int) ≥ 2 := by omega
    have g1 : tuple_fromKey.f (0 + 1 + 1) (s.extract p s.size) = some (0, 0, false, (⟨#[]⟩ : ByteArray), (⟨0, 0⟩ : CPt), 0, false) := by rw [from_f _ hx0, if_neg (by rw [hx]; decide), tuple_fromKey.j0.eq_2, if_neg (by decide), if_pos hx01, if_pos hx, if_neg c2, hno]
    have g2 : keystoneref04_take.f 0 s (p : Int) = some (bt s (p : Int), 0, false, (⟨#[]⟩ : ByteArray), (⟨0, 0⟩ : CPt), (-1)) := by rw [take_f s hs p hp, if_neg (by rw [hc]; decide), if_pos hc, if_pos (by omega)]
    exact .inr ⟨⟨_, _, _, _, _, _, _, g1⟩, ⟨_, _, _, _, _, _, g2⟩⟩
theorem value_bytes (s : ByteArray) (hs : s.size ≤ 140737488351232) (p : Nat) (hp : p < s.size) (hc : bt s (p : Int) = 3) : VGood s p ∨ VBad s p := by
  have hz := ext_size s p s.size (Nat.le_refl _)
  have hx : bt (s.extract p s.size) 0 = 3 := (ext_at s p s.size 0 (Nat.le_refl _) (by omega)).trans hc
  have hx0 : 0 < (s.extract p s.size).size := by omega
  have hx01 : (0 : Int) < ((s.extract p s.size).size : Int) := by omega
  have c1 : (1 : Int) ≤ ((s.extract p s.size).size : Int) := by omega
  have J : ∀ k, tuple_fromKey.f (k + 1 + 1) (s.extract p s.size) = ((tuple_fromBytes.f k (s.extract (p + 1) s.size)).bind fun bt191 => ((tuple_Bytes.f bt191.1).bind fun bt194 => (some (bt194.1, bt194.2.1, bt194.2.2.1, bt194.2.2.2.1, bt194.2.2.2.2, wrap64 (bt191.2.1 + 1), bt191.2.2)))) := fun k => by
    rw [from_f _ hx0, if_neg (by rw [hx]; decide), from_j0 _ hx0 _ (by rw [hx]; decide), tuple_fromKey.j2.eq_2, if_neg (by decide), if_pos hx01, if_pos hx, if_pos c1, ext_tail s p 1 (by omega)]
  have T : ∀ k, keystoneref04_take.f k s (p : Int) = keystoneref04_take.l1 k s ((p + 1 : Nat) : Int) [] 3 0 false ⟨#[]⟩ ⟨0, 0⟩ := fun k => by
    rw [take_f s hs p hp, if_neg (by rw [hc]; decide), if_neg (by rw [hc]; decide), if_pos hc, hc]
  rcases bytes_both s hs p hp 3 0 false ⟨#[]⟩ ⟨0, 0⟩ (s.size - (p + 1)) 0 [] (by omega) (by omega) (by simp) with ⟨bs, e, q1, q2, ⟨k1, p1⟩, k2, p2⟩ | ⟨⟨k1, p1⟩, k2, p2⟩
  · have we : wrap64 ((e : Int) + 1) = ((e + 1 : Nat) : Int) := wadd e 1 (by omega) (by omega)
    refine .inl ⟨3, 0, false, bs, p + 1 + e, by omega, q2, .inr (.inr ⟨rfl, rfl, rfl⟩), ⟨k1 + 1 + 1, ?_⟩, ⟨k2, ?_⟩⟩
    · have p1' : tuple_fromBytes.f k1 (s.extract (p + 1) s.size) = some (bs, (e : Int), true) := p1
      rw [J, p1', Option.bind_some, tuple_Bytes.f, Option.bind_some, we, show p + 1 + e - p = e + 1 by omega]
    · rw [T]
      exact p2
  · have p1' : tuple_fromBytes.f k1 (s.extract (p + 1) s.size) = some (⟨#[]⟩, 0, false) := p1
    have g1 : tuple_fromKey.f (k1 + 1 + 1) (s.extract p s.size) = some (3, 0, false, (⟨#[]⟩ : ByteArray), (⟨0, 0⟩ : CPt), wrap64 (0 + 1), false) := by rw [J, p1', Option.bind_some, tuple_Bytes.f, Option.bind_some]
    have g2 : keystoneref04_take.f k2 s (p : Int) = some (3, 0, false, (⟨#[]⟩ : ByteArray), (⟨0, 0⟩ : CPt), (-1)) := (T k2).trans p2
    exact .inr ⟨⟨_, _, _, _, _, _, _, g1⟩, ⟨_, _, _, _, _, _, g2⟩⟩
theorem value_both (s : ByteArray) (hs : s.size ≤ 140737488351232) (p : Nat) (hp : p < s.size) : VGood s p ∨ VBad s p := by
  by_cases h1 : bt s (p : Int) = 1
  · exact value_int s hs p hp h1
  by_cases h2 : bt s (p : Int) = 2
  · exact value_bool s hs p hp h2
  by_cases h3 : bt s (p : Int) = 3
  · exact value_bytes s hs p hp h3
  · have hz := ext_size s p s.size (Nat.le_refl _)
    have hx : bt (s.extract p s.size) 0 = bt s (p : Int) := ext_at s p s.size 0 (Nat.le_refl _) (by omega)
    have hx0 : 0 < (s.extract p s.size).size := by omega
    have g1 : tuple_fromKey.f (0 + 1 + 1) (s.extract p s.size) = some (0, 0, false, (⟨#[]⟩ : ByteArray), (⟨0, 0⟩ : CPt), 0, false) := by rw [from_f _ hx0, if_neg (by rw [hx]; exact h1), from_j0 _ hx0 _ (by rw [hx]; exact h2), from_j2 _ hx0 _ (by rw [hx]; exact h3)]
    have g2 : keystoneref04_take.f 0 s (p : Int) = some (bt s (p : Int), 0, false, (⟨#[]⟩ : ByteArray), (⟨0, 0⟩ : CPt), (-1)) := by rw [take_f s hs p hp, if_neg h1, if_neg h2, if_neg h3]
    exact .inr ⟨⟨_, _, _, _, _, _, _, g1⟩, ⟨_, _, _, _, _, _, g2⟩⟩

/-! ### which values may be -/
theorem check_prog (f0 f1 : Int) (f2 : Bool) (f3 : ByteArray) (h : OKV f0 f1 f2 f3) (k : Nat) : tuple_Check.f (k + 3) f0 f1 f2 f3 ⟨0, 0⟩ = some (if (f3.size : Int) > 4096 then 3 else 0) := by
  have hne : (!((FloatKind.f64.format.order 0 0 == some .eq) && (FloatKind.f64.format.order 0 0 == some .eq))) = false := by decide
  have hnil : (⟨#[]⟩ : ByteArray).toList = [] := ByteArray.toList_mk []
  have J2 : ∀ (a0 a1 : Int) (a2 : Bool), a0 ≠ 4 → tuple_Check.j2 (k + 1) false a0 a1 a2 f3 ⟨0, 0⟩ = some (if (f3.size : Int) > 4096 then 3 else 0) := fun a0 a1 a2 ha => by
    rw [tuple_Check.j2.eq_2, if_neg (by decide)]
    by_cases hl : (f3.size : Int) > 4096
    · rw [if_pos hl, if_pos hl]
    · rw [if_neg hl, if_neg hl, if_neg ha]
  rcases h with ⟨rfl, rfl, rfl⟩ | ⟨rfl, rfl, rfl⟩ | ⟨rfl, rfl, rfl⟩
  · rw [tuple_Check.f, if_neg (by decide), show decide ((1 : Int) > 4) = false by decide, tuple_Check.j0.eq_2, if_neg (by decide), if_pos rfl, if_neg (by decide), tuple_Check.j1.eq_2, if_neg (by decide), if_neg (by decide), hnil, if_pos rfl, if_neg (by decide), hne, J2 _ _ _ (by decide)]
  · rw [tuple_Check.f, if_neg (by decide), show decide ((2 : Int) > 4) = false by decide, tuple_Check.j0.eq_2, if_neg (by decide), if_neg (by decide), if_pos rfl, if_pos rfl, tuple_Check.j1.eq_2, if_neg (by decide), if_neg (by decide), hnil, if_pos rfl, if_neg (by decide), hne, J2 _ _ _ (by decide)]
  · rw [tuple_Check.f, if_neg (by decide), show decide ((3 : Int) > 4) = false by decide, tuple_Check.j0.eq_2, if_neg (by decide), if_neg (by decide), if_pos rfl, if_neg (by decide), tuple_Check.j1.eq_2, if_neg (by decide), if_pos rfl, if_neg (by decide), hne, J2 _ _ _ (by decide)]
end Go.Proofs.YtdonndklddjfiaaDoor.Pure.Rd
