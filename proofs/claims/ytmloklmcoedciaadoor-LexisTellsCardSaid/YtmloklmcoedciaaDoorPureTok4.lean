/- The plain part of the laws over Tokens, fourth text: signs, and the next token: the program reads what the document reads. Condition: a text of at most 65536 bytes, where it is said. -/
import Derived.Test.YtmloklmcoedciaaDoorPureTok3
namespace Go.Proofs.YtmloklmcoedciaaDoor.Pure.Tok
open Go.RowKit Go.Proofs.YtmloklmcoedciaaDoor.KA Go.Proofs.YtmloklmcoedciaaDoorW.PrintWords Go.Proofs.YtmloklmcoedciaaDoorW.PrintLast
set_option linter.unusedVariables false

/-! ### signs -/
def lits : ByteArray := ⟨#[40, 41, 123, 125, 44, 59, 58, 61, 60, 33, 43, 45, 42, 47, 37]⟩
def rs : List Int := [40, 41, 123, 125, 44, 59, 58, 61, 60, 33, 43, 45, 42, 47, 37]
theorem lits_at : ∀ j : Fin 15, bt lits (j.val : Int) = rs.getD j.val 0 ∧ rs.drop j.val = rs.getD j.val 0 :: rs.drop (j.val + 1) := by decide +kernel
theorem lits_find : ∀ c : Fin 256, decide (Lib.indexByte lits.data.toList (c.val : Int).toNat.toUInt8 ≥ 0) = rs.contains (c.val : Int) := by decide +kernel
theorem find_is (c : Int) (h0 : 0 ≤ c) (h1 : c ≤ 255) : (Lib.indexByte lits.data.toList c.toNat.toUInt8 ≥ 0) ↔ rs.contains c = true := by
  have h := lits_find ⟨c.toNat, by omega⟩
  have e : ((c.toNat : Nat) : Int) = c := by omega
  simp only [e] at h
  rw [← h, decide_eq_true_iff]
theorem ext_size (s : ByteArray) (a b : Nat) (h : b ≤ s.size) : (s.extract a b).size = b - a := by
  rw [ByteArray.size_extract]
  omega
theorem nil_iff (s : ByteArray) : s.toList = [] ↔ s.size = 0 := by
  rw [ByteArray.toList_eq]
  constructor
  · intro h
    have h2 := congrArg List.length h
    rw [Array.length_toList] at h2
    exact h2
  · intro h
    apply List.eq_nil_of_length_eq_zero
    rw [Array.length_toList]
    exact h
theorem sign_loop (s : ByteArray) (hs : s.size ≤ 65536) (i : Nat) (hi : i < s.size) : ∀ (n j : Nat), j + n = 15 → ∃ k, keystoneref12_sign.l0 k s (i : Int) (j : Int) = some (if (rs.drop j).contains (bt s (i : Int)) then s.extract i (i + 1) else ⟨#[]⟩)
  | 0, j, h => by
    obtain rfl : j = 15 := by omega
    refine ⟨0 + 1, ?_⟩
    rw [keystoneref12_sign.l0.eq_2, if_neg (by omega)]
    rfl
  | n + 1, j, h => by
    obtain ⟨k, ih⟩ := sign_loop s hs i hi n (j + 1) (by omega)
    obtain ⟨a1, a2⟩ := lits_at ⟨j, by omega⟩
    refine ⟨k + 1, ?_⟩
    have e1 : bt (⟨#[40, 41, 123, 125, 44, 59, 58, 61, 60, 33, 43, 45, 42, 47, 37]⟩ : ByteArray) (j : Int) = rs.getD j 0 := a1
    rw [keystoneref12_sign.l0.eq_2, if_pos (by omega), if_pos (Int.natCast_nonneg _), if_pos (Int.natCast_nonneg _), if_pos (by omega), e1, a2, List.contains_cons]
    by_cases hc : rs.getD j 0 = bt s (i : Int)
    · rw [if_pos hc, wsucc i (by omega), if_pos (by omega), if_pos (by omega), hc]
      simp
    · have hb : (bt s (i : Int) == rs.getD j 0) = false := beq_eq_false_iff_ne.2 (fun e => hc e.symm)
      rw [if_neg hc, wsucc j (by omega), ih, hb, Bool.false_or]
/-- What two bytes a sign may have. -/
def twos : List (List UInt8) := [[61, 61], [33, 61], [60, 61], [38, 38], [124, 124]]
def sgn (s : ByteArray) (i : Nat) : Nat := if i + 1 < s.size ∧ (s.extract i (i + 2)).toList ∈ twos then 2 else if rs.contains (bt s (i : Int)) = true then 1 else 0
theorem sgn_le (s : ByteArray) (i : Nat) (hi : i < s.size) : i + sgn s i ≤ s.size := by
  unfold sgn
  split
  · omega
  · split <;> omega
theorem ref_sign (s : ByteArray) (hs : s.size ≤ 65536) (i : Nat) (hi : i < s.size) : ∃ k, keystoneref12_sign.f k s (i : Int) = some (if sgn s i = 0 then ⟨#[]⟩ else s.extract i (i + sgn s i)) := by
  obtain ⟨k, hk⟩ := sign_loop s hs i hi 15 0 rfl
  have J : ¬ (i + 1 < s.size ∧ (s.extract i (i + 2)).toList ∈ twos) → keystoneref12_sign.j0 (k + 1) s (i : Int) = some (if sgn s i = 0 then ⟨#[]⟩ else s.extract i (i + sgn s i)) := fun hn => by
    rw [keystoneref12_sign.j0]
    refine hk.trans ?_
    unfold sgn
    rw [if_neg hn, List.drop_zero]
    by_cases hc : rs.contains (bt s (i : Int)) = true
    · rw [if_pos hc, if_pos hc, if_neg (by decide)]
    · rw [if_neg hc, if_neg hc, if_pos rfl]
  refine ⟨k + 1, ?_⟩
  have cw := wsucc i (by omega)
  have cw2 : wrap64 ((i : Int) + 2) = ((i + 2 : Nat) : Int) := by rw [w64 _ (by omega) (by omega)]; omega
  rw [keystoneref12_sign.f, cw]
  by_cases h1 : i + 1 < s.size
  · rw [if_pos (by omega), if_pos (Int.natCast_nonneg _), cw2, if_pos (by omega), if_pos (by omega)]
    simp only [Int.toNat_natCast]
    by_cases ht : (s.extract i (i + 2)).toList ∈ twos
    · have h2 : sgn s i = 2 := by unfold sgn; rw [if_pos ⟨h1, ht⟩]
      rw [show (if sgn s i = 0 then (⟨#[]⟩ : ByteArray) else s.extract i (i + sgn s i)) = s.extract i (i + 2) by rw [h2]; rfl]
      simp only [twos, List.mem_cons, List.not_mem_nil, or_false] at ht
      rcases ht with ht | ht | ht | ht | ht <;> simp [ht]
    · rw [← J (fun h => ht h.2)]
      simp only [twos, List.mem_cons, List.not_mem_nil, or_false, not_or] at ht
      rw [if_neg ht.1, if_neg ht.2.1, if_neg ht.2.2.1, if_neg ht.2.2.2.1, if_neg ht.2.2.2.2]
  · rw [if_neg (by omega)]
    exact J (fun h => h1 h.1)
theorem ext_ext (s : ByteArray) (i : Nat) (h : i + 1 < s.size) : (s.extract i s.size).extract 0 2 = s.extract i (i + 2) := by
  rw [ByteArray.extract_extract]
  congr 1
  omega
theorem prefix_is (s : ByteArray) (i : Nat) (hi : i < s.size) (a b : UInt8) : strings_HasPrefix.f (s.extract i s.size) ⟨#[a, b]⟩ = some (decide (i + 1 < s.size ∧ (s.extract i (i + 2)).toList = [a, b])) := by
  have hz := ext_size s i s.size (Nat.le_refl _)
  have h2 : (⟨#[a, b]⟩ : ByteArray).size = 2 := rfl
  have h3 : (⟨#[a, b]⟩ : ByteArray).toList = [a, b] := ByteArray.toList_mk [a, b]
  unfold strings_HasPrefix.f stringslite_HasPrefix.f
  rw [hz, h2, h3]
  by_cases h1 : i + 1 < s.size
  · rw [if_pos (by omega), if_pos (by omega), if_pos (by omega)]
    rw [show (((2 : Nat) : Int)).toNat = 2 from rfl, ext_ext s i h1, Option.bind_some]
    congr 1
    rw [Bool.eq_iff_iff]
    simp [h1]
  · rw [if_neg (by omega), Option.bind_some]
    simp [h1]
theorem prog_sign (s : ByteArray) (hs : s.size ≤ 65536) (i : Nat) (hi : i < s.size) (k : Nat) : lexis_sign.f (k + 6) (s.extract i s.size) = some (sgn s i : Int) := by
  have hz := ext_size s i s.size (Nat.le_refl _)
  have P := prefix_is s i hi
  have hne : ¬ (s.extract i s.size).toList = ([] : List UInt8) := fun h => by
    rw [nil_iff, hz] at h
    omega
  have hb : bt (s.extract i s.size) 0 = bt s (i : Int) := by
    have g := Lx.tail_at s i 0 (by omega)
    have g2 : (0 : Nat) < (s.extract i s.size).size := by omega
    rw [show (0 : Int) = ((0 : Nat) : Int) from rfl, Lx.bt_nat _ 0 g2, Lx.bt_nat s i hi]
    rw [Lib.data_getElem? _ 0 g2] at g
    rw [Option.some.inj g]
    rfl
  have hr := bt_range s (i : Int)
  unfold lexis_sign.f
  rw [Option.bind_some]
  simp only [List.length_cons, List.length_nil]
  have w1 : ∀ n : Nat, n < 6 → wrap64 ((n : Int) + 1) = ((n + 1 : Nat) : Int) := fun n hn => wsucc n (by omega)
  have step : ∀ (k n : Nat) (a b : UInt8), n < 5 → [(⟨#[61, 61]⟩ : ByteArray), (⟨#[33, 61]⟩ : ByteArray), (⟨#[60, 61]⟩ : ByteArray), (⟨#[38, 38]⟩ : ByteArray), (⟨#[124, 124]⟩ : ByteArray)].getD n ByteArray.empty = ⟨#[a, b]⟩ →
      lexis_sign.l0 (k + 1) (s.extract i s.size) [(⟨#[61, 61]⟩ : ByteArray), (⟨#[33, 61]⟩ : ByteArray), (⟨#[60, 61]⟩ : ByteArray), (⟨#[38, 38]⟩ : ByteArray), (⟨#[124, 124]⟩ : ByteArray)] 5 (n : Int) = if i + 1 < s.size ∧ (s.extract i (i + 2)).toList = [a, b] then some 2 else lexis_sign.l0 k (s.extract i s.size) [(⟨#[61, 61]⟩ : ByteArray), (⟨#[33, 61]⟩ : ByteArray), (⟨#[60, 61]⟩ : ByteArray), (⟨#[38, 38]⟩ : ByteArray), (⟨#[124, 124]⟩ : ByteArray)] 5 ((n + 1 : Nat) : Int) := fun k n a b hn hg => by
    rw [lexis_sign.l0.eq_2, if_pos (by omega), if_pos (Int.natCast_nonneg _), if_pos (by simp only [List.length_cons, List.length_nil]; omega), rdOf, Int.toNat_natCast, hg, P, Option.bind_some, w1 n (by omega)]
    by_cases h : i + 1 < s.size ∧ (s.extract i (i + 2)).toList = [a, b]
    · rw [if_pos h, if_pos (decide_eq_true h)]
    · rw [if_neg h, if_neg (by simpa using h)]
  have last : lexis_sign.l0 (k + 1) (s.extract i s.size) [(⟨#[61, 61]⟩ : ByteArray), (⟨#[33, 61]⟩ : ByteArray), (⟨#[60, 61]⟩ : ByteArray), (⟨#[38, 38]⟩ : ByteArray), (⟨#[124, 124]⟩ : ByteArray)] 5 ((4 + 1 : Nat) : Int) = some (if rs.contains (bt s (i : Int)) = true then 1 else 0) := by
    rw [lexis_sign.l0.eq_2, if_neg (by decide), if_neg hne, if_pos (by omega), hb]
    have hf := find_is (bt s (i : Int)) hr.1 hr.2
    rw [strings_IndexByte.f, Option.bind_some]
    by_cases hc : rs.contains (bt s (i : Int)) = true
    · rw [if_pos hc]
      exact if_pos (hf.2 hc)
    · rw [if_neg hc]
      exact if_neg (fun h => hc (hf.1 h))
  have all : lexis_sign.l0 (k + 6) (s.extract i s.size) [(⟨#[61, 61]⟩ : ByteArray), (⟨#[33, 61]⟩ : ByteArray), (⟨#[60, 61]⟩ : ByteArray), (⟨#[38, 38]⟩ : ByteArray), (⟨#[124, 124]⟩ : ByteArray)] 5 ((0 : Nat) : Int) = some (sgn s i : Int) := by
    rw [step _ 0 61 61 (by omega) rfl, step _ 1 33 61 (by omega) rfl, step _ 2 60 61 (by omega) rfl, step _ 3 38 38 (by omega) rfl, step _ 4 124 124 (by omega) rfl, last]
    unfold sgn
    simp only [twos, List.mem_cons, List.not_mem_nil, or_false]
    by_cases h1 : i + 1 < s.size
    · simp only [h1, true_and]
      by_cases e1 : (s.extract i (i + 2)).toList = [61, 61]
      · simp [e1]
      by_cases e2 : (s.extract i (i + 2)).toList = [33, 61]
      · simp [e2]
      by_cases e3 : (s.extract i (i + 2)).toList = [60, 61]
      · simp [e3]
      by_cases e4 : (s.extract i (i + 2)).toList = [38, 38]
      · simp [e4]
      by_cases e5 : (s.extract i (i + 2)).toList = [124, 124]
      · simp [e5]
      simp only [e1, e2, e3, e4, e5, if_false, or_self]
      split <;> rfl
    · simp only [h1, false_and, if_false]
      split <;> rfl
  exact all
end Go.Proofs.YtmloklmcoedciaaDoor.Pure.Tok
