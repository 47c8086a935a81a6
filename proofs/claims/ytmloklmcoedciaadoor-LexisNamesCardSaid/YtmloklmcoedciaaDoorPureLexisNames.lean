/- The plain part of LexisNames: what the walk computes is always true. Condition: none beyond the text's length. -/
import Derived.Test.YtmloklmcoedciaaDoorKAx3
import Derived.Laws.Strings
namespace Go.Proofs.YtmloklmcoedciaaDoor.Pure
open Go.RowKit Go.Proofs.YtmloklmcoedciaaDoor.KA Go.Proofs.YtmloklmcoedciaaDoorW.PrintWords Go.Proofs.YtmloklmcoedciaaDoorW.PrintLast

/-- The words of the language. -/
def words : List ByteArray := ["add", "bool", "bytes", "change", "del", "else", "false", "for", "get", "has", "helper", "if", "im", "in", "int", "len", "let", "point", "proc", "put", "raise", "re", "return", "table", "to", "true", "while"].map String.toUTF8

theorem words_lib : lexis_Words.f = some words := by decide +kernel
theorem words_ref : keystoneref12_Words.f = some words := by decide +kernel
theorem words_27 : words.length = 27 := by decide +kernel

theorem wrap64_in (x : Int) (h0 : -9223372036854775808 ≤ x) (h1 : x < 9223372036854775808) : wrap64 x = x := by
  unfold wrap64
  omega

theorem rdOf_cons_zero (d : ByteArray) (l : List ByteArray) (i : Nat) (h : i < l.length) : rdOf d l (i : Int) = l[i] := by
  simp [rdOf, h]

def hit (a : ByteArray) (l : List ByteArray) : Bool := l.any fun w => decide (w.toList = a.toList)
theorem hit_cons (a w : ByteArray) (l : List ByteArray) : hit a (w :: l) = (decide (w.toList = a.toList) || hit a l) := rfl

theorem index_is (l : List ByteArray) (a : ByteArray) (hl : l.length < 4611686018427387904) : ∀ (n i k : Nat), i + n = l.length →
    ∃ r, slices_Index_string_string.l0 (n + 1 + k) l a (l.length : Int) (i : Int) = some r ∧ decide (r ≥ 0) = hit a (l.drop i)
  | 0, i, k, h => by
    refine ⟨-1, ?_, ?_⟩
    · rw [show 0 + 1 + k = k + 1 by omega]
      simp only [slices_Index_string_string.l0]
      rw [if_neg (by omega)]
    · rw [List.drop_eq_nil_of_le (by omega)]
      rfl
  | n + 1, i, k, h => by
    have hi : i < l.length := by omega
    rw [show n + 1 + 1 + k = (n + 1 + k) + 1 by omega]
    simp only [slices_Index_string_string.l0]
    rw [if_pos (by omega), if_pos (by omega), if_pos (by omega), rdOf_cons_zero _ _ _ hi, List.drop_eq_getElem_cons hi]
    by_cases he : a.toList = l[i].toList
    · rw [if_pos he]
      refine ⟨_, rfl, ?_⟩
      rw [hit_cons, decide_eq_true he.symm, Bool.true_or]
      exact decide_eq_true (Int.natCast_nonneg i)
    · rw [if_neg he, wrap64_in _ (by omega) (by omega)]
      obtain ⟨r, h1, h2⟩ := index_is l a hl n (i + 1) k (by omega)
      refine ⟨r, by rw [← h1]; norm_cast, ?_⟩
      rw [h2, hit_cons, decide_eq_false (fun e => he e.symm), Bool.false_or]

theorem contains_is (l : List ByteArray) (a : ByteArray) (hl : l.length < 4611686018427387904) (k : Nat) (hk : l.length < k) : slices_Contains_string_string.f k l a = some (hit a l) := by
  obtain ⟨r, h1, h2⟩ := index_is l a hl l.length 0 (k - l.length - 1) (by omega)
  rw [show l.length + 1 + (k - l.length - 1) = k by omega] at h1
  have h3 : slices_Index_string_string.f k l a = some r := h1
  unfold slices_Contains_string_string.f
  rw [h3, Option.bind_some, h2, List.drop_zero]

theorem refwords_is (x : ByteArray) (l : List ByteArray) (hl : l.length < 4611686018427387904) : ∀ (n i k : Nat), i + n = l.length →
    keystoneref12_Name.l1 (n + 1 + k) x l (i : Int) = some (!hit x (l.drop i))
  | 0, i, k, h => by
    rw [show 0 + 1 + k = k + 1 by omega]
    simp only [keystoneref12_Name.l1]
    rw [if_neg (by omega), List.drop_eq_nil_of_le (by omega)]
    rfl
  | n + 1, i, k, h => by
    have hi : i < l.length := by omega
    rw [show n + 1 + 1 + k = (n + 1 + k) + 1 by omega]
    simp only [keystoneref12_Name.l1]
    rw [if_pos (by omega), if_pos (by omega), rdOf_cons_zero _ _ _ hi, List.drop_eq_getElem_cons hi]
    by_cases he : l[i].toList = x.toList
    · rw [if_pos he, hit_cons, decide_eq_true he]
      rfl
    · rw [if_neg he, wrap64_in _ (by omega) (by omega)]
      have h1 := refwords_is x l hl n (i + 1) k (by omega)
      rw [show (i : Int) + 1 = ((i + 1 : Nat) : Int) by omega, h1, hit_cons, decide_eq_false he, Bool.false_or]

theorem wrap32_bt (s : ByteArray) (i : Int) : wrap32 (bt s i) = bt s i := by
  have := bt_range s i
  unfold wrap32
  omega

theorem inner_same (c : Int) : lexis_inner.f c = keystoneref12_inner.f c := rfl
theorem low_some (c : Int) : ∃ b, keystoneref12_low.f c = some b := by
  unfold keystoneref12_low.f
  split <;> simp

theorem digit_some (c : Int) : ∃ b, keystoneref12_digit.f c = some b := by
  unfold keystoneref12_digit.f
  split <;> simp

theorem inner_some (c : Int) : ∃ b, keystoneref12_inner.f c = some b := by
  obtain ⟨b1, h1⟩ := low_some c
  obtain ⟨b2, h2⟩ := digit_some c
  unfold keystoneref12_inner.f
  rw [h1, h2]
  cases b1 <;> cases b2 <;> exact ⟨_, rfl⟩

theorem loops_same (x : ByteArray) (hx : x.size ≤ 32) : ∀ (n i k : Nat), i + n = x.size →
    ∃ b, lexis_Name.l0 (n + 40 + k) x (x.size : Int) (i : Int) = some b ∧ keystoneref12_Name.l0 (n + 40 + k) x (i : Int) = some b
  | 0, i, k, h => by
    rw [show 0 + 40 + k = (39 + k) + 1 by omega]
    simp only [lexis_Name.l0, keystoneref12_Name.l0]
    rw [if_neg (by omega), if_neg (by omega), words_lib, words_ref]
    simp only [Option.bind_some]
    rw [contains_is words x (by rw [words_27]; omega) _ (by rw [words_27]; omega)]
    have h1 := refwords_is x words (by rw [words_27]; omega) words.length 0 (39 + k - 28) (by omega)
    rw [words_27, show 27 + 1 + (39 + k - 28) = 39 + k by omega] at h1
    exact ⟨_, rfl, h1⟩
  | n + 1, i, k, h => by
    rw [show n + 1 + 40 + k = (n + 40 + k) + 1 by omega]
    simp only [lexis_Name.l0, keystoneref12_Name.l0]
    rw [if_pos (by omega), if_pos (by omega), if_pos (by omega), if_pos (by omega), if_pos (by omega), wrap32_bt, inner_same]
    obtain ⟨b, hb⟩ := inner_some (bt x (i : Int))
    rw [hb]
    simp only [Option.bind_some]
    rw [wrap64_in _ (by omega) (by omega), show (i : Int) + 1 = ((i + 1 : Nat) : Int) by omega]
    cases b with
    | true =>
      simp only [if_true]
      exact loops_same x hx n (i + 1) k (by omega)
    | false => exact ⟨false, rfl, rfl⟩

theorem j_same (x : ByteArray) (hx : x.size ≤ 32) (b : Bool) (k : Nat) (hk : 80 ≤ k) : ∃ r, lexis_Name.j0 k x b = some r ∧ keystoneref12_Name.j0 k x b = some r := by
  obtain ⟨m, rfl⟩ : ∃ m, k = m + 1 := ⟨k - 1, by omega⟩
  simp only [lexis_Name.j0, keystoneref12_Name.j0]
  cases b with
  | true => exact ⟨false, rfl, rfl⟩
  | false =>
    obtain ⟨r, h1, h2⟩ := loops_same x hx x.size 0 (m - x.size - 40) (by omega)
    rw [show x.size + 40 + (m - x.size - 40) = m by omega] at h1 h2
    exact ⟨r, h1, h2⟩

theorem j_true (x : ByteArray) (k : Nat) (hk : 80 ≤ k) : lexis_Name.j0 k x true = some false ∧ keystoneref12_Name.j0 k x true = some false := by
  obtain ⟨m, rfl⟩ : ∃ m, k = m + 1 := ⟨k - 1, by omega⟩
  exact ⟨rfl, rfl⟩

theorem toList_eq (x : ByteArray) : x.toList = x.data.toList := ByteArray.toList_eq x
theorem name_same (x : ByteArray) (k : Nat) (hk : 80 ≤ k) : ∃ r, lexis_Name.f k x = some r ∧ keystoneref12_Name.f k x = some r := by
  have jt := j_true x k hk
  unfold lexis_Name.f keystoneref12_Name.f
  by_cases h0 : x.size = 0
  · have e : x.toList = [] := by
      rw [toList_eq]
      exact List.eq_nil_of_length_eq_zero (by simpa using h0)
    rw [if_pos e, if_pos (by omega)]
    exact ⟨_, jt⟩
  · have e : ¬ x.toList = [] := by
      rw [toList_eq]
      intro e
      have h3 := congrArg List.length e
      rw [Array.length_toList] at h3
      exact h0 h3
    rw [if_neg e, if_neg (show ¬ (x.size : Int) < 1 by omega)]
    by_cases h1 : (x.size : Int) > 32
    · rw [if_pos h1, if_pos h1]
      exact ⟨_, jt⟩
    · rw [if_neg h1, if_neg h1, if_pos (show (0 : Int) < (x.size : Int) by omega), if_pos (show (0 : Int) < (x.size : Int) by omega), wrap32_bt]
      obtain ⟨b, hb⟩ := low_some (bt x 0)
      have hb2 : lexis_letter.f (bt x 0) = some b := hb
      rw [hb, hb2]
      exact j_same x (by omega) _ k hk

theorem name_mono (x : ByteArray) (r : Bool) (m : Nat) : ∀ d, lexis_Name.f m x = some r → lexis_Name.f (m + d) x = some r
  | 0, h => h
  | d + 1, h => lexis_Name.mono x (m + d) r (name_mono x r m d h)

theorem words_ok : ∀ i : Nat, i < 27 → lexis_Name.f 80 (rdOf ByteArray.empty words (i : Int)) = some false ∧ (rdOf ByteArray.empty words (i : Int)).size + 1 ≤ 9223372036854775807 ∧ lexis_Name.f 80 (rdOf ByteArray.empty words (i : Int) ++ ⟨#[95]⟩) = some true := by
  decide +kernel

theorem law_loop (x : ByteArray) : ∀ (n i k : Nat) (l : List ByteArray), i + n = 27 → l.length = 27 → (∀ j : Nat, i ≤ j → j < 27 → rdOf ByteArray.empty l (j : Int) = rdOf ByteArray.empty words (j : Int)) →
    keystonelaw12_LexisNames.l0 (n + 100 + k) x l words (27 : Int) (i : Int) = some true
  | 0, i, k, l, h, hl, ha => by
    rw [show 0 + 100 + k = (99 + k) + 1 by omega]
    simp only [keystonelaw12_LexisNames.l0]
    rw [if_neg (by omega), words_lib]
    simp only [Option.bind_some]
    rw [if_pos trivial, if_pos (by rw [words_27]; omega), if_pos (by rw [words_27]; omega), if_pos trivial]
    obtain ⟨r, h1, h2⟩ := name_same x (99 + k) (by omega)
    rw [h1, h2]
    simp
  | n + 1, i, k, l, h, hl, ha => by
    rw [show n + 1 + 100 + k = (n + 100 + k) + 1 by omega]
    simp only [keystonelaw12_LexisNames.l0]
    rw [if_pos (by omega), if_pos (by omega), if_pos (by omega), if_pos (by rw [words_27]; omega), ha i (Nat.le_refl _) (by omega), if_pos rfl]
    obtain ⟨w1, w2, w3⟩ := words_ok i (by omega)
    rw [show n + 100 + k = 80 + (n + 20 + k) by omega, name_mono _ _ _ _ w1]
    simp only [Option.bind_some]
    rw [if_neg (by simp), if_pos w2, name_mono _ _ _ _ w3]
    simp only [Option.bind_some]
    rw [if_pos trivial, wrap64_in _ (by omega) (by omega), show (i : Int) + 1 = ((i + 1 : Nat) : Int) by omega, show 80 + (n + 20 + k) = n + 100 + k by omega]
    refine law_loop x n (i + 1) k _ (by omega) (by simp [hl]) ?_
    intro j h1 h2
    rw [← ha j (by omega) h2]
    simp only [rdOf, Int.toNat_natCast]
    rw [List.getD_eq_getElem?_getD, List.getD_eq_getElem?_getD, List.getElem?_set_ne (by omega)]

theorem names_of (a0 : ByteArray) (K : Nat) (h : keystonelaw12_LexisNames.l0 K a0 words words (27 : Int) (0 : Int) = some true) : keystonelaw12_LexisNames.f K a0 = some true := by
  unfold keystonelaw12_LexisNames.f
  rw [words_lib, words_ref]
  simp only [Option.bind_some]
  rw [if_pos trivial, words_27]
  exact h

theorem names_all (a0 : ByteArray) (n : Nat) (hn : n = 27) : ∃ k, keystonelaw12_LexisNames.f k a0 = some true := by
  have h := law_loop a0 n 0 0 words (by omega) words_27 (fun _ _ _ => rfl)
  exact ⟨n + 100 + 0, names_of a0 _ h⟩

theorem LexisNames : keystonelaw12_LexisNames.Pure := fun a0 _ => names_all a0 27 rfl

end Go.Proofs.YtmloklmcoedciaaDoor.Pure
