/- The plain part of the laws over the program's own tokens, first text: what a name, a whole number, a sign, quoted bytes are in a text, as the program's reader finds them. Condition: a text of at most 2^47 - 4096 bytes, where it is said. -/
import Derived.Test.YtmloklmcoedciaaDoorKBx6
import Derived.Laws.Strings
import Derived.IntWalk
import Derived.Lib.ParseIntBCases
namespace Go.Proofs.YtmloklmcoedciaaDoor.Pure.Sp
open Go.RowKit Go.Proofs.YtmloklmcoedciaaDoor.KB Go.Proofs.YtmloklmcoedciaaDoorW.PrintWords Go.Proofs.YtmloklmcoedciaaDoorW.PrintLast
set_option linter.unusedVariables false

theorem w64 (x : Int) (h0 : -9223372036854775808 ≤ x) (h1 : x < 9223372036854775808) : wrap64 x = x := by
  unfold wrap64
  omega
theorem wsucc (i : Nat) (h : i ≤ 140737488351232) : wrap64 ((i : Int) + 1) = ((i + 1 : Nat) : Int) := by rw [w64 _ (by omega) (by omega)]; omega
theorem w32_bt (s : ByteArray) (i : Int) : wrap32 (bt s i) = bt s i := by
  have := bt_range s i
  unfold wrap32
  omega
/-- More rounds tell the same. -/
theorem up_le {α : Type} {f : Nat → Option α} (h : ∀ k, LeO (f k) (f (k + 1))) {m : Nat} {r : α} (e : f m = some r) : ∀ d, f (m + d) = some r
  | 0 => e
  | d + 1 => h (m + d) r (up_le h e d)
theorem up_to {α : Type} {f : Nat → Option α} (h : ∀ k, LeO (f k) (f (k + 1))) {m n : Nat} {r : α} (e : f m = some r) (hn : m ≤ n) : f n = some r := by
  have := up_le h e (n - m)
  rwa [show m + (n - m) = n by omega] at this

/-! ### bytes of a cut -/
theorem ext_size (s : ByteArray) (a b : Nat) (h : b ≤ s.size) : (s.extract a b).size = b - a := by
  rw [ByteArray.size_extract]
  omega
theorem nil_iff (s : ByteArray) : s.toList = [] ↔ s.size = 0 := by
  rw [ByteArray.toList_eq]
  constructor
  · intro h
    have h2 := congrArg List.length h
    rw [Array.length_toList] at h2
    exact h2
  · intro h
    apply List.eq_nil_of_length_eq_zero
    rw [Array.length_toList]
    exact h
theorem bt_get (s : ByteArray) (i : Nat) (b : UInt8) (h : s.data.toList[i]? = some b) : i < s.size ∧ bt s (i : Int) = (b.toNat : Int) := by
  have hi : i < s.size := by
    rcases Nat.lt_or_ge i s.size with h' | h'
    · exact h'
    · rw [List.getElem?_eq_none (by rw [Array.length_toList]; exact h')] at h
      cases h
  refine ⟨hi, ?_⟩
  rw [Lx.bt_nat s i hi]
  rw [Lib.data_getElem? s i hi] at h
  rw [Option.some.inj h]
theorem get_bt (s : ByteArray) (i : Nat) (h : i < s.size) : ∃ b : UInt8, s.data.toList[i]? = some b ∧ bt s (i : Int) = (b.toNat : Int) :=
  ⟨s[i], Lib.data_getElem? s i h, Lx.bt_nat s i h⟩
theorem ext_list (s : ByteArray) (a b : Nat) : (s.extract a b).data.toList = (s.data.toList.drop a).take (b - a) := by
  simp [ByteArray.data_extract]
theorem ext_at (s : ByteArray) (a b j : Nat) (hb : b ≤ s.size) (h : a + j < b) : bt (s.extract a b) (j : Int) = bt s ((a + j : Nat) : Int) := by
  obtain ⟨c, h1, h2⟩ := get_bt s (a + j) (by omega)
  rw [h2]
  refine (bt_get (s.extract a b) j c ?_).2
  rw [ext_list, List.getElem?_take_of_lt (by omega), List.getElem?_drop, h1]

/-! ### runs of bytes -/
def lowP (c : Int) : Prop := 97 ≤ c ∧ c ≤ 122
def digP (c : Int) : Prop := 48 ≤ c ∧ c ≤ 57
def innP (c : Int) : Prop := lowP c ∨ digP c ∨ c = 95
instance (c : Int) : Decidable (lowP c) := by unfold lowP; infer_instance
instance (c : Int) : Decidable (digP c) := by unfold digP; infer_instance
instance (c : Int) : Decidable (innP c) := by unfold innP; infer_instance
theorem letter_is (c : Int) : lexis_letter.f c = some (decide (lowP c)) := by
  unfold lexis_letter.f lowP
  by_cases h : c ≥ 97
  · rw [if_pos h]
    simp [show (97 : Int) ≤ c from h]
  · rw [if_neg h]
    simp [show ¬ (97 : Int) ≤ c from h]
theorem digit_is (c : Int) : lexis_digit.f c = some (decide (digP c)) := by
  unfold lexis_digit.f digP
  by_cases h : c ≥ 48
  · rw [if_pos h]
    simp [show (48 : Int) ≤ c from h]
  · rw [if_neg h]
    simp [show ¬ (48 : Int) ≤ c from h]
theorem inner_is (c : Int) : lexis_inner.f c = some (decide (innP c)) := by
  unfold lexis_inner.f innP
  rw [letter_is, digit_is]
  simp only [Option.bind_some]
  by_cases h1 : lowP c
  · simp [h1]
  · by_cases h2 : digP c
    · simp [h1, h2]
    · by_cases h3 : c = 95 <;> simp [h1, h2, h3]
/-- From i on all bytes are so, up to q, where none is, or the text ends. -/
def RunTo (P : Int → Prop) (s : ByteArray) (i q : Nat) : Prop := i ≤ q ∧ q ≤ s.size ∧ (∀ j, i ≤ j → j < q → P (bt s (j : Int))) ∧ (q = s.size ∨ ¬ P (bt s (q : Int)))
theorem run_some (P : Int → Prop) [DecidablePred P] (s : ByteArray) : ∀ (n i : Nat), i + n = s.size → ∃ q, RunTo P s i q
  | 0, i, h => ⟨i, Nat.le_refl _, by omega, fun j h1 h2 => absurd h1 (by omega), .inl (by omega)⟩
  | n + 1, i, h => by
    by_cases hp : P (bt s (i : Int))
    · obtain ⟨q, h1, h2, h3, h4⟩ := run_some P s n (i + 1) (by omega)
      refine ⟨q, by omega, h2, fun j hj hq => ?_, h4⟩
      rcases Nat.eq_or_lt_of_le hj with rfl | hj
      · exact hp
      · exact h3 j hj hq
    · exact ⟨i, Nat.le_refl _, by omega, fun j h1 h2 => absurd h1 (by omega), .inr hp⟩
theorem run_tail {P : Int → Prop} {s : ByteArray} {i q : Nat} (h : RunTo P s i q) (hi : i < q) : RunTo P s (i + 1) q :=
  ⟨hi, h.2.1, fun j hj hq => h.2.2.1 j (by omega) hq, h.2.2.2⟩
theorem run_uniq {P : Int → Prop} {s : ByteArray} {i q q' : Nat} (h : RunTo P s i q) (h' : RunTo P s i q') : q = q' := by
  obtain ⟨a1, a2, a3, a4⟩ := h
  obtain ⟨b1, b2, b3, b4⟩ := h'
  rcases Nat.lt_trichotomy q q' with hlt | heq | hlt
  · rcases a4 with a4 | a4
    · omega
    · exact absurd (b3 q a1 hlt) a4
  · exact heq
  · rcases b4 with b4 | b4
    · omega
    · exact absurd (a3 q' b1 hlt) b4
theorem run29 (s : ByteArray) (hs : s.size ≤ 140737488351232) (x : Int) (q : Nat) : ∀ (n i : Nat), i + n = q → RunTo innP s i q → ∃ k, lexis_reader_run_29.l0 k (i : Int) s x = some ((q : Int), s, x)
  | 0, i, h, hr => by
    obtain rfl : i = q := by omega
    refine ⟨0 + 1, ?_⟩
    rw [lexis_reader_run_29.l0.eq_2]
    rcases hr.2.2.2 with he | hn
    · rw [if_neg (by omega)]
    · by_cases hlt : i < s.size
      · rw [if_pos (by omega), if_pos (Int.natCast_nonneg _), w32_bt, inner_is, decide_eq_false hn, Option.bind_some, if_neg (by decide)]
      · rw [if_neg (by omega)]
  | n + 1, i, h, hr => by
    obtain ⟨k, e⟩ := run29 s hs x q n (i + 1) (by omega) (run_tail hr (by omega))
    have hq := hr.2.1
    refine ⟨k + 1, ?_⟩
    rw [lexis_reader_run_29.l0.eq_2, if_pos (by omega), if_pos (Int.natCast_nonneg _), w32_bt, inner_is, decide_eq_true (hr.2.2.1 i (Nat.le_refl _) (by omega)), Option.bind_some, if_pos rfl, wsucc i (by omega), e]
theorem run43 (s : ByteArray) (hs : s.size ≤ 140737488351232) (x : Int) (q : Nat) : ∀ (n i : Nat), i + n = q → RunTo digP s i q → ∃ k, lexis_reader_run_43.l0 k (i : Int) s x = some ((q : Int), s, x)
  | 0, i, h, hr => by
    obtain rfl : i = q := by omega
    refine ⟨0 + 1, ?_⟩
    rw [lexis_reader_run_43.l0.eq_2]
    rcases hr.2.2.2 with he | hn
    · rw [if_neg (by omega)]
    · by_cases hlt : i < s.size
      · rw [if_pos (by omega), if_pos (Int.natCast_nonneg _), w32_bt, digit_is, decide_eq_false hn, Option.bind_some, if_neg (by decide)]
      · rw [if_neg (by omega)]
  | n + 1, i, h, hr => by
    obtain ⟨k, e⟩ := run43 s hs x q n (i + 1) (by omega) (run_tail hr (by omega))
    have hq := hr.2.1
    refine ⟨k + 1, ?_⟩
    rw [lexis_reader_run_43.l0.eq_2, if_pos (by omega), if_pos (Int.natCast_nonneg _), w32_bt, digit_is, decide_eq_true (hr.2.2.1 i (Nat.le_refl _) (by omega)), Option.bind_some, if_pos rfl, wsucc i (by omega), e]

/-! ### digits -/
/-- The bytes from i to q. -/
def seg (s : ByteArray) (i q : Nat) : List UInt8 := (s.data.toList.drop i).take (q - i)
theorem seg_nil (s : ByteArray) (i : Nat) : seg s i i = [] := by simp [seg]
theorem seg_cons (s : ByteArray) (i q : Nat) (h : i < s.size) (hq : i < q) : seg s i q = s[i] :: seg s (i + 1) q := by
  have h2 : i < s.data.toList.length := by rw [Array.length_toList]; exact h
  unfold seg
  rw [List.drop_eq_getElem_cons h2, show q - i = (q - (i + 1)) + 1 by omega, List.take_succ_cons]
  rfl
theorem extract_seg (s : ByteArray) (p q : Nat) : (s.extract p q).data.toList = seg s p q := ext_list s p q
def dig (b : UInt8) : Prop := 48 ≤ b.toNat ∧ b.toNat ≤ 57
theorem seg_dig (s : ByteArray) (q : Nat) : ∀ (n i : Nat), i + n = q → RunTo digP s i q → ∀ b ∈ seg s i q, dig b
  | 0, i, h, hr => by
    obtain rfl : i = q := by omega
    rw [seg_nil]
    simp
  | n + 1, i, h, hr => by
    have hq := hr.2.1
    rw [seg_cons s i q (by omega) (by omega)]
    intro b hb
    rcases List.mem_cons.1 hb with rfl | hb
    · have h1 := hr.2.2.1 i (Nat.le_refl _) (by omega)
      rw [Lx.bt_nat s i (by omega)] at h1
      unfold digP at h1
      unfold dig
      omega
    · exact seg_dig s q n (i + 1) (by omega) (run_tail hr (by omega)) b hb
/-- What digits spell behind a number. -/
def dec : Nat → List UInt8 → Nat
  | a, [] => a
  | a, c :: r => dec (a * 10 + (c.toNat - 48)) r
theorem dec_ge : ∀ (l : List UInt8) (a : Nat), a ≤ dec a l
  | [], _ => Nat.le_refl _
  | c :: r, a => Nat.le_trans (by omega) (dec_ge r (a * 10 + (c.toNat - 48)))
theorem dec_append : ∀ (l r : List UInt8) (a : Nat), dec a (l ++ r) = dec (dec a l) r
  | [], _, _ => rfl
  | c :: l, r, a => dec_append l r _
theorem parseM_digits : ∀ (l : List UInt8) (acc : Nat), (∀ b ∈ l, dig b) → acc ≤ 18446744073709551615 →
    Lib.parseUintM 18446744073709551615 acc l = if dec acc l ≤ 18446744073709551615 then .ok (dec acc l) else .range
  | [], acc, _, h => by
    show Lib.NumEnd.ok acc = if acc ≤ 18446744073709551615 then .ok acc else .range
    rw [if_pos h]
  | c :: r, acc, hd, h => by
    have hc : dig c := hd c (List.mem_cons_self ..)
    unfold dig at hc
    rw [show dec acc (c :: r) = dec (acc * 10 + (c.toNat - 48)) r from rfl]
    simp only [Lib.parseUintM]
    rw [if_pos hc]
    have hge := dec_ge r (acc * 10 + (c.toNat - 48))
    by_cases h1 : 1844674407370955162 ≤ acc
    · rw [if_pos h1, if_neg (by omega)]
    · rw [if_neg h1]
      by_cases h2 : 18446744073709551615 < acc * 10 + (c.toNat - 48)
      · rw [if_pos h2, if_neg (by omega)]
      · rw [if_neg h2]
        exact parseM_digits r _ (fun b hb => hd b (List.mem_cons_of_mem _ hb)) (by omega)
theorem parse_digits (l : List UInt8) (hl : l ≠ []) (hd : ∀ b ∈ l, dig b) : Lib.parseIntB 64 l = if dec 0 l < 9223372036854775808 then .ok (dec 0 l : Int) else .range := by
  cases l with
  | nil => exact absurd rfl hl
  | cons c r =>
    have hc : dig c := hd c (List.mem_cons_self ..)
    unfold dig at hc
    rw [Lib.parseIntB_plain 64 c r (by omega) (by omega)]
    unfold Lib.parseUintB
    rw [if_neg (by simp), show (2 : Nat) ^ 64 - 1 = 18446744073709551615 from rfl, parseM_digits _ 0 hd (by omega)]
    by_cases h1 : dec 0 (c :: r) ≤ 18446744073709551615
    · rw [if_pos h1]
      simp only [Lib.signlessC]
      rw [show (2 : Nat) ^ (64 - 1) = 9223372036854775808 from rfl]
      by_cases h2 : dec 0 (c :: r) < 9223372036854775808
      · rw [if_pos h2, if_neg (by omega)]
      · rw [if_neg h2, if_pos (by omega)]
    · rw [if_neg h1, if_neg (by omega)]
      rfl
theorem byte_in (s : ByteArray) (x : Int) (i : Nat) (h : i < s.size) : lexis_reader_byte.f s x (i : Int) = some (bt s (i : Int), s, x) := by
  unfold lexis_reader_byte.f
  rw [if_pos (by omega), if_pos (by omega), w32_bt]
theorem byte_out (s : ByteArray) (x : Int) (i : Nat) (h : s.size ≤ i) : lexis_reader_byte.f s x (i : Int) = some (0, s, x) := by
  unfold lexis_reader_byte.f
  rw [if_neg (by omega)]
theorem mn_hi (a b : Int) (h : b ≤ a) : mn a b = b := by
  unfold mn
  split <;> omega
theorem mn_lo (a b : Int) (h : a ≤ b) : mn a b = a := by
  unfold mn
  split <;> omega
theorem blanks_is (s : ByteArray) (hs : s.size ≤ 140737488351232) (i : Nat) (h : i ≤ s.size) : lexis_reader_blanks.f s (i : Int) = some (s, (Lx.skipP s i : Int)) := by
  unfold lexis_reader_blanks.f
  rw [if_pos ⟨Int.natCast_nonneg _, by omega, hs⟩, Int.toNat_natCast]
end Go.Proofs.YtmloklmcoedciaaDoor.Pure.Sp
