/- What blanks, runs of bytes and quoted bytes are, over a text's bytes: plain functions, and the few laws that the walks and the pure proofs lean on. -/
import Derived.Test.YtmloklmcoedciaaDoorWt
import Derived.Lib.IndexLaws
import Derived.Lib.IndexBytes
namespace Go.Proofs.YtmloklmcoedciaaDoor.Lx
open Go.RowKit Go.Proofs.YtmloklmcoedciaaDoorW.PrintWords
/-- The place behind what says nothing; the Bool: within a remark. The number: how many bytes are left. -/
def skipN (s : ByteArray) : Bool → Nat → Nat → Nat
  | _, 0, i => i
  | false, d + 1, i => if bt s i = 32 ∨ bt s i = 9 ∨ bt s i = 10 ∨ bt s i = 13 then skipN s false d (i + 1) else if bt s i = 35 then skipN s true d (i + 1) else i
  | true, d + 1, i => if bt s i = 10 then skipN s false d (i + 1) else skipN s true d (i + 1)
def skipP (s : ByteArray) (i : Nat) : Nat := skipN s false (s.size - i) i
theorem skipN_bd (s : ByteArray) : ∀ d m i, i ≤ skipN s m d i ∧ skipN s m d i ≤ i + d
  | 0, m, i => by cases m <;> simp [skipN]
  | d + 1, false, i => by
    simp only [skipN]
    split
    · have := skipN_bd s d false (i + 1); omega
    · split
      · have := skipN_bd s d true (i + 1); omega
      · omega
  | d + 1, true, i => by
    simp only [skipN]
    split
    · have := skipN_bd s d false (i + 1); omega
    · have := skipN_bd s d true (i + 1); omega
theorem skipP_bd (s : ByteArray) (i : Nat) (h : i ≤ s.size) : i ≤ skipP s i ∧ skipP s i ≤ s.size := by
  have := skipN_bd s (s.size - i) false i
  unfold skipP
  omega
theorem skipP_end (s : ByteArray) (i : Nat) (h : s.size ≤ i) : skipP s i = i := by
  unfold skipP
  rw [show s.size - i = 0 by omega]
  rfl
theorem left_succ {s : ByteArray} {i : Nat} (h : i < s.size) : s.size - i = (s.size - (i + 1)) + 1 := by omega
theorem skipP_blank (s : ByteArray) (i : Nat) (h : i < s.size) (hb : bt s i = 32 ∨ bt s i = 9 ∨ bt s i = 10 ∨ bt s i = 13) : skipP s i = skipP s (i + 1) := by
  unfold skipP
  rw [left_succ h]
  simp only [skipN]
  rw [if_pos hb]
theorem skipP_stop (s : ByteArray) (i : Nat) (h : i < s.size) (hb : ¬ (bt s i = 32 ∨ bt s i = 9 ∨ bt s i = 10 ∨ bt s i = 13)) (hc : bt s i ≠ 35) : skipP s i = i := by
  unfold skipP
  rw [left_succ h]
  simp only [skipN]
  rw [if_neg hb, if_neg hc]
theorem skipP_remark (s : ByteArray) (i : Nat) (h : i < s.size) (hc : bt s i = 35) : skipP s i = skipN s true (s.size - i) i := by
  unfold skipP
  rw [left_succ h]
  simp only [skipN]
  rw [if_neg (by omega), if_pos hc, if_neg (by omega)]
theorem skipN_true_in (s : ByteArray) : ∀ (n i : Nat), i + n < s.size → (∀ j, j < n → bt s ((i + j : Nat) : Int) ≠ 10) → bt s ((i + n : Nat) : Int) = 10 → skipN s true (s.size - i) i = skipP s (i + n)
  | 0, i, h, _, h10 => by
    unfold skipP
    rw [Nat.add_zero] at h h10 ⊢
    rw [left_succ h]
    simp only [skipN]
    rw [if_pos h10, if_pos (.inr (.inr (.inl h10)))]
  | n + 1, i, h, hn, h10 => by
    have h0 := hn 0 (by omega)
    rw [Nat.add_zero] at h0
    rw [left_succ (show i < s.size by omega)]
    simp only [skipN]
    rw [if_neg h0, skipN_true_in s n (i + 1) (by omega) (fun j hj => by have := hn (j + 1) (by omega); rwa [show i + (j + 1) = i + 1 + j by omega] at this) (by rwa [show i + (n + 1) = i + 1 + n by omega] at h10), show i + 1 + n = i + (n + 1) by omega]
theorem skipN_true_out (s : ByteArray) : ∀ (d i : Nat), i + d = s.size → (∀ j, i ≤ j → j < s.size → bt s (j : Int) ≠ 10) → skipN s true d i = s.size
  | 0, i, h, _ => by simp only [skipN]; omega
  | d + 1, i, h, hn => by
    simp only [skipN]
    rw [if_neg (hn i (Nat.le_refl _) (by omega))]
    exact skipN_true_out s d (i + 1) (by omega) (fun j hj hl => hn j (by omega) hl)
/-- A byte of a text, as the search sees it. -/
theorem tail_at (s : ByteArray) (i j : Nat) (h : i + j < s.size) : (s.extract i s.size).data.toList[j]? = some (s[i + j]'h) := by
  rw [Lib.extract_to_end, List.getElem?_drop, Lib.data_getElem? s (i + j) h]
theorem bt_nat (s : ByteArray) (i : Nat) (h : i < s.size) : bt s (i : Int) = ((s[i]'h).toNat : Int) := by simp [bt, h]
theorem byte_ten {b : UInt8} : ((b.toNat : Nat) : Int) = 10 ↔ b = 10 := by
  constructor
  · intro h; exact UInt8.toNat_inj.1 (by have : (10 : UInt8).toNat = 10 := rfl; omega)
  · rintro rfl; rfl
/-- The search for a line's end, from a remark's first byte on. -/
theorem remark_some (s : ByteArray) (i : Nat) (h : i < s.size) (hc : bt s i = 35) (n : Nat) (hn : Lib.indexByte (s.extract i s.size).data.toList 10 = (n : Int)) :
    i + n < s.size ∧ 1 ≤ n ∧ skipP s i = skipP s (i + n) := by
  obtain ⟨h1, h2⟩ := Lib.indexByte_some hn
  have hl : i + n < s.size := by
    rcases Nat.lt_or_ge (i + n) s.size with h' | h'
    · exact h'
    · rw [Lib.extract_to_end, List.getElem?_drop, List.getElem?_eq_none (by simpa using h')] at h1
      cases h1
  have e : bt s ((i + n : Nat) : Int) = 10 := by
    rw [bt_nat s _ hl, byte_ten]
    rw [tail_at s i n hl] at h1
    exact Option.some.inj h1
  have hne : ∀ j, j < n → bt s ((i + j : Nat) : Int) ≠ 10 := by
    intro j hj he
    rw [bt_nat s _ (by omega), byte_ten] at he
    exact h2 j hj (by rw [tail_at s i j (by omega), he])
  refine ⟨hl, ?_, ?_⟩
  · rcases Nat.eq_zero_or_pos n with rfl | h'
    · rw [Nat.add_zero] at e; omega
    · exact h'
  · rw [skipP_remark s i h hc]
    exact skipN_true_in s n i hl hne e
theorem remark_none (s : ByteArray) (i : Nat) (h : i < s.size) (hc : bt s i = 35) (hn : Lib.indexByte (s.extract i s.size).data.toList 10 = -1) : skipP s i = s.size := by
  have h2 := Lib.indexByte_none hn
  rw [skipP_remark s i h hc]
  refine skipN_true_out s _ i (by omega) (fun j hj hl he => ?_)
  rw [bt_nat s _ hl, byte_ten] at he
  have := tail_at s i (j - i) (by omega)
  simp only [show i + (j - i) = j by omega] at this
  exact h2 (j - i) (by rw [this, he])
end Go.Proofs.YtmloklmcoedciaaDoor.Lx
