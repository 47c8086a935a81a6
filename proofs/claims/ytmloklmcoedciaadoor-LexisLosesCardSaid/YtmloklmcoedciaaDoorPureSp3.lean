/- The plain part of the laws over the program's own tokens, third text: tokens, one by one and all, as the program's reader finds them. Condition: a text of at most 2^47 - 4096 bytes. -/
import Derived.Test.YtmloklmcoedciaaDoorPureSp2
namespace Go.Proofs.YtmloklmcoedciaaDoor.Pure.Sp
open Go.RowKit Go.Proofs.YtmloklmcoedciaaDoor.KB Go.Proofs.YtmloklmcoedciaaDoorW.PrintWords Go.Proofs.YtmloklmcoedciaaDoorW.PrintLast
set_option linter.unusedVariables false

/-- What stands behind digits and spoils them. -/
def follows (s : ByteArray) (q : Nat) : Prop := q < s.size ∧ (lowP (bt s (q : Int)) ∨ bt s (q : Int) = 95)
instance (s : ByteArray) (q : Nat) : Decidable (follows s q) := by unfold follows; infer_instance
def tok (k : Int) (x : ByteArray) (vk vi : Int) (vb : ByteArray) (at_ : Int) : S35 := ⟨k, x, ⟨vk, vi, false, vb, ⟨0, 0⟩⟩, at_⟩
/-- A token stands from i up to e. -/
inductive TokAt (s : ByteArray) (i : Nat) : S35 → Nat → Prop
  | name {e : Nat} : i < s.size → lowP (bt s (i : Int)) → RunTo innP s i e → i < e → e - i ≤ 32 → TokAt s i (tok 1 (s.extract i e) 0 0 ⟨#[]⟩ (i : Int)) e
  | int {e : Nat} : i < e → RunTo digP s i e → dec 0 (seg s i e) < 9223372036854775808 → ¬ (bt s (i : Int) = 48 ∧ i + 1 < e) → ¬ follows s e → TokAt s i (tok 2 ⟨#[]⟩ 1 (dec 0 (seg s i e) : Int) ⟨#[]⟩ (i : Int)) e
  | text {e : Nat} (bs : List Int) : i < s.size → bt s (i : Int) = 34 → Rd s (i + 1) bs e → bs.length ≤ 4096 → TokAt s i (tok 3 ⟨#[]⟩ 3 0 (strOfNums bs) (i : Int)) e
  | sign : i < s.size → ¬ lowP (bt s (i : Int)) → ¬ digP (bt s (i : Int)) → bt s (i : Int) ≠ 34 → sgn s i ≠ 0 → TokAt s i (tok 4 (s.extract i (i + sgn s i)) 0 0 ⟨#[]⟩ (i : Int)) (i + sgn s i)
theorem tok_bd {s : ByteArray} {i e : Nat} {t : S35} (h : TokAt s i t e) : i < e ∧ e ≤ s.size := by
  cases h with
  | name h1 h2 h3 h4 h5 => exact ⟨h4, h3.2.1⟩
  | int h1 h2 h3 h4 h5 => exact ⟨h1, h2.2.1⟩
  | text bs h1 h2 h3 h4 => have := rd_bd h3; omega
  | sign h1 h2 h3 h4 h5 => have := sgn_le s i h1; omega
/-- What the program's 'next' answers where a token stands. -/
def nextOk (s : ByteArray) (i : Nat) (t : S35) (e : Nat) : Prop := ∃ k, lexis_reader_next.f k s (i : Int) = some (t.f0, t.f1, t.f2.f0, t.f2.f1, t.f2.f2, t.f2.f3, t.f2.f4, t.f3, 0, 0, s, (e : Int))
def nextBad (s : ByteArray) (i : Nat) : Prop := ∃ (pl : Nat) (er xe : Int), pl ≤ s.size ∧ er ≠ 0 ∧ ∃ k, lexis_reader_next.f k s (i : Int) = some (0, ⟨#[]⟩, 0, 0, false, ⟨#[]⟩, ⟨0, 0⟩, 0, (pl : Int), er, s, xe)
theorem next_name (s : ByteArray) (hs : s.size ≤ 140737488351232) (i e : Nat) (hi : i < s.size) (hc : lowP (bt s (i : Int))) (hr : RunTo innP s i e) (he : i < e) :
    ∃ k, lexis_reader_next.f k s (i : Int) = if (e : Int) - (i : Int) > 32 then some (0, (⟨#[]⟩ : ByteArray), 0, 0, false, (⟨#[]⟩ : ByteArray), (⟨0, 0⟩ : CPt), 0, (i : Int), 121, s, (e : Int)) else some (1, s.extract i e, 0, 0, false, (⟨#[]⟩ : ByteArray), (⟨0, 0⟩ : CPt), (i : Int), 0, 0, s, (e : Int)) := by
  have c1 : (0 : Int) ≤ (i : Int) := Int.natCast_nonneg _
  have hq := hr.2.1
  have hl : lexis_letter.f (bt s (i : Int)) = some true := by rw [letter_is, decide_eq_true hc]
  obtain ⟨k1, p1⟩ := run29 s hs (i : Int) e (e - i) i (by omega) hr
  have wq : wrap64 ((e : Int) - (i : Int)) = (e : Int) - (i : Int) := w64 _ (by omega) (by omega)
  refine ⟨k1, ?_⟩
  rw [lexis_reader_next.f, byte_in s _ i hi, Option.bind_some, hl, Option.bind_some, if_pos rfl, lexis_reader_run.f, if_pos rfl, lexis_reader_run_29.f, p1, Option.bind_some, wq, if_pos c1, if_pos (show (i : Int) ≤ (e : Int) by omega), if_pos (show (e : Int) ≤ (s.size : Int) by omega)]
  simp only [Int.toNat_natCast]
theorem next_text (s : ByteArray) (hs : s.size ≤ 140737488351232) (i : Nat) (hi : i < s.size) (hc : bt s (i : Int) = 34) (k : Nat) :
    lexis_reader_next.f k s (i : Int) = (lexis_reader_quoted.l0 k [] ((i + 1 : Nat) : Int) s (i : Int) 0 ⟨#[]⟩ 0 0 false ⟨#[]⟩ ⟨0, 0⟩ (i : Int)).bind fun x => some x := by
  have hl : lexis_letter.f 34 = some false := by decide
  have hd : lexis_digit.f 34 = some false := by decide
  rw [lexis_reader_next.f, byte_in s _ i hi, Option.bind_some, hc, hl, Option.bind_some, if_neg (by decide), hd, Option.bind_some, if_neg (by decide), if_pos rfl, lexis_reader_quoted.f, wsucc i (by omega)]
theorem next_sign (s : ByteArray) (hs : s.size ≤ 140737488351232) (i : Nat) (hi : i < s.size) (h1 : ¬ lowP (bt s (i : Int))) (h2 : ¬ digP (bt s (i : Int))) (h3 : bt s (i : Int) ≠ 34) :
    lexis_reader_next.f (0 + 6) s (i : Int) = if (sgn s i : Int) = 0 then some (0, (⟨#[]⟩ : ByteArray), 0, 0, false, (⟨#[]⟩ : ByteArray), (⟨0, 0⟩ : CPt), 0, (i : Int), 120, s, (i : Int)) else some (4, s.extract i (i + sgn s i), 0, 0, false, (⟨#[]⟩ : ByteArray), (⟨0, 0⟩ : CPt), (i : Int), 0, 0, s, ((i + sgn s i : Nat) : Int)) := by
  have c1 : (0 : Int) ≤ (i : Int) := Int.natCast_nonneg _
  have hl : lexis_letter.f (bt s (i : Int)) = some false := by rw [letter_is, decide_eq_false h1]
  have hd : lexis_digit.f (bt s (i : Int)) = some false := by rw [digit_is, decide_eq_false h2]
  have hle := sgn_le s i hi
  have hn : sgn s i ≤ 2 := by unfold sgn; split; omega; split <;> omega
  have wq : wrap64 ((i : Int) + (sgn s i : Int)) = ((i + sgn s i : Nat) : Int) := by rw [w64 _ (by omega) (by omega)]; omega
  have hp := prog_sign s hs i hi 0
  rw [lexis_reader_next.f, byte_in s _ i hi, Option.bind_some, hl, Option.bind_some, if_neg (by decide), hd, Option.bind_some, if_neg (by decide), if_neg h3, if_pos c1, if_pos (show (i : Int) ≤ (s.size : Int) by omega), Int.toNat_natCast, hp, Option.bind_some, wq]
  by_cases h0 : (sgn s i : Int) = 0
  · rw [if_pos h0, if_pos h0]
  · rw [if_neg h0, if_neg h0, if_pos (by omega), if_pos (show ((i + sgn s i : Nat) : Int) ≤ (s.size : Int) by omega)]
    simp only [Int.toNat_natCast]
theorem ext_bt (s : ByteArray) (a b : Nat) (h : b ≤ s.size) (hab : a < b) : bt (s.extract a b) 0 = bt s (a : Int) := ext_at s a b 0 h (by omega)
theorem next_digits (s : ByteArray) (hs : s.size ≤ 140737488351232) (i q : Nat) (hiq : i < q) (hr : RunTo digP s i q) :
    ∃ k, lexis_reader_next.f k s (i : Int) = if dec 0 (seg s i q) < 9223372036854775808 ∧ ¬ (bt s (i : Int) = 48 ∧ i + 1 < q) ∧ ¬ follows s q then some (2, ⟨#[]⟩, 1, (dec 0 (seg s i q) : Int), false, ⟨#[]⟩, ⟨0, 0⟩, (i : Int), 0, 0, s, (q : Int)) else some (0, ⟨#[]⟩, 0, 0, false, ⟨#[]⟩, ⟨0, 0⟩, 0, (i : Int), 122, s, (q : Int)) := by
  have hq := hr.2.1
  have c1 : (0 : Int) ≤ (i : Int) := Int.natCast_nonneg _
  have c2 : (i : Int) < (s.size : Int) := by omega
  have hc := hr.2.2.1 i (Nat.le_refl _) hiq
  have hc2 := hc
  unfold digP at hc2
  have hl : lexis_letter.f (bt s (i : Int)) = some false := by rw [letter_is, decide_eq_false (by unfold lowP; omega)]
  have hd : lexis_digit.f (bt s (i : Int)) = some true := by rw [digit_is, decide_eq_true hc]
  obtain ⟨k1, p1⟩ := run43 s hs (i : Int) q (q - i) i (by omega) hr
  have h4 := seg_dig s q (q - i) i (by omega) hr
  have hz := ext_size s i q hq
  have hb := ext_bt s i q hq hiq
  have hsegne : seg s i q ≠ [] := by rw [seg_cons s i q (by omega) hiq]; exact List.cons_ne_nil _ _
  have hparse := parse_digits (seg s i q) hsegne h4
  have hdata := extract_seg s i q
  have hcq : ∃ cq : Int, lexis_reader_byte.f s (q : Int) (q : Int) = some (cq, s, (q : Int)) ∧ (decide (lowP cq) || (cq == 95)) = decide (follows s q) := by
    unfold follows
    by_cases hlt : q < s.size
    · refine ⟨bt s (q : Int), byte_in s _ q hlt, ?_⟩
      rw [Bool.eq_iff_iff]
      simp [hlt]
    · refine ⟨0, byte_out s _ q (by omega), ?_⟩
      simp [hlt, lowP]
  obtain ⟨cq, hcq1, hcq2⟩ := hcq
  have N : ∀ k, lexis_reader_next.f (k1 + k) s (i : Int) = (strconv_ParseInt_53.f (s.extract i q) 10 64).bind fun bt161 => (if bt161.2.isNone = true then (if (decide (bt s (i : Int) = 48 ∧ i + 1 < q) || decide (follows s q)) = true then lexis_reader_next.j0 (k1 + k) (i : Int) bt161.1 true s (q : Int) 0 (⟨#[]⟩ : ByteArray) 0 0 false (⟨#[]⟩ : ByteArray) (⟨0, 0⟩ : CPt) (i : Int) else lexis_reader_next.j0 (k1 + k) (i : Int) bt161.1 false s (q : Int) 0 (⟨#[]⟩ : ByteArray) 0 0 false (⟨#[]⟩ : ByteArray) (⟨0, 0⟩ : CPt) (i : Int)) else (lexis_reader_next.j0 (k1 + k) (i : Int) bt161.1 true s (q : Int) 0 (⟨#[]⟩ : ByteArray) 0 0 false (⟨#[]⟩ : ByteArray) (⟨0, 0⟩ : CPt) (i : Int))) := fun k => by
    rw [lexis_reader_next.f, byte_in s _ i (by omega), Option.bind_some, hl, Option.bind_some, if_neg (by decide), hd, Option.bind_some, if_pos rfl, lexis_reader_run.f, if_neg (by decide), if_pos rfl, lexis_reader_run_43.f,
      up_le (f := fun k => lexis_reader_run_43.l0 k (i : Int) s (i : Int)) (fun k => lexis_reader_run_43.mono_l k _ _ _) p1 k, Option.bind_some, if_pos c1, if_pos (show (i : Int) ≤ (q : Int) by omega), if_pos (show (q : Int) ≤ (s.size : Int) by omega)]
    simp only [Int.toNat_natCast]
    congr 1
    funext bt161
    rw [hcq1, Option.bind_some]
    by_cases hnone : bt161.2.isNone = true
    · rw [if_pos hnone, if_pos hnone, hz, letter_is, Option.bind_some]
      have L : (if decide (lowP cq) = true then lexis_reader_next.j0 (k1 + k) (i : Int) bt161.1 true s (q : Int) 0 (⟨#[]⟩ : ByteArray) 0 0 false (⟨#[]⟩ : ByteArray) (⟨0, 0⟩ : CPt) (i : Int) else lexis_reader_next.j0 (k1 + k) (i : Int) bt161.1 (cq == 95) s (q : Int) 0 (⟨#[]⟩ : ByteArray) 0 0 false (⟨#[]⟩ : ByteArray) (⟨0, 0⟩ : CPt) (i : Int)) = (if decide (follows s q) = true then lexis_reader_next.j0 (k1 + k) (i : Int) bt161.1 true s (q : Int) 0 (⟨#[]⟩ : ByteArray) 0 0 false (⟨#[]⟩ : ByteArray) (⟨0, 0⟩ : CPt) (i : Int) else lexis_reader_next.j0 (k1 + k) (i : Int) bt161.1 false s (q : Int) 0 (⟨#[]⟩ : ByteArray) 0 0 false (⟨#[]⟩ : ByteArray) (⟨0, 0⟩ : CPt) (i : Int)) := by
        rw [← hcq2]
        cases decide (lowP cq) <;> cases (cq == 95) <;> rfl
      rw [L]
      by_cases hlong : i + 1 < q
      · rw [if_pos (by omega), if_pos (by omega)]
        by_cases h48 : bt s (i : Int) = 48
        · rw [if_pos (show bt (s.extract i q) 0 = 48 by rw [hb]; exact h48), if_pos (by simp [h48, hlong])]
        · rw [if_neg (show ¬ bt (s.extract i q) 0 = 48 by rw [hb]; exact h48)]
          simp [h48]
      · rw [if_neg (by omega)]
        simp [hlong]
    · rw [if_neg hnone, if_neg hnone]
  have hsz : (s.extract i q).size ≤ 281474976710656 := by omega
  refine ⟨k1 + 1, ?_⟩
  rw [N]
  by_cases hfit : dec 0 (seg s i q) < 9223372036854775808
  · have hp : strconv_ParseInt_53.f (s.extract i q) 10 64 = some ((dec 0 (seg s i q) : Int), none) := by
      unfold strconv_ParseInt_53.f
      rw [if_pos ⟨rfl, rfl, hsz⟩, hdata, hparse, if_pos hfit]
    rw [hp, Option.bind_some, if_pos (show (none : Option Int).isNone = true from rfl)]
    by_cases hbad : (decide (bt s (i : Int) = 48 ∧ i + 1 < q) || decide (follows s q)) = true
    · rw [if_pos hbad, if_neg]
      · rfl
      · rintro ⟨_, h1, h2⟩
        rw [decide_eq_false h1, decide_eq_false h2] at hbad
        cases hbad
    · have h1 : ¬ (bt s (i : Int) = 48 ∧ i + 1 < q) := fun h => hbad (by rw [decide_eq_true h]; rfl)
      have h2 : ¬ follows s q := fun h => hbad (by rw [decide_eq_true h, Bool.or_true])
      rw [if_neg hbad, if_pos ⟨hfit, h1, h2⟩]
      rfl
  · have hp : ∃ v, strconv_ParseInt_53.f (s.extract i q) 10 64 = some (v, some 0) := by
      unfold strconv_ParseInt_53.f
      rw [if_pos ⟨rfl, rfl, hsz⟩, hdata, hparse, if_neg hfit]
      exact ⟨_, rfl⟩
    obtain ⟨v, hp⟩ := hp
    rw [hp, Option.bind_some, if_neg (show ¬ ((some (0 : Int)).isNone = true) by decide), if_neg (fun h => hfit h.1)]
    rfl
theorem next_of (s : ByteArray) (hs : s.size ≤ 140737488351232) (i e : Nat) (t : S35) (h : TokAt s i t e) : nextOk s i t e := by
  cases h with
  | name h1 h2 h3 h4 h5 =>
    obtain ⟨k, p⟩ := next_name s hs i e h1 h2 h3 h4
    rw [if_neg (by omega)] at p
    exact ⟨k, p⟩
  | int h1 h2 h3 h4 h5 =>
    obtain ⟨k, p⟩ := next_digits s hs i e h1 h2
    rw [if_pos ⟨h3, h4, h5⟩] at p
    exact ⟨k, p⟩
  | text bs h1 h2 h3 h4 =>
    obtain ⟨k, p⟩ := quoted_of s hs (i : Int) (i : Int) ⟨#[]⟩ h3 [] (by simp) 0 0 0 false ⟨#[]⟩ ⟨0, 0⟩
    rw [List.nil_append, if_neg (by omega)] at p
    exact ⟨k, by rw [next_text s hs i h1 h2, p, Option.bind_some]; rfl⟩
  | sign h1 h2 h3 h4 h5 =>
    have p := next_sign s hs i h1 h2 h3 h4
    rw [if_neg (by omega)] at p
    exact ⟨0 + 6, p⟩
theorem next_spec (s : ByteArray) (hs : s.size ≤ 140737488351232) (i : Nat) (hi : i < s.size) : (∃ t e, TokAt s i t e) ∨ nextBad s i := by
  by_cases h1 : lowP (bt s (i : Int))
  · obtain ⟨q, hr⟩ := run_some innP s (s.size - i) i (by omega)
    have hiq : i < q := by
      rcases Nat.lt_or_ge i q with h | h
      · exact h
      · have hb := hr.1
        have e : q = i := by omega
        subst e
        rcases hr.2.2.2 with h | h
        · omega
        · exact absurd (.inl h1) h
    by_cases hlong : q - i ≤ 32
    · exact .inl ⟨_, q, .name hi h1 hr hiq hlong⟩
    · obtain ⟨k, p⟩ := next_name s hs i q hi h1 hr hiq
      rw [if_pos (by omega)] at p
      exact .inr ⟨i, 121, q, by omega, by decide, k, p⟩
  by_cases h2 : digP (bt s (i : Int))
  · obtain ⟨q, hr⟩ := run_some digP s (s.size - i) i (by omega)
    have hiq : i < q := by
      rcases Nat.lt_or_ge i q with h | h
      · exact h
      · have hb := hr.1
        have e : q = i := by omega
        subst e
        rcases hr.2.2.2 with h | h
        · omega
        · exact absurd h2 h
    obtain ⟨k, p⟩ := next_digits s hs i q hiq hr
    by_cases hok : dec 0 (seg s i q) < 9223372036854775808 ∧ ¬ (bt s (i : Int) = 48 ∧ i + 1 < q) ∧ ¬ follows s q
    · exact .inl ⟨_, q, .int hiq hr hok.1 hok.2.1 hok.2.2⟩
    · rw [if_neg hok] at p
      exact .inr ⟨i, 122, q, by omega, by decide, k, p⟩
  by_cases h3 : bt s (i : Int) = 34
  · rcases quoted_spec s hs (i : Int) (i : Int) ⟨#[]⟩ (s.size - (i + 1)) (i + 1) (Nat.le_refl _) (by omega) with ⟨bs, e, hr⟩ | hbad
    · by_cases hlong : bs.length ≤ 4096
      · exact .inl ⟨_, e, .text bs hi h3 hr hlong⟩
      · obtain ⟨k, p⟩ := quoted_of s hs (i : Int) (i : Int) ⟨#[]⟩ hr [] (by simp) 0 0 0 false ⟨#[]⟩ ⟨0, 0⟩
        rw [List.nil_append, if_pos (by omega)] at p
        exact .inr ⟨i, 3, e, by omega, by decide, k, by rw [next_text s hs i hi h3, p, Option.bind_some]⟩
    · obtain ⟨pl, p1, k, p2⟩ := hbad [] (by simp) 0 0 0 false ⟨#[]⟩ ⟨0, 0⟩
      exact .inr ⟨pl, 123, i, p1, by decide, k, by rw [next_text s hs i hi h3, p2, Option.bind_some]⟩
  · have p := next_sign s hs i hi h1 h2 h3
    by_cases h0 : sgn s i = 0
    · rw [if_pos (by omega)] at p
      exact .inr ⟨i, 120, i, by omega, by decide, 0 + 6, p⟩
    · exact .inl ⟨_, _, .sign hi h1 h2 h3 h0⟩

/-! ### all tokens -/
/-- From i on (no blank stands there) these tokens stand, up to the text's end. -/
inductive Toks (s : ByteArray) : Nat → List S35 → Prop
  | nil (i : Nat) : s.size ≤ i → Toks s i []
  | cons (i e : Nat) (t : S35) (l : List S35) : TokAt s i t e → Toks s (Lx.skipP s e) l → Toks s i (t :: l)
theorem toks_len {s : ByteArray} {i : Nat} {l : List S35} (h : Toks s i l) : l.length ≤ s.size - i := by
  induction h with
  | nil i h => simp
  | cons i e t l h1 h2 ih =>
    have hb := tok_bd h1
    have hk := Lx.skipP_bd s e hb.2
    rw [List.length_cons]
    omega
theorem tok_plain {s : ByteArray} {i e : Nat} {t : S35} (h : TokAt s i t e) : t.f2.f4 = ⟨0, 0⟩ ∧ t.f2.f2 = false ∧ t.f3 = (i : Int) := by cases h <;> exact ⟨rfl, rfl, rfl⟩
theorem tokens_of (s : ByteArray) (hs : s.size ≤ 140737488351232) {i : Nat} {l2 : List S35} (h : Toks s i l2) : ∀ l : List S35, l.length + l2.length < 1599289640401 → ∃ k, lexis_tokens.l0 k s l s (i : Int) = some (l ++ l2, 0, 0) := by
  induction h with
  | nil i h =>
    intro l hl
    refine ⟨0 + 1, ?_⟩
    rw [lexis_tokens.l0.eq_2, if_neg (by omega), List.append_nil]
  | cons i e t l2 h1 h2 ih =>
    intro l hl
    rw [List.length_cons] at hl
    have hb := tok_bd h1
    obtain ⟨k1, p1⟩ := next_of s hs i e t h1
    obtain ⟨k2, p2⟩ := ih (l ++ [t]) (by rw [List.length_append]; simp only [List.length_cons, List.length_nil]; omega)
    refine ⟨k1 + k2 + 1, ?_⟩
    rw [lexis_tokens.l0.eq_2, if_pos (by omega), up_le (f := fun k => lexis_reader_next.f k s (i : Int)) (fun k => lexis_reader_next.mono s (i : Int) k) p1 k2, Option.bind_some]
    simp only [if_true]
    rw [if_pos (by omega), blanks_is s hs e hb.2, Option.bind_some, Nat.add_comm]
    have := up_le (f := fun k => lexis_tokens.l0 k s (l ++ [t]) s (Lx.skipP s e : Int)) (fun k => lexis_tokens.mono_l k _ _ _ _) p2 k1
    refine this.trans ?_
    rw [List.append_assoc]
    rfl
theorem tokens_spec (s : ByteArray) (hs : s.size ≤ 140737488351232) : ∀ (n i : Nat), s.size - i ≤ n → i ≤ s.size → (∃ l2, Toks s i l2) ∨ ∀ l : List S35, l.length + (s.size - i) < 1599289640401 → ∃ (r : List S35) (pl : Nat) (er : Int), pl ≤ s.size ∧ er ≠ 0 ∧ ∃ k, lexis_tokens.l0 k s l s (i : Int) = some (r, (pl : Int), er)
  | n, i, hn, hi => by
    by_cases hlt : i < s.size
    · rcases next_spec s hs i hlt with ⟨t, e, h1⟩ | ⟨pl, er, xe, q1, q2, k, q3⟩
      · have hb := tok_bd h1
        have hk := Lx.skipP_bd s e hb.2
        have ih := match n, hn with
          | 0, hn => absurd hn (by omega)
          | n + 1, hn => tokens_spec s hs n (Lx.skipP s e) (by omega) hk.2
        rcases ih with ⟨l2, h2⟩ | ih
        · exact .inl ⟨t :: l2, .cons i e t l2 h1 h2⟩
        · refine .inr (fun l hl => ?_)
          obtain ⟨k1, p1⟩ := next_of s hs i e t h1
          obtain ⟨r, pl, er, q1, q2, k2, p2⟩ := ih (l ++ [t]) (by rw [List.length_append]; simp only [List.length_cons, List.length_nil]; omega)
          refine ⟨r, pl, er, q1, q2, k1 + k2 + 1, ?_⟩
          rw [lexis_tokens.l0.eq_2, if_pos (by omega), up_le (f := fun k => lexis_reader_next.f k s (i : Int)) (fun k => lexis_reader_next.mono s (i : Int) k) p1 k2, Option.bind_some]
          simp only [if_true]
          rw [if_pos (by omega), blanks_is s hs e hb.2, Option.bind_some, Nat.add_comm]
          exact up_le (f := fun k => lexis_tokens.l0 k s (l ++ [t]) s (Lx.skipP s e : Int)) (fun k => lexis_tokens.mono_l k _ _ _ _) p2 k1
      · refine .inr (fun l hl => ⟨l, pl, er, q1, q2, k + 1, ?_⟩)
        rw [lexis_tokens.l0.eq_2, if_pos (by omega), q3, Option.bind_some]
        simp only [if_neg q2]
    · exact .inl ⟨[], .nil i (by omega)⟩
/-- What the program's Tokens answers. -/
theorem Tokens_of (s : ByteArray) (hs : s.size ≤ 65536) (l : List S35) (h : Toks s (Lx.skipP s 0) l) : ∃ k, lexis_Tokens.f k s = some (l, 0, 0) := by
  have hl := toks_len h
  obtain ⟨k, p⟩ := tokens_of s (by omega) h [] (by simp only [List.length_nil]; omega)
  have hb0 : lexis_reader_blanks.f s 0 = some (s, (Lx.skipP s 0 : Int)) := blanks_is s (by omega) 0 (by omega)
  refine ⟨k, ?_⟩
  rw [lexis_Tokens.f, lexis_tokens.f, if_neg (by omega), hb0, Option.bind_some, p, Option.bind_some, if_pos rfl]
  rfl
theorem Tokens_spec (s : ByteArray) (hs : s.size ≤ 140737488351232) : (s.size ≤ 65536 ∧ ∃ l, Toks s (Lx.skipP s 0) l) ∨ ∃ (pl : Nat) (er : Int), pl ≤ s.size ∧ er ≠ 0 ∧ ∃ k, lexis_Tokens.f k s = some ([], (pl : Int), er) := by
  by_cases hlong : (s.size : Int) > 65536
  · exact .inr ⟨65536, 3, by omega, by decide, 0, by rw [lexis_Tokens.f, lexis_tokens.f, if_pos hlong]; rfl⟩
  · have hb := Lx.skipP_bd s 0 (by omega)
    rcases tokens_spec s hs (s.size - Lx.skipP s 0) (Lx.skipP s 0) (Nat.le_refl _) hb.2 with h | h
    · exact .inl ⟨by omega, h⟩
    · obtain ⟨r, pl, er, q1, q2, k, p⟩ := h [] (by simp only [List.length_nil]; omega)
      have hb0 : lexis_reader_blanks.f s 0 = some (s, (Lx.skipP s 0 : Int)) := blanks_is s hs 0 (by omega)
      refine .inr ⟨pl, er, q1, q2, k, ?_⟩
      rw [lexis_Tokens.f, lexis_tokens.f, if_neg hlong, hb0, Option.bind_some, p, Option.bind_some, if_neg q2]
end Go.Proofs.YtmloklmcoedciaaDoor.Pure.Sp
