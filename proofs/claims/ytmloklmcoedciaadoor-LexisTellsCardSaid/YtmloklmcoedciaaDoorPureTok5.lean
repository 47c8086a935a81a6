/- The plain part of the laws over Tokens, fifth text: the next token: the program reads what the document reads. Condition: a text of at most 65536 bytes, where it is said. -/
import Derived.Test.YtmloklmcoedciaaDoorPureTok4
namespace Go.Proofs.YtmloklmcoedciaaDoor.Pure.Tok
open Go.RowKit Go.Proofs.YtmloklmcoedciaaDoor.KA Go.Proofs.YtmloklmcoedciaaDoorW.PrintWords Go.Proofs.YtmloklmcoedciaaDoorW.PrintLast
set_option linter.unusedVariables false

/-- Either side reads one token and stands behind it. -/
def NGood (s : ByteArray) (i : Nat) : Prop :=
  ∃ (r1 : Int) (r2 : ByteArray) (r3 r4 : Int) (r6 : ByteArray) (e : Nat), i < e ∧ e ≤ s.size ∧ (∃ k, lexis_reader_next.f k s (i : Int) = some (r1, r2, r3, r4, false, r6, ⟨0, 0⟩, (i : Int), 0, 0, s, (e : Int))) ∧
    ∃ k, keystoneref12_one.f k s (i : Int) = some (r1, r2, r3, r4, false, r6, ⟨0, 0⟩, (i : Int), (e : Int), 0)
/-- Either side tells one place and one error. -/
def NBad (s : ByteArray) (i : Nat) : Prop :=
  ∃ (pl er xe : Int), er ≠ 0 ∧ (∃ k, lexis_reader_next.f k s (i : Int) = some (0, ⟨#[]⟩, 0, 0, false, ⟨#[]⟩, ⟨0, 0⟩, 0, pl, er, s, xe)) ∧
    ∃ k, keystoneref12_one.f k s (i : Int) = some (0, ⟨#[]⟩, 0, 0, false, ⟨#[]⟩, ⟨0, 0⟩, (i : Int), pl, er)
theorem letter_is (c : Int) : lexis_letter.f c = some (decide (97 ≤ c ∧ c ≤ 122)) := by
  unfold lexis_letter.f
  by_cases h : c ≥ 97
  · rw [if_pos h]
    simp [show (97 : Int) ≤ c from h]
  · rw [if_neg h]
    simp [show ¬ (97 : Int) ≤ c from h]
theorem low_is (c : Int) : keystoneref12_low.f c = some (decide (97 ≤ c ∧ c ≤ 122)) := letter_is c

theorem next_name (s : ByteArray) (hs : s.size ≤ 65536) (i : Nat) (hi : i < s.size) (hc : 97 ≤ bt s (i : Int) ∧ bt s (i : Int) ≤ 122) : NGood s i ∨ NBad s i := by
  have c1 : (0 : Int) ≤ (i : Int) := Int.natCast_nonneg _
  have c2 : (i : Int) < (s.size : Int) := by omega
  have cw := wsucc i (by omega)
  have hl : lexis_letter.f (bt s (i : Int)) = some true := by rw [letter_is, decide_eq_true hc]
  have hlow : keystoneref12_low.f (bt s (i : Int)) = some true := hl
  have hin : lexis_inner.f (wrap32 (bt s (i : Int))) = some true := by rw [w32_bt, lexis_inner.f, hl]; rfl
  have hin2 : keystoneref12_inner.f (bt s (i : Int)) = some true := by rw [keystoneref12_inner.f, hlow]; rfl
  obtain ⟨q, h1, h2, ⟨k1, p1⟩, r1⟩ := name_run s (by omega) (i : Int) (i : Int) 0 ⟨#[]⟩ 0 0 false ⟨#[]⟩ ⟨0, 0⟩ (i : Int) (s.size - (i + 1)) (i + 1) (by omega)
  have wq : wrap64 ((q : Int) - (i : Int)) = (q : Int) - (i : Int) := w64 _ (by omega) (by omega)
  have N : ∀ r, (lexis_reader_next.f (k1 + 1) s (i : Int) = if (q : Int) - (i : Int) > 32 then some (0, (⟨#[]⟩ : ByteArray), 0, 0, false, (⟨#[]⟩ : ByteArray), (⟨0, 0⟩ : CPt), 0, (i : Int), 121, s, (q : Int)) else r) ↔ (if (q : Int) - (i : Int) > 32 then some (0, (⟨#[]⟩ : ByteArray), 0, 0, false, (⟨#[]⟩ : ByteArray), (⟨0, 0⟩ : CPt), 0, (i : Int), 121, s, (q : Int)) else some (1, s.extract i q, 0, 0, false, (⟨#[]⟩ : ByteArray), (⟨0, 0⟩ : CPt), (i : Int), 0, 0, s, (q : Int))) = if (q : Int) - (i : Int) > 32 then some (0, (⟨#[]⟩ : ByteArray), 0, 0, false, (⟨#[]⟩ : ByteArray), (⟨0, 0⟩ : CPt), 0, (i : Int), 121, s, (q : Int)) else r := fun r => by
    rw [lexis_reader_next.f, byte_in s _ i hi, Option.bind_some, hl, Option.bind_some, if_pos rfl, lexis_reader_run.f, if_pos rfl, lexis_reader_run_29.f, lexis_reader_run_29.l0.eq_2, if_pos c2, if_pos c1, hin, Option.bind_some, if_pos rfl, cw, p1, Option.bind_some, wq, if_pos c1, if_pos (show (i : Int) ≤ (q : Int) by omega), if_pos (show (q : Int) ≤ (s.size : Int) by omega)]
    simp only [Int.toNat_natCast]
  have E : ∀ r, (∃ k, keystoneref12_one.j1 k s (i : Int) (q : Int) 0 ⟨#[]⟩ 0 0 false ⟨#[]⟩ ⟨0, 0⟩ (i : Int) = some r) → ∃ k, keystoneref12_one.f k s (i : Int) = some r := fun r hr => by
    obtain ⟨k, e⟩ := r1 r hr
    refine ⟨k + 1, ?_⟩
    rw [keystoneref12_one.f, if_pos c1, if_pos c2, hlow, Option.bind_some, if_pos rfl, keystoneref12_one.l0.eq_2, if_pos c2, if_pos c1, hin2, Option.bind_some, if_pos rfl, cw, e]
  by_cases hlong : (q : Int) - (i : Int) > 32
  · refine .inr ⟨(i : Int), 121, (q : Int), by decide, ⟨k1 + 1, ?_⟩, E _ ⟨0 + 1, ?_⟩⟩
    · have := (N none).2 (by rw [if_pos hlong, if_pos hlong])
      rw [this, if_pos hlong]
    · rw [keystoneref12_one.j1, wq, if_pos hlong]
  · refine .inl ⟨1, s.extract i q, 0, 0, ⟨#[]⟩, q, by omega, h2, ⟨k1 + 1, ?_⟩, E _ ⟨0 + 1, ?_⟩⟩
    · have := (N (some (1, s.extract i q, 0, 0, false, (⟨#[]⟩ : ByteArray), (⟨0, 0⟩ : CPt), (i : Int), 0, 0, s, (q : Int)))).2 rfl
      rw [this, if_neg hlong]
    · rw [keystoneref12_one.j1, wq, if_neg hlong, if_pos c1, if_pos (show (i : Int) ≤ (q : Int) by omega), if_pos (show (q : Int) ≤ (s.size : Int) by omega)]
      simp only [Int.toNat_natCast]

theorem next_quoted (s : ByteArray) (hs : s.size ≤ 65536) (i : Nat) (hi : i < s.size) (hc : bt s (i : Int) = 34) : NGood s i ∨ NBad s i := by
  have c1 : (0 : Int) ≤ (i : Int) := Int.natCast_nonneg _
  have c2 : (i : Int) < (s.size : Int) := by omega
  have cw := wsucc i (by omega)
  have hl : lexis_letter.f 34 = some false := by decide
  have hd : lexis_digit.f 34 = some false := by decide
  have hl2 : keystoneref12_low.f 34 = some false := by decide
  have hd2 : keystoneref12_digit.f 34 = some false := by decide
  have N : ∀ k, lexis_reader_next.f k s (i : Int) = (lexis_reader_quoted.l0 k [] ((i + 1 : Nat) : Int) s (i : Int) 0 ⟨#[]⟩ 0 0 false ⟨#[]⟩ ⟨0, 0⟩ (i : Int)).bind fun x => some x := fun k => by
    rw [lexis_reader_next.f, byte_in s _ i hi, Option.bind_some, hc, hl, Option.bind_some, if_neg (by decide), hd, Option.bind_some, if_neg (by decide), if_pos rfl, lexis_reader_quoted.f, cw]
  have E : ∀ k, keystoneref12_one.f k s (i : Int) = (keystoneref12_quoted.l0 k s ((i + 1 : Nat) : Int) (i : Int) []).bind fun bt241 => (if bt241.2.2 = 0 then (some (3, (⟨#[]⟩ : ByteArray), 3, 0, false, bt241.1, (⟨0, 0⟩ : CPt), (i : Int), bt241.2.1, 0)) else (some (0, (⟨#[]⟩ : ByteArray), 0, 0, false, (⟨#[]⟩ : ByteArray), (⟨0, 0⟩ : CPt), (i : Int), bt241.2.1, bt241.2.2))) := fun k => by
    rw [keystoneref12_one.f, if_pos c1, if_pos c2, hc, hl2, Option.bind_some, if_neg (by decide), hd2, Option.bind_some, if_neg (by decide), if_pos rfl, keystoneref12_quoted.f, cw]
  rcases quoted_both s hs (i : Int) (i : Int) ⟨#[]⟩ (s.size - (i + 1)) (i + 1) [] (Nat.le_refl _) (by omega) (by simp) with ⟨bs, e, q1, q2, q3, k2, p2⟩ | ⟨pl, er, xe, q1, q2, k2, p2⟩
  · obtain ⟨k1, p1⟩ := q3 0 0 0 false ⟨#[]⟩ ⟨0, 0⟩
    refine .inl ⟨3, ⟨#[]⟩, 3, 0, bs, e, by omega, q2, ⟨k1, ?_⟩, ⟨k2, ?_⟩⟩
    · rw [N, p1, Option.bind_some]
    · rw [E, p2, Option.bind_some, if_pos rfl]
  · obtain ⟨k1, p1⟩ := q2 0 0 0 false ⟨#[]⟩ ⟨0, 0⟩
    refine .inr ⟨pl, er, xe, q1, ⟨k1, ?_⟩, ⟨k2, ?_⟩⟩
    · rw [N, p1, Option.bind_some]
    · rw [E, p2, Option.bind_some, if_neg q1]

theorem next_sign (s : ByteArray) (hs : s.size ≤ 65536) (i : Nat) (hi : i < s.size) (h1 : ¬ (97 ≤ bt s (i : Int) ∧ bt s (i : Int) ≤ 122)) (h2 : ¬ (48 ≤ bt s (i : Int) ∧ bt s (i : Int) ≤ 57)) (h3 : ¬ bt s (i : Int) = 34) : NGood s i ∨ NBad s i := by
  have c1 : (0 : Int) ≤ (i : Int) := Int.natCast_nonneg _
  have c2 : (i : Int) < (s.size : Int) := by omega
  have hl : lexis_letter.f (bt s (i : Int)) = some false := by rw [letter_is, decide_eq_false h1]
  have hd : lexis_digit.f (bt s (i : Int)) = some false := by rw [ldigit_is, decide_eq_false h2]
  have hl2 : keystoneref12_low.f (bt s (i : Int)) = some false := hl
  have hd2 : keystoneref12_digit.f (bt s (i : Int)) = some false := by rw [digit_is, decide_eq_false h2]
  have hle := sgn_le s i hi
  have hn : sgn s i ≤ 2 := by unfold sgn; split; omega; split <;> omega
  have wq : wrap64 ((i : Int) + (sgn s i : Int)) = ((i + sgn s i : Nat) : Int) := by rw [w64 _ (by omega) (by omega)]; omega
  obtain ⟨k2, p2⟩ := ref_sign s hs i hi
  have hp := prog_sign s hs i hi 0
  have N : lexis_reader_next.f (0 + 6) s (i : Int) = if (sgn s i : Int) = 0 then some (0, (⟨#[]⟩ : ByteArray), 0, 0, false, (⟨#[]⟩ : ByteArray), (⟨0, 0⟩ : CPt), 0, (i : Int), 120, s, (i : Int)) else some (4, s.extract i (i + sgn s i), 0, 0, false, (⟨#[]⟩ : ByteArray), (⟨0, 0⟩ : CPt), (i : Int), 0, 0, s, ((i + sgn s i : Nat) : Int)) := by
    rw [lexis_reader_next.f, byte_in s _ i hi, Option.bind_some, hl, Option.bind_some, if_neg (by decide), hd, Option.bind_some, if_neg (by decide), if_neg h3, if_pos c1, if_pos (show (i : Int) ≤ (s.size : Int) by omega), Int.toNat_natCast, hp, Option.bind_some, wq]
    by_cases h0 : (sgn s i : Int) = 0
    · rw [if_pos h0, if_pos h0]
    · rw [if_neg h0, if_neg h0, if_pos (by omega), if_pos (show ((i + sgn s i : Nat) : Int) ≤ (s.size : Int) by omega)]
      simp only [Int.toNat_natCast]
  have E : keystoneref12_one.f k2 s (i : Int) = (some (if sgn s i = 0 then (⟨#[]⟩ : ByteArray) else s.extract i (i + sgn s i))).bind fun t244 => (if t244.toList = ([] : List UInt8) then (some (0, (⟨#[]⟩ : ByteArray), 0, 0, false, (⟨#[]⟩ : ByteArray), (⟨0, 0⟩ : CPt), (i : Int), (i : Int), 120)) else (some (4, t244, 0, 0, false, (⟨#[]⟩ : ByteArray), (⟨0, 0⟩ : CPt), (i : Int), wrap64 ((i : Int) + (t244.size : Int)), 0))) := by
    rw [keystoneref12_one.f, if_pos c1, if_pos c2, hl2, Option.bind_some, if_neg (by decide), hd2, Option.bind_some, if_neg (by decide), if_neg h3, p2]
  by_cases h0 : sgn s i = 0
  · refine .inr ⟨(i : Int), 120, (i : Int), by decide, ⟨0 + 6, ?_⟩, ⟨k2, ?_⟩⟩
    · rw [N, if_pos (by omega)]
    · rw [E, if_pos h0, Option.bind_some, if_pos ((nil_iff _).2 rfl)]
  · have hz := ext_size s i (i + sgn s i) hle
    refine .inl ⟨4, s.extract i (i + sgn s i), 0, 0, ⟨#[]⟩, i + sgn s i, by omega, hle, ⟨0 + 6, ?_⟩, ⟨k2, ?_⟩⟩
    · rw [N, if_neg (by omega)]
    · rw [E, if_neg h0, Option.bind_some, if_neg (fun h => by rw [nil_iff, hz] at h; omega), hz, show i + sgn s i - i = sgn s i by omega, wq]
end Go.Proofs.YtmloklmcoedciaaDoor.Pure.Tok
