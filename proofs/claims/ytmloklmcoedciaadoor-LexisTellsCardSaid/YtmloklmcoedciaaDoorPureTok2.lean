/- The plain part of the laws over Tokens, second text: what stands between quotes, signs, tokens one by one: the program's tokens are the document's. Condition: a text of at most 65536 bytes, where it is said. -/
import Derived.Test.YtmloklmcoedciaaDoorPureTokens
namespace Go.Proofs.YtmloklmcoedciaaDoor.Pure.Tok
open Go.RowKit Go.Proofs.YtmloklmcoedciaaDoor.KA Go.Proofs.YtmloklmcoedciaaDoorW.PrintWords Go.Proofs.YtmloklmcoedciaaDoorW.PrintLast
set_option linter.unusedVariables false

/-- The last step of an escape of two hexadecimal digits, on either side. -/
theorem esc_last (s : ByteArray) (hs : s.size ≤ 65536) (x : Int) (i : Nat) (v1 v2 : Nat) (k : Nat) (in2 : i + 2 < s.size) (hv1 : v1 < 16) (hv2 : v2 < 16)
    (y1 : lexis_value.f (bt s ((i + 1 : Nat) : Int)) = some (v1 : Int)) (y2 : lexis_value.f (bt s ((i + 2 : Nat) : Int)) = some (v2 : Int)) :
    lexis_reader_escape.l0 (k + 1) (i : Int) ((i + 3 : Nat) : Int) s x = some (((v1 * 16 + v2 : Nat) : Int), ((i + 3 : Nat) : Int), true, s, x) := by
  have e1 : wrap64 ((i : Int) + 1) = ((i + 1 : Nat) : Int) := by rw [w64 _ (by omega) (by omega)]; omega
  have e2 : wrap64 ((i : Int) + 2) = ((i + 2 : Nat) : Int) := by rw [w64 _ (by omega) (by omega)]; omega
  have e3 : wrap64 ((i : Int) + 3) = ((i + 3 : Nat) : Int) := by rw [w64 _ (by omega) (by omega)]; omega
  have hgt : ¬ ((i + 3 : Nat) : Int) ≤ wrap64 ((i : Int) + 2) := by rw [e2]; omega
  have r1 := byte_in s x (i + 1) (by omega)
  have r2 := byte_in s x (i + 2) in2
  rw [lexis_reader_escape.l0.eq_2, if_neg hgt, e1, r1, Option.bind_some, y1, Option.bind_some, e2, r2, Option.bind_some, y2, Option.bind_some, e3, or_nat v1 v2 hv1 hv2]
theorem quot_last (s : ByteArray) (hs : s.size ≤ 65536) (b : Int) (l : List Int) (i : Nat) (v1 v2 : Nat) (k : Nat) (hl : l.length ≤ 65536) (in2 : i + 2 < s.size) (hv1 : v1 < 16) (hv2 : v2 < 16)
    (z1 : keystoneref12_hex.f (bt s ((i + 1 : Nat) : Int)) = some (v1 : Int)) (z2 : keystoneref12_hex.f (bt s ((i + 2 : Nat) : Int)) = some (v2 : Int)) :
    keystoneref12_quoted.l1 (k + 1) s (i : Int) b l 3 = keystoneref12_quoted.l0 k s ((i + 3 : Nat) : Int) b (l ++ [((v1 * 16 + v2 : Nat) : Int)]) := by
  have e1 : wrap64 ((i : Int) + 1) = ((i + 1 : Nat) : Int) := by rw [w64 _ (by omega) (by omega)]; omega
  have e2 : wrap64 ((i : Int) + 2) = ((i + 2 : Nat) : Int) := by rw [w64 _ (by omega) (by omega)]; omega
  have e3 : wrap64 (((i + 2 : Nat) : Int) + 1) = ((i + 3 : Nat) : Int) := by rw [w64 _ (by omega) (by omega)]; omega
  have q1 : wrap64 ((v1 : Int) * 16) = (v1 : Int) * 16 := w64 _ (by omega) (by omega)
  have hc : wrap64 (wrap64 ((v1 : Int) * 16) + (v2 : Int)) % 256 = ((v1 * 16 + v2 : Nat) : Int) := by
    rw [q1, w64 _ (by omega) (by omega)]
    omega
  have h1 : (0 : Int) ≤ ((i + 1 : Nat) : Int) := Int.natCast_nonneg _
  have h2 : ((i + 1 : Nat) : Int) < (s.size : Int) := by omega
  have h3 : (0 : Int) ≤ ((i + 2 : Nat) : Int) := Int.natCast_nonneg _
  have h4 : ((i + 2 : Nat) : Int) < (s.size : Int) := by omega
  have h5 : l.length < 140737488355328 := by omega
  rw [keystoneref12_quoted.l1.eq_2, if_neg (by decide), e1, if_pos h1, if_pos h2, z1, Option.bind_some, e2, if_pos h3, if_pos h4, z2, Option.bind_some, if_pos h5, e3, hc]
/-- An escape: either side reads one byte and stands at one place; or either side tells one place. -/
theorem escape_both (s : ByteArray) (hs : s.size ≤ 65536) (x b : Int) (l : List Int) (i : Nat) (hi : i ≤ s.size) (hl : l.length ≤ 65536) :
    (∃ (c : Int) (e : Nat), i < e ∧ e ≤ s.size ∧ (∃ k, lexis_reader_escape.f k s x (i : Int) = some (c, (e : Int), true, s, x)) ∧
        ∀ r, (∃ k, keystoneref12_quoted.l0 k s (e : Int) b (l ++ [c]) = some r) → ∃ k, (if (i : Int) ≥ (s.size : Int) then (some ((⟨#[]⟩ : ByteArray), (s.size : Int), (123 : Int))) else (if 0 ≤ (i : Int) then (if (i : Int) < (s.size : Int) then (if (bt s (i : Int)) = 34 then (keystoneref12_quoted.j2 k s (i : Int) b l (bt s (i : Int)) ((bt s (i : Int)) == 34)) else (keystoneref12_quoted.j2 k s (i : Int) b l (bt s (i : Int)) ((bt s (i : Int)) == 92))) else (none)) else (none))) = some r) ∨
    (∃ pl : Int, (∃ k, lexis_reader_escape.f k s x (i : Int) = some (0, pl, false, s, x)) ∧
        ∃ k, (if (i : Int) ≥ (s.size : Int) then (some ((⟨#[]⟩ : ByteArray), (s.size : Int), (123 : Int))) else (if 0 ≤ (i : Int) then (if (i : Int) < (s.size : Int) then (if (bt s (i : Int)) = 34 then (keystoneref12_quoted.j2 k s (i : Int) b l (bt s (i : Int)) ((bt s (i : Int)) == 34)) else (keystoneref12_quoted.j2 k s (i : Int) b l (bt s (i : Int)) ((bt s (i : Int)) == 92))) else (none)) else (none))) = some ((⟨#[]⟩ : ByteArray), pl, 123)) := by
  have cw : ∀ m : Nat, m ≤ 10 → wrap64 ((i : Int) + (m : Int)) = ((i + m : Nat) : Int) := fun m hm => by rw [w64 _ (by omega) (by omega)]; omega
  have cw1 : wrap64 ((i : Int) + 1) = ((i + 1 : Nat) : Int) := cw 1 (by omega)
  have cw2 : wrap64 ((i : Int) + 2) = ((i + 2 : Nat) : Int) := cw 2 (by omega)
  have cw3 : wrap64 ((i : Int) + 3) = ((i + 3 : Nat) : Int) := cw 3 (by omega)
  by_cases hlt : i < s.size
  · have hr := bt_range s (i : Int)
    have c0 : ¬ (i : Int) ≥ (s.size : Int) := by omega
    have c1 : (0 : Int) ≤ (i : Int) := by omega
    have c2 : (i : Int) < (s.size : Int) := by omega
    have c3 : l.length < 140737488355328 := by omega
    have E : ∀ k, lexis_reader_escape.f k s x (i : Int) = if bt s (i : Int) = 34 then lexis_reader_escape.j0 k (i : Int) (bt s (i : Int)) (bt s (i : Int)) (bt s (i : Int) == 34) s x else lexis_reader_escape.j0 k (i : Int) (bt s (i : Int)) (bt s (i : Int)) (bt s (i : Int) == 92) s x := fun k => by
      unfold lexis_reader_escape.f
      rw [byte_in s x i hlt]
      rfl
    simp only [E, if_neg c0, if_pos c1, if_pos c2]
    generalize hc : bt s (i : Int) = c at hr ⊢
    have plain : c = 34 ∨ c = 92 → ∃ (c' : Int) (e : Nat), i < e ∧ e ≤ s.size ∧ (∃ k, (if c = 34 then lexis_reader_escape.j0 k (i : Int) c c (c == 34) s x else lexis_reader_escape.j0 k (i : Int) c c (c == 92) s x) = some (c', (e : Int), true, s, x)) ∧
        ∀ r, (∃ k, keystoneref12_quoted.l0 k s (e : Int) b (l ++ [c']) = some r) → ∃ k, (if c = 34 then (keystoneref12_quoted.j2 k s (i : Int) b l c (c == 34)) else (keystoneref12_quoted.j2 k s (i : Int) b l c (c == 92))) = some r := by
      intro h
      refine ⟨c, i + 1, by omega, by omega, ⟨0 + 1, ?_⟩, fun r ⟨k, e⟩ => ⟨k + 1, ?_⟩⟩
      · rcases h with rfl | rfl
        · rw [if_pos rfl]
          simp only [lexis_reader_escape.j0]
          rw [if_pos (by decide), cw1]
          rfl
        · rw [if_neg (by decide)]
          simp only [lexis_reader_escape.j0]
          rw [if_pos (by decide), cw1]
          rfl
      · rcases h with rfl | rfl
        · rw [if_pos rfl]
          simp only [keystoneref12_quoted.j2]
          rw [if_pos (by decide), if_pos c1, if_pos c2, if_pos c3, cw1, hc]
          exact e
        · rw [if_neg (by decide)]
          simp only [keystoneref12_quoted.j2]
          rw [if_pos (by decide), if_pos c1, if_pos c2, if_pos c3, cw1, hc]
          exact e
    by_cases h34 : c = 34
    · exact .inl (plain (.inl h34))
    by_cases h92 : c = 92
    · exact .inl (plain (.inr h92))
    have b92 : ¬ (c == 92) = true := by simpa using h92
    simp only [if_neg h34]
    by_cases h110 : c = 110
    · subst h110
      refine .inl ⟨10, i + 1, by omega, by omega, ⟨0 + 1, ?_⟩, fun r ⟨k, e⟩ => ⟨k + 1, ?_⟩⟩
      · simp only [lexis_reader_escape.j0]
        rw [if_neg (by decide), if_pos trivial, cw1]
      · simp only [keystoneref12_quoted.j2]
        rw [if_neg (by decide), if_pos trivial, if_pos c3, cw1]
        exact e
    by_cases h116 : c = 116
    · subst h116
      refine .inl ⟨9, i + 1, by omega, by omega, ⟨0 + 1, ?_⟩, fun r ⟨k, e⟩ => ⟨k + 1, ?_⟩⟩
      · simp only [lexis_reader_escape.j0]
        rw [if_neg (by decide), if_neg (by decide), if_pos trivial, cw1]
      · simp only [keystoneref12_quoted.j2]
        rw [if_neg (by decide), if_neg (by decide), if_pos trivial, if_pos c3, cw1]
        exact e
    by_cases h120 : c = 120
    · subst h120
      have J : ∀ k, lexis_reader_escape.j0 (k + 1) (i : Int) 120 120 ((120 : Int) == 92) s x = lexis_reader_escape.l0 k (i : Int) ((i + 1 : Nat) : Int) s x := fun k => by
        simp only [lexis_reader_escape.j0]
        rw [if_neg (by decide), if_neg (by decide), if_neg (by decide), if_pos trivial, cw1]
      have J2 : ∀ k, keystoneref12_quoted.j2 (k + 1) s (i : Int) b l 120 ((120 : Int) == 92) = keystoneref12_quoted.l1 k s (i : Int) b l 1 := fun k => by
        simp only [keystoneref12_quoted.j2]
        rw [if_neg (by decide), if_neg (by decide), if_neg (by decide), if_pos trivial]
      -- one digit at place m
      have bad : ∀ m : Nat, m = 1 ∨ m = 2 → (s.size ≤ i + m ∨ ∃ _ : i + m < s.size, lexis_hex.f (bt s ((i + m : Nat) : Int)) = some false ∧ keystoneref12_hex.f (bt s ((i + m : Nat) : Int)) = some (-1)) → ∃ pl : Int, lexis_reader_escape.l0 1 (i : Int) ((i + m : Nat) : Int) s x = some (0, pl, false, s, x) ∧ keystoneref12_quoted.l1 1 s (i : Int) b l (m : Int) = some ((⟨#[]⟩ : ByteArray), pl, 123) := by
        intro m hm hbad
        have hle : ((i + m : Nat) : Int) ≤ wrap64 ((i : Int) + 2) := by rw [cw2]; omega
        rcases hbad with hbad | ⟨hin, hx, hx2⟩
        · refine ⟨(s.size : Int), ?_, ?_⟩
          · simp only [lexis_reader_escape.l0]
            rw [if_pos hle, byte_out s x _ hbad]
            simp only [Option.bind_some]
            rw [show lexis_hex.f 0 = some false from by decide]
            simp only [Option.bind_some]
            rw [if_neg (by decide), mn_hi _ _ (by omega)]
          · simp only [keystoneref12_quoted.l1]
            rw [if_pos (by omega), cw m (by omega), if_pos (by omega)]
        · refine ⟨((i + m : Nat) : Int), ?_, ?_⟩
          · simp only [lexis_reader_escape.l0]
            rw [if_pos hle, byte_in s x _ hin]
            simp only [Option.bind_some]
            rw [hx]
            simp only [Option.bind_some]
            rw [if_neg (by decide), mn_lo _ _ (by omega)]
          · simp only [keystoneref12_quoted.l1]
            rw [if_pos (by omega), cw m (by omega), if_neg (by omega), if_pos (by omega), if_pos (by omega), hx2]
            simp only [Option.bind_some]
            rw [if_pos (by decide)]
      have good1 : ∀ (v : Nat), i + 1 < s.size → lexis_hex.f (bt s ((i + 1 : Nat) : Int)) = some true → keystoneref12_hex.f (bt s ((i + 1 : Nat) : Int)) = some (v : Int) → (∀ k, lexis_reader_escape.l0 (k + 1) (i : Int) ((i + 1 : Nat) : Int) s x = lexis_reader_escape.l0 k (i : Int) ((i + 2 : Nat) : Int) s x) ∧ (∀ k, keystoneref12_quoted.l1 (k + 1) s (i : Int) b l 1 = keystoneref12_quoted.l1 k s (i : Int) b l 2) := by
        intro v hin hx hx2
        have hle : ((i + 1 : Nat) : Int) ≤ wrap64 ((i : Int) + 2) := by rw [cw2]; omega
        have hw : wrap64 (((i + 1 : Nat) : Int) + 1) = ((i + 2 : Nat) : Int) := by rw [w64 _ (by omega) (by omega)]; omega
        have hw2 : wrap64 ((1 : Int) + 1) = 2 := by rw [w64 _ (by omega) (by omega)]; rfl
        refine ⟨fun k => ?_, fun k => ?_⟩
        · rw [lexis_reader_escape.l0.eq_2, if_pos hle, byte_in s x _ hin]
          simp only [Option.bind_some]
          rw [hx]
          simp only [Option.bind_some, if_true]
          rw [hw]
        · rw [keystoneref12_quoted.l1.eq_2, if_pos (by omega), cw1, if_neg (by omega), if_pos (by omega), if_pos (by omega), hx2]
          simp only [Option.bind_some]
          rw [if_neg (by omega), hw2]
      have good2 : ∀ (v : Nat), i + 2 < s.size → lexis_hex.f (bt s ((i + 2 : Nat) : Int)) = some true → keystoneref12_hex.f (bt s ((i + 2 : Nat) : Int)) = some (v : Int) → (∀ k, lexis_reader_escape.l0 (k + 1) (i : Int) ((i + 2 : Nat) : Int) s x = lexis_reader_escape.l0 k (i : Int) ((i + 3 : Nat) : Int) s x) ∧ (∀ k, keystoneref12_quoted.l1 (k + 1) s (i : Int) b l 2 = keystoneref12_quoted.l1 k s (i : Int) b l 3) := by
        intro v hin hx hx2
        have hle : ((i + 2 : Nat) : Int) ≤ wrap64 ((i : Int) + 2) := by rw [cw2]; omega
        have hw : wrap64 (((i + 2 : Nat) : Int) + 1) = ((i + 3 : Nat) : Int) := by rw [w64 _ (by omega) (by omega)]; omega
        have hw2 : wrap64 ((2 : Int) + 1) = 3 := by rw [w64 _ (by omega) (by omega)]; rfl
        refine ⟨fun k => ?_, fun k => ?_⟩
        · rw [lexis_reader_escape.l0.eq_2, if_pos hle, byte_in s x _ hin]
          simp only [Option.bind_some]
          rw [hx]
          simp only [Option.bind_some, if_true]
          rw [hw]
        · rw [keystoneref12_quoted.l1.eq_2, if_pos (by omega), cw2, if_neg (by omega), if_pos (by omega), if_pos (by omega), hx2]
          simp only [Option.bind_some]
          rw [if_neg (by omega), hw2]
      by_cases in1 : i + 1 < s.size
      · have r1 := bt_range s ((i + 1 : Nat) : Int)
        rcases hex_same _ r1.1 r1.2 with ⟨v1, hv1, x1, y1, z1⟩ | hbad
        · obtain ⟨g1, g2⟩ := good1 v1 in1 x1 z1
          by_cases in2 : i + 2 < s.size
          · have r2 := bt_range s ((i + 2 : Nat) : Int)
            rcases hex_same _ r2.1 r2.2 with ⟨v2, hv2, x2, y2, z2⟩ | hbad
            · obtain ⟨g3, g4⟩ := good2 v2 in2 x2 z2
              refine .inl ⟨((v1 * 16 + v2 : Nat) : Int), i + 3, by omega, by omega, ⟨0 + 1 + 1 + 1 + 1, ?_⟩, fun r ⟨k, e⟩ => ⟨k + 1 + 1 + 1 + 1, ?_⟩⟩
              · rw [J, g1, g3]
                exact esc_last s hs x i v1 v2 0 in2 hv1 hv2 y1 y2
              · rw [J2, g2, g4]
                rw [quot_last s hs b l i v1 v2 k hl in2 hv1 hv2 z1 z2]
                exact e
            · obtain ⟨pl, b1, b2⟩ := bad 2 (.inr rfl) (.inr ⟨in2, hbad⟩)
              exact .inr ⟨pl, ⟨0 + 1 + 1 + 1, by rw [J, g1]; exact b1⟩, ⟨0 + 1 + 1 + 1, by rw [J2, g2]; exact b2⟩⟩
          · obtain ⟨pl, b1, b2⟩ := bad 2 (.inr rfl) (.inl (by omega))
            exact .inr ⟨pl, ⟨0 + 1 + 1 + 1, by rw [J, g1]; exact b1⟩, ⟨0 + 1 + 1 + 1, by rw [J2, g2]; exact b2⟩⟩
        · obtain ⟨pl, b1, b2⟩ := bad 1 (.inl rfl) (.inr ⟨in1, hbad⟩)
          exact .inr ⟨pl, ⟨0 + 1 + 1, by rw [J]; exact b1⟩, ⟨0 + 1 + 1, by rw [J2]; exact b2⟩⟩
      · obtain ⟨pl, b1, b2⟩ := bad 1 (.inl rfl) (.inl (by omega))
        exact .inr ⟨pl, ⟨0 + 1 + 1, by rw [J]; exact b1⟩, ⟨0 + 1 + 1, by rw [J2]; exact b2⟩⟩
    · refine .inr ⟨(i : Int), ⟨0 + 1, ?_⟩, ⟨0 + 1, ?_⟩⟩
      · simp only [lexis_reader_escape.j0]
        rw [if_neg b92, if_neg h110, if_neg h116, if_neg h120, mn_lo _ _ (by omega)]
      · simp only [keystoneref12_quoted.j2]
        rw [if_neg b92, if_neg h110, if_neg h116, if_neg h120]
  · refine .inr ⟨(s.size : Int), ⟨0 + 1, ?_⟩, ⟨0, ?_⟩⟩
    · unfold lexis_reader_escape.f
      rw [byte_out s x i (by omega)]
      simp only [Option.bind_some]
      rw [if_neg (by decide)]
      simp only [lexis_reader_escape.j0]
      rw [if_neg (by decide), if_neg (by decide), if_neg (by decide), if_neg (by decide), mn_hi _ _ (by omega)]
    · rw [if_pos (by omega)]
end Go.Proofs.YtmloklmcoedciaaDoor.Pure.Tok
