/- The plain part of the laws over Tokens, sixth text: whole numbers; all tokens of a text: the program's tokens are the document's. Condition: a text of at most 140737488351232 bytes. -/
import Derived.Test.YtmloklmcoedciaaDoorPureTok5
namespace Go.Proofs.YtmloklmcoedciaaDoor.Pure.Tok
open Go.RowKit Go.Proofs.YtmloklmcoedciaaDoor.KA Go.Proofs.YtmloklmcoedciaaDoorW.PrintWords Go.Proofs.YtmloklmcoedciaaDoorW.PrintLast
set_option linter.unusedVariables false

/-- What stands behind digits and spoils them. -/
def follows (s : ByteArray) (q : Nat) : Bool := decide (q < s.size ∧ (97 ≤ bt s (q : Int) ∧ bt s (q : Int) ≤ 122 ∨ bt s (q : Int) = 95))
theorem whole_end (s : ByteArray) (hs : s.size ≤ 65536) (p q : Nat) (hp : p < s.size) (hq : q ≤ s.size) (y7 : Int) (y8 : Bool) :
    keystoneref12_whole.j1 1 s (p : Int) y7 y8 (q : Int) false = some (wrap64 y7, (q : Int), y8 && !(decide (bt s (p : Int) = 48 ∧ p + 1 < q)) && !(follows s q)) := by
  have c1 : (0 : Int) ≤ (p : Int) := Int.natCast_nonneg _
  have c2 : (p : Int) < (s.size : Int) := by omega
  have cw := wsucc p (by omega)
  have F : ∀ z : Bool, (if (q : Int) < (s.size : Int) then (if 0 ≤ (q : Int) then ((keystoneref12_low.f (bt s (q : Int))).bind fun t212 => (if t212 = true then (some (wrap64 (y7), (q : Int), false)) else (if (bt s (q : Int)) = 95 then (some (wrap64 (y7), (q : Int), false)) else (some (wrap64 (y7), (q : Int), z))))) else (none)) else (some (wrap64 (y7), (q : Int), z))) = some (wrap64 y7, (q : Int), z && !(follows s q)) := fun z => by
    unfold follows
    by_cases hlt : q < s.size
    · rw [if_pos (by omega), if_pos (Int.natCast_nonneg _), low_is, Option.bind_some]
      by_cases ha : 97 ≤ bt s (q : Int) ∧ bt s (q : Int) ≤ 122
      · simp [ha, hlt]
      · by_cases hb : bt s (q : Int) = 95
        · simp [hb, hlt]
        · simp [ha, hb, hlt]
    · rw [if_neg (by omega)]
      simp [hlt]
  rw [keystoneref12_whole.j1.eq_2, if_neg (by decide), if_pos c1, if_pos c2, cw, F]
  by_cases h48 : bt s (p : Int) = 48
  · rw [if_pos h48]
    by_cases hl : p + 1 < q
    · rw [if_pos (by omega)]
      simp [h48, hl]
    · rw [if_neg (by omega)]
      simp [hl]
  · rw [if_neg h48]
    simp [h48]
theorem ext_bt (s : ByteArray) (a b : Nat) (h : b ≤ s.size) (hab : a < b) : bt (s.extract a b) 0 = bt s (a : Int) := by
  have hz := ext_size s a b h
  have g2 : (0 : Nat) < (s.extract a b).size := by omega
  rw [show (0 : Int) = ((0 : Nat) : Int) from rfl, Lx.bt_nat _ 0 g2, Lx.bt_nat s a (by omega)]
  have g := Lib.data_getElem? (s.extract a b) 0 g2
  rw [extract_seg, seg_cons s a b (by omega) hab, List.getElem?_cons_zero] at g
  rw [← Option.some.inj g]
theorem next_digits (s : ByteArray) (hs : s.size ≤ 65536) (i : Nat) (hi : i < s.size) (hc : 48 ≤ bt s (i : Int) ∧ bt s (i : Int) ≤ 57) : NGood s i ∨ NBad s i := by
  have c1 : (0 : Int) ≤ (i : Int) := Int.natCast_nonneg _
  have c2 : (i : Int) < (s.size : Int) := by omega
  have hl : lexis_letter.f (bt s (i : Int)) = some false := by rw [letter_is, decide_eq_false (by omega)]
  have hd : lexis_digit.f (bt s (i : Int)) = some true := by rw [ldigit_is, decide_eq_true hc]
  have hl2 : keystoneref12_low.f (bt s (i : Int)) = some false := hl
  have hd2 : keystoneref12_digit.f (bt s (i : Int)) = some true := hd
  obtain ⟨q, h1, h2, ⟨k1, p1⟩, h4, h5, y7, y8, h6, h7⟩ := int_run s (by omega) (i : Int) (i : Int) (s.size - i) i 0 0 true (by omega) (.inl ⟨rfl, rfl, by omega⟩)
  have hiq : i < q := by
    rcases Nat.lt_or_ge i q with h | h
    · exact h
    · have e : q = i := by omega
      subst e
      rcases h5 with h5 | h5
      · omega
      · rw [hd2] at h5
        cases h5
  have hz := ext_size s i q h2
  have hb := ext_bt s i q h2 hiq
  have hsegne : seg s i q ≠ [] := by rw [seg_cons s i q hi hiq]; exact List.cons_ne_nil _ _
  have hparse := parse_digits (seg s i q) hsegne h4
  have hdata := extract_seg s i q
  -- the byte behind the digits
  have hcq : ∃ cq : Int, lexis_reader_byte.f s (q : Int) (q : Int) = some (cq, s, (q : Int)) ∧ (decide (97 ≤ cq ∧ cq ≤ 122) || (cq == 95)) = follows s q := by
    unfold follows
    by_cases hlt : q < s.size
    · refine ⟨bt s (q : Int), byte_in s _ q hlt, ?_⟩
      rw [Bool.eq_iff_iff]
      simp [hlt]
    · refine ⟨0, byte_out s _ q (by omega), ?_⟩
      simp [hlt]
  obtain ⟨cq, hcq1, hcq2⟩ := hcq
  have N : ∀ k, lexis_reader_next.f (k1 + k) s (i : Int) = (strconv_ParseInt_53.f (s.extract i q) 10 64).bind fun bt161 => (if bt161.2.isNone = true then (if (decide (bt s (i : Int) = 48 ∧ i + 1 < q) || follows s q) = true then lexis_reader_next.j0 (k1 + k) (i : Int) bt161.1 true s (q : Int) 0 (⟨#[]⟩ : ByteArray) 0 0 false (⟨#[]⟩ : ByteArray) (⟨0, 0⟩ : CPt) (i : Int) else lexis_reader_next.j0 (k1 + k) (i : Int) bt161.1 false s (q : Int) 0 (⟨#[]⟩ : ByteArray) 0 0 false (⟨#[]⟩ : ByteArray) (⟨0, 0⟩ : CPt) (i : Int)) else (lexis_reader_next.j0 (k1 + k) (i : Int) bt161.1 true s (q : Int) 0 (⟨#[]⟩ : ByteArray) 0 0 false (⟨#[]⟩ : ByteArray) (⟨0, 0⟩ : CPt) (i : Int))) := fun k => by
    rw [lexis_reader_next.f, byte_in s _ i hi, Option.bind_some, hl, Option.bind_some, if_neg (by decide), hd, Option.bind_some, if_pos rfl, lexis_reader_run.f, if_neg (by decide), if_pos rfl, lexis_reader_run_43.f,
      up_le (f := fun k => lexis_reader_run_43.l0 k (i : Int) s (i : Int)) (fun k => lexis_reader_run_43.mono_l k _ _ _) p1 k, Option.bind_some, if_pos c1, if_pos (show (i : Int) ≤ (q : Int) by omega), if_pos (show (q : Int) ≤ (s.size : Int) by omega)]
    simp only [Int.toNat_natCast]
    congr 1
    funext bt161
    rw [hcq1, Option.bind_some]
    by_cases hnone : bt161.2.isNone = true
    · rw [if_pos hnone, if_pos hnone, hz, letter_is, Option.bind_some]
      have L : (if decide (97 ≤ cq ∧ cq ≤ 122) = true then lexis_reader_next.j0 (k1 + k) (i : Int) bt161.1 true s (q : Int) 0 (⟨#[]⟩ : ByteArray) 0 0 false (⟨#[]⟩ : ByteArray) (⟨0, 0⟩ : CPt) (i : Int) else lexis_reader_next.j0 (k1 + k) (i : Int) bt161.1 (cq == 95) s (q : Int) 0 (⟨#[]⟩ : ByteArray) 0 0 false (⟨#[]⟩ : ByteArray) (⟨0, 0⟩ : CPt) (i : Int)) = (if follows s q = true then lexis_reader_next.j0 (k1 + k) (i : Int) bt161.1 true s (q : Int) 0 (⟨#[]⟩ : ByteArray) 0 0 false (⟨#[]⟩ : ByteArray) (⟨0, 0⟩ : CPt) (i : Int) else lexis_reader_next.j0 (k1 + k) (i : Int) bt161.1 false s (q : Int) 0 (⟨#[]⟩ : ByteArray) 0 0 false (⟨#[]⟩ : ByteArray) (⟨0, 0⟩ : CPt) (i : Int)) := by
        rw [← hcq2]
        cases decide (97 ≤ cq ∧ cq ≤ 122) <;> cases (cq == 95) <;> rfl
      rw [L]
      by_cases hlong : i + 1 < q
      · rw [if_pos (by omega), if_pos (by omega)]
        by_cases h48 : bt s (i : Int) = 48
        · rw [if_pos (show bt (s.extract i q) 0 = 48 by rw [hb]; exact h48), if_pos (by simp [h48, hlong])]
        · rw [if_neg (show ¬ bt (s.extract i q) 0 = 48 by rw [hb]; exact h48)]
          simp [h48]
      · rw [if_neg (by omega)]
        simp [hlong]
    · rw [if_neg hnone, if_neg hnone]
  have E : ∃ k, keystoneref12_whole.f k s (i : Int) = some (wrap64 y7, (q : Int), y8 && !(decide (bt s (i : Int) = 48 ∧ i + 1 < q)) && !(follows s q)) := by
    obtain ⟨k, e⟩ := h7 _ ⟨1, whole_end s hs i q hi h2 y7 y8⟩
    exact ⟨k, e⟩
  obtain ⟨k2, p2⟩ := E
  have E2 : keystoneref12_one.f k2 s (i : Int) = if (y8 && !(decide (bt s (i : Int) = 48 ∧ i + 1 < q)) && !(follows s q)) = true then (some (2, (⟨#[]⟩ : ByteArray), 1, wrap64 y7, false, (⟨#[]⟩ : ByteArray), (⟨0, 0⟩ : CPt), (i : Int), (q : Int), 0)) else (some (0, (⟨#[]⟩ : ByteArray), 0, 0, false, (⟨#[]⟩ : ByteArray), (⟨0, 0⟩ : CPt), (i : Int), (i : Int), 122)) := by
    rw [keystoneref12_one.f, if_pos c1, if_pos c2, hl2, Option.bind_some, if_neg (by decide), hd2, Option.bind_some, if_pos rfl, p2, Option.bind_some]
  have bad : ∀ v, lexis_reader_next.j0 (k1 + 1) (i : Int) v true s (q : Int) 0 (⟨#[]⟩ : ByteArray) 0 0 false (⟨#[]⟩ : ByteArray) (⟨0, 0⟩ : CPt) (i : Int) = some (0, ⟨#[]⟩, 0, 0, false, ⟨#[]⟩, ⟨0, 0⟩, 0, (i : Int), 122, s, (q : Int)) := fun v => rfl
  have hsz : (s.extract i q).size ≤ 281474976710656 := by omega
  rcases h6 with ⟨rfl, rfl, hfit⟩ | ⟨rfl, hbig⟩
  · have hp : strconv_ParseInt_53.f (s.extract i q) 10 64 = some ((dec 0 (seg s i q) : Int), none) := by
      unfold strconv_ParseInt_53.f
      rw [if_pos ⟨rfl, rfl, hsz⟩, hdata, hparse, if_pos hfit]
    by_cases hbad : (decide (bt s (i : Int) = 48 ∧ i + 1 < q) || follows s q) = true
    · refine .inr ⟨(i : Int), 122, (q : Int), by decide, ⟨k1 + 1, ?_⟩, ⟨k2, ?_⟩⟩
      · rw [N, hp, Option.bind_some, if_pos (show (none : Option Int).isNone = true from rfl), if_pos hbad, bad]
      · rw [E2, if_neg]
        intro h
        revert hbad h
        cases decide (bt s (i : Int) = 48 ∧ i + 1 < q) <;> cases follows s q <;> simp
    · refine .inl ⟨2, ⟨#[]⟩, 1, (dec 0 (seg s i q) : Int), ⟨#[]⟩, q, hiq, h2, ⟨k1 + 1, ?_⟩, ⟨k2, ?_⟩⟩
      · rw [N, hp, Option.bind_some, if_pos (show (none : Option Int).isNone = true from rfl), if_neg hbad]
        rfl
      · rw [E2, if_pos, w64 _ (by omega) (by omega)]
        revert hbad
        cases decide (bt s (i : Int) = 48 ∧ i + 1 < q) <;> cases follows s q <;> simp
  · have hp : ∃ v, strconv_ParseInt_53.f (s.extract i q) 10 64 = some (v, some 0) := by
      unfold strconv_ParseInt_53.f
      rw [if_pos ⟨rfl, rfl, hsz⟩, hdata, hparse, if_neg (by omega)]
      exact ⟨_, rfl⟩
    obtain ⟨v, hp⟩ := hp
    refine .inr ⟨(i : Int), 122, (q : Int), by decide, ⟨k1 + 1, ?_⟩, ⟨k2, ?_⟩⟩
    · rw [N, hp, Option.bind_some, if_neg (show ¬ ((some (0 : Int)).isNone = true) by decide), bad]
    · rw [E2, if_neg (by simp)]
theorem next_both (s : ByteArray) (hs : s.size ≤ 65536) (i : Nat) (hi : i < s.size) : NGood s i ∨ NBad s i := by
  by_cases h1 : 97 ≤ bt s (i : Int) ∧ bt s (i : Int) ≤ 122
  · exact next_name s hs i hi h1
  by_cases h2 : 48 ≤ bt s (i : Int) ∧ bt s (i : Int) ≤ 57
  · exact next_digits s hs i hi h2
  by_cases h3 : bt s (i : Int) = 34
  · exact next_quoted s hs i hi h3
  · exact next_sign s hs i hi h1 h2 h3

/-! ### all tokens -/
/-- A token bears no point and no yes. -/
def Plain (t : S35) : Prop := t.f2.f4 = ⟨0, 0⟩
def Toks (s : ByteArray) (i : Nat) (l : List S35) : Prop :=
  ∃ r : List S35 × Int × Int, (∀ t ∈ r.1, Plain t) ∧ r.1.length ≤ 140737488351232 ∧ (∃ k, lexis_tokens.l0 k s l s (i : Int) = some r) ∧ ∃ k, keystoneref12_Ahead.l0 k s l (i : Int) = some r
theorem blanks_is (s : ByteArray) (hs : s.size ≤ 140737488351232) (i : Nat) (h : i ≤ s.size) : lexis_reader_blanks.f s (i : Int) = some (s, (Lx.skipP s i : Int)) := by
  unfold lexis_reader_blanks.f
  rw [if_pos ⟨Int.natCast_nonneg _, by omega, hs⟩, Int.toNat_natCast]
theorem skip_is (s : ByteArray) (hs : s.size ≤ 140737488351232) (i : Nat) (h : i ≤ s.size) : ∃ k, keystoneref12_skip.f k s (i : Int) = some (Lx.skipP s i : Int) :=
  (skip_both s hs (s.size - i) i (by omega)).1
theorem tokens_loop (s : ByteArray) (hs : s.size ≤ 65536) : ∀ (n i : Nat) (l : List S35), s.size - i ≤ n → i ≤ s.size → l.length ≤ i → (∀ t ∈ l, Plain t) → Toks s i l
  | n, i, l, hn, hi, hl, hpl => by
    by_cases hlt : i < s.size
    · have c2 : (i : Int) < (s.size : Int) := by omega
      have c3 : l.length < 1599289640401 := by omega
      rcases next_both s hs i hlt with ⟨r1, r2, r3, r4, r6, e, e1, e2, ⟨k1, p1⟩, k2, p2⟩ | ⟨pl, er, xe, q1, ⟨k1, p1⟩, k2, p2⟩
      · have hb := Lx.skipP_bd s e e2
        obtain ⟨k4, p4⟩ := skip_is s (by omega) e e2
        have ih : Toks s (Lx.skipP s e) (l ++ [(⟨r1, r2, (⟨r3, r4, false, r6, ⟨0, 0⟩⟩ : S33), (i : Int)⟩ : S35)]) := match n, hn with
          | 0, hn => absurd hn (by omega)
          | n + 1, hn => tokens_loop s hs n (Lx.skipP s e) _ (by omega) hb.2 (by rw [List.length_append]; simp only [List.length_cons, List.length_nil]; omega) (fun t ht => by
              rcases List.mem_append.1 ht with ht | ht
              · exact hpl t ht
              · obtain rfl := List.mem_singleton.1 ht
                rfl)
        obtain ⟨r, hr, hlen, ⟨k3, p3⟩, k5, p5⟩ := ih
        refine ⟨r, hr, hlen, ⟨k1 + k3 + 1, ?_⟩, ⟨k2 + (k4 + k5) + 1, ?_⟩⟩
        · rw [lexis_tokens.l0.eq_2, if_pos c2, up_le (f := fun k => lexis_reader_next.f k s (i : Int)) (fun k => lexis_reader_next.mono s (i : Int) k) p1 k3, Option.bind_some]
          simp only [if_true]
          rw [if_pos c3, blanks_is s (by omega) e e2, Option.bind_some]
          rw [Nat.add_comm]
          exact up_le (f := fun k => lexis_tokens.l0 k s _ s _) (fun k => lexis_tokens.mono_l k _ _ _ _) p3 k1
        · rw [keystoneref12_Ahead.l0.eq_2, if_pos c2, up_le (f := fun k => keystoneref12_one.f k s (i : Int)) (fun k => keystoneref12_one.mono s (i : Int) k) p2 (k4 + k5), Option.bind_some]
          simp only [if_true]
          rw [if_pos c3, show k2 + (k4 + k5) = k4 + (k2 + k5) by omega, up_le (f := fun k => keystoneref12_skip.f k s (e : Int)) (fun k => keystoneref12_skip.mono s (e : Int) k) p4 (k2 + k5), Option.bind_some]
          rw [show k4 + (k2 + k5) = k5 + (k4 + k2) by omega]
          exact up_le (f := fun k => keystoneref12_Ahead.l0 k s _ _) (fun k => keystoneref12_Ahead.mono_l k _ _ _) p5 (k4 + k2)
      · refine ⟨(l, pl, er), hpl, (by show l.length ≤ _; omega), ⟨k1 + 1, ?_⟩, ⟨k2 + 1, ?_⟩⟩
        · rw [lexis_tokens.l0.eq_2, if_pos c2, p1, Option.bind_some]
          simp only [if_neg q1]
        · rw [keystoneref12_Ahead.l0.eq_2, if_pos c2, p2, Option.bind_some]
          simp only [if_neg q1]
    · refine ⟨(l, 0, 0), hpl, (by show l.length ≤ _; omega), ⟨0 + 1, ?_⟩, ⟨0 + 1, ?_⟩⟩
      · rw [lexis_tokens.l0.eq_2, if_neg (by omega)]
      · rw [keystoneref12_Ahead.l0.eq_2, if_neg (by omega)]
/-- The program's tokens, and what is wrong with the text, are the document's. -/
theorem ahead_both (s : ByteArray) (hs : s.size ≤ 140737488351232) : ∃ r : List S35 × Int × Int, (∀ t ∈ r.1, Plain t) ∧ r.1.length ≤ 140737488351232 ∧ (∃ k, lexis_tokens.f k s = some r) ∧ ∃ k, keystoneref12_Ahead.f k s = some r := by
  by_cases hlong : (s.size : Int) > 65536
  · exact ⟨([], 65536, 3), by simp, by simp, ⟨0, by rw [lexis_tokens.f, if_pos hlong]⟩, ⟨0, by rw [keystoneref12_Ahead.f, if_pos hlong]⟩⟩
  · have hb := Lx.skipP_bd s 0 (by omega)
    obtain ⟨r, hr, hlen, ⟨k1, p1⟩, k2, p2⟩ := tokens_loop s (by omega) (s.size - Lx.skipP s 0) (Lx.skipP s 0) [] (Nat.le_refl _) hb.2 (by simp) (by simp)
    obtain ⟨k3, p3⟩ := skip_is s hs 0 (by omega)
    have p3' : keystoneref12_skip.f k3 s 0 = some (Lx.skipP s 0 : Int) := p3
    have hb0 : lexis_reader_blanks.f s 0 = some (s, (Lx.skipP s 0 : Int)) := blanks_is s hs 0 (by omega)
    refine ⟨r, hr, hlen, ⟨k1, ?_⟩, ⟨k3 + k2, ?_⟩⟩
    · rw [lexis_tokens.f, if_neg hlong, hb0, Option.bind_some, p1]
    · rw [keystoneref12_Ahead.f, if_neg hlong, up_le (f := fun k => keystoneref12_skip.f k s 0) (fun k => keystoneref12_skip.mono s 0 k) p3' k2, Option.bind_some, Nat.add_comm]
      exact up_le (f := fun k => keystoneref12_Ahead.l0 k s _ _) (fun k => keystoneref12_Ahead.mono_l k _ _ _) p2 k3
theorem tokens_both (s : ByteArray) (hs : s.size ≤ 140737488351232) : ∃ r : List S35 × Int × Int, (∀ t ∈ r.1, Plain t) ∧ r.1.length ≤ 140737488351232 ∧ (∃ k, lexis_Tokens.f k s = some r) ∧ ∃ k, keystoneref12_Tokens.f k s = some r := by
  obtain ⟨r, hr, hlen, ⟨k1, p1⟩, k2, p2⟩ := ahead_both s hs
  by_cases h0 : r.2.2 = 0
  · exact ⟨(r.1, 0, 0), hr, hlen, ⟨k1, by rw [lexis_Tokens.f, p1, Option.bind_some, if_pos h0]⟩, ⟨k2, by rw [keystoneref12_Tokens.f, p2, Option.bind_some, if_pos h0]⟩⟩
  · exact ⟨([], r.2.1, r.2.2), by simp, by simp, ⟨k1, by rw [lexis_Tokens.f, p1, Option.bind_some, if_neg h0]⟩, ⟨k2, by rw [keystoneref12_Tokens.f, p2, Option.bind_some, if_neg h0]⟩⟩
end Go.Proofs.YtmloklmcoedciaaDoor.Pure.Tok
