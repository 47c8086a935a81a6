/- The plain part of the laws over Tokens, third text: what stands between quotes, and signs: the program reads what the document reads. Condition: a text of at most 65536 bytes, where it is said. -/
import Derived.Test.YtmloklmcoedciaaDoorPureTok2
namespace Go.Proofs.YtmloklmcoedciaaDoor.Pure.Tok
open Go.RowKit Go.Proofs.YtmloklmcoedciaaDoor.KA Go.Proofs.YtmloklmcoedciaaDoorW.PrintWords Go.Proofs.YtmloklmcoedciaaDoorW.PrintLast
set_option linter.unusedVariables false

theorem wsucc (i : Nat) (h : i ≤ 140737488351232) : wrap64 ((i : Int) + 1) = ((i + 1 : Nat) : Int) := by rw [w64 _ (by omega) (by omega)]; omega
/-- What the program's reader of quoted bytes tells: the bytes and the place behind them. -/
def QGood (s : ByteArray) (x b : Int) (f1 : ByteArray) (i : Nat) (l : List Int) : Prop :=
  ∃ (bs : ByteArray) (e : Nat), i < e ∧ e ≤ s.size ∧ (∀ f0 f2 f3 f4 f5 f6, ∃ k, lexis_reader_quoted.l0 k l (i : Int) s x f0 f1 f2 f3 f4 f5 f6 b = some (3, f1, 3, 0, false, bs, ⟨0, 0⟩, b, 0, 0, s, (e : Int))) ∧
    ∃ k, keystoneref12_quoted.l0 k s (i : Int) b l = some (bs, (e : Int), 0)
def QBad (s : ByteArray) (x b : Int) (f1 : ByteArray) (i : Nat) (l : List Int) : Prop :=
  ∃ (pl er xe : Int), er ≠ 0 ∧ (∀ f0 f2 f3 f4 f5 f6, ∃ k, lexis_reader_quoted.l0 k l (i : Int) s x f0 f1 f2 f3 f4 f5 f6 b = some (0, ⟨#[]⟩, 0, 0, false, ⟨#[]⟩, ⟨0, 0⟩, 0, pl, er, s, xe)) ∧
    ∃ k, keystoneref12_quoted.l0 k s (i : Int) b l = some (⟨#[]⟩, pl, er)
theorem quoted_both (s : ByteArray) (hs : s.size ≤ 65536) (x b : Int) (f1 : ByteArray) : ∀ (n i : Nat) (l : List Int), s.size - i ≤ n → i ≤ s.size → l.length ≤ i → QGood s x b f1 i l ∨ QBad s x b f1 i l
  | n, i, l, hn, hi, hl => by
    by_cases hlt : i < s.size
    · have c0 : ¬ (i : Int) ≥ (s.size : Int) := by omega
      have c1 : (0 : Int) ≤ (i : Int) := Int.natCast_nonneg _
      have c2 : (i : Int) < (s.size : Int) := by omega
      have c3 : l.length < 140737488355328 := by omega
      have cw := wsucc i (by omega)
      have hr := bt_range s (i : Int)
      have hb := byte_in s x i hlt
      generalize hc : bt s (i : Int) = c at hr hb
      by_cases h34 : c = 34
      · by_cases hlong : (l.length : Int) > 4096
        · refine .inr ⟨b, 3, ((i + 1 : Nat) : Int), by decide, fun _ _ _ _ _ _ => ⟨0 + 1, ?_⟩, ⟨0 + 1, ?_⟩⟩
          · rw [lexis_reader_quoted.l0.eq_2, hb, Option.bind_some, if_pos h34, if_pos hlong, cw]
          · rw [keystoneref12_quoted.l0.eq_2, if_neg c0, if_pos c1, if_pos c2, hc, if_pos h34, if_pos hlong]
        · refine .inl ⟨strOfNums l, i + 1, by omega, by omega, fun _ _ _ _ _ _ => ⟨0 + 1, ?_⟩, ⟨0 + 1, ?_⟩⟩
          · rw [lexis_reader_quoted.l0.eq_2, hb, Option.bind_some, if_pos h34, if_neg hlong, cw]
          · rw [keystoneref12_quoted.l0.eq_2, if_neg c0, if_pos c1, if_pos c2, hc, if_pos h34, if_neg hlong, cw]
      · -- the document's way past its first tests
        have E : ∀ k, keystoneref12_quoted.l0 (k + 1) s (i : Int) b l = keystoneref12_quoted.j1 k s (i : Int) b l c (if c < 32 then true else decide (c > 126)) := fun k => by
          rw [keystoneref12_quoted.l0.eq_2, if_neg c0, if_pos c1, if_pos c2, hc, if_neg h34]
          by_cases h32 : c < 32
          · rw [if_pos h32, if_pos h32]
          · rw [if_neg h32, if_neg h32]
        by_cases h92 : c = 92
        · subst h92
          have E2 : ∀ k, keystoneref12_quoted.l0 (k + 1 + 1) s (i : Int) b l = if ((i + 1 : Nat) : Int) ≥ (s.size : Int) then (some ((⟨#[]⟩ : ByteArray), (s.size : Int), (123 : Int))) else (if 0 ≤ ((i + 1 : Nat) : Int) then (if ((i + 1 : Nat) : Int) < (s.size : Int) then (if (bt s ((i + 1 : Nat) : Int)) = 34 then (keystoneref12_quoted.j2 k s ((i + 1 : Nat) : Int) b l (bt s ((i + 1 : Nat) : Int)) ((bt s ((i + 1 : Nat) : Int)) == 34)) else (keystoneref12_quoted.j2 k s ((i + 1 : Nat) : Int) b l (bt s ((i + 1 : Nat) : Int)) ((bt s ((i + 1 : Nat) : Int)) == 92))) else (none)) else (none)) := fun k => by
            rw [E, keystoneref12_quoted.j1.eq_2, if_neg (by decide), if_pos rfl, cw]
          have P2 : ∀ k f0 f2 f3 f4 f5 f6, lexis_reader_quoted.l0 (k + 1) l (i : Int) s x f0 f1 f2 f3 f4 f5 f6 b = (lexis_reader_escape.f k s x ((i + 1 : Nat) : Int)).bind fun bt130 => (if bt130.2.2.1 = true then (if l.length < 140737488355328 then (lexis_reader_quoted.l0 k (l ++ [bt130.1]) bt130.2.1 bt130.2.2.2.1 bt130.2.2.2.2 f0 f1 f2 f3 f4 f5 f6 b) else (none)) else (some (0, (⟨#[]⟩ : ByteArray), 0, 0, false, (⟨#[]⟩ : ByteArray), (⟨0, 0⟩ : CPt), 0, bt130.2.1, 123, bt130.2.2.2.1, bt130.2.2.2.2))) := fun k f0 f2 f3 f4 f5 f6 => by
            rw [lexis_reader_quoted.l0.eq_2, hb, Option.bind_some, if_neg (show ¬ ((92 : Int) = 34) by decide), if_pos rfl, cw]
          rcases escape_both s hs x b l (i + 1) (by omega) (by omega) with ⟨c, e, he1, he2, ⟨k1, p1⟩, r1⟩ | ⟨pl, ⟨k1, p1⟩, k2, p2⟩
          · have ih : QGood s x b f1 e (l ++ [c]) ∨ QBad s x b f1 e (l ++ [c]) := match n, hn with
              | 0, hn => absurd hn (by omega)
              | n + 1, hn => quoted_both s hs x b f1 n e (l ++ [c]) (by omega) he2 (by rw [List.length_append]; simp only [List.length_cons, List.length_nil]; omega)
            rcases ih with ⟨bs, e', q1, q2, q3, q4⟩ | ⟨pl, er, xe, q1, q2, q3⟩
            · refine .inl ⟨bs, e', by omega, q2, fun f0 f2 f3 f4 f5 f6 => ?_, ?_⟩
              · obtain ⟨k3, p3⟩ := q3 f0 f2 f3 f4 f5 f6
                refine ⟨k1 + k3 + 1, ?_⟩
                rw [P2, up_le (fun k => lexis_reader_escape.mono s x ((i + 1 : Nat) : Int) k) p1 k3, Option.bind_some, if_pos rfl, if_pos c3]
                rw [Nat.add_comm]
                exact up_le (f := fun k => lexis_reader_quoted.l0 k (l ++ [c]) (e : Int) s x f0 f1 f2 f3 f4 f5 f6 b) (fun k => lexis_reader_quoted.mono_l k _ _ _ _ _ _ _ _ _ _ _ _) p3 k1
              · obtain ⟨k4, p4⟩ := r1 _ q4
                exact ⟨k4 + 1 + 1, by rw [E2]; exact p4⟩
            · refine .inr ⟨pl, er, xe, q1, fun f0 f2 f3 f4 f5 f6 => ?_, ?_⟩
              · obtain ⟨k3, p3⟩ := q2 f0 f2 f3 f4 f5 f6
                refine ⟨k1 + k3 + 1, ?_⟩
                rw [P2, up_le (fun k => lexis_reader_escape.mono s x ((i + 1 : Nat) : Int) k) p1 k3, Option.bind_some, if_pos rfl, if_pos c3]
                rw [Nat.add_comm]
                exact up_le (f := fun k => lexis_reader_quoted.l0 k (l ++ [c]) (e : Int) s x f0 f1 f2 f3 f4 f5 f6 b) (fun k => lexis_reader_quoted.mono_l k _ _ _ _ _ _ _ _ _ _ _ _) p3 k1
              · obtain ⟨k4, p4⟩ := r1 _ q3
                exact ⟨k4 + 1 + 1, by rw [E2]; exact p4⟩
          · refine .inr ⟨pl, 123, x, by decide, fun f0 f2 f3 f4 f5 f6 => ⟨k1 + 1, ?_⟩, ⟨k2 + 1 + 1, ?_⟩⟩
            · rw [P2, p1, Option.bind_some, if_neg (show ¬ (false = true) by decide)]
            · rw [E2]
              exact p2
        · by_cases hp : 32 ≤ c ∧ c ≤ 126
          · have hm : c % 256 = c := by omega
            have ih : QGood s x b f1 (i + 1) (l ++ [c]) ∨ QBad s x b f1 (i + 1) (l ++ [c]) := match n, hn with
              | 0, hn => absurd hn (by omega)
              | n + 1, hn => quoted_both s hs x b f1 n (i + 1) (l ++ [c]) (by omega) (by omega) (by rw [List.length_append]; simp only [List.length_cons, List.length_nil]; omega)
            have P2 : ∀ k f0 f2 f3 f4 f5 f6, lexis_reader_quoted.l0 (k + 1) l (i : Int) s x f0 f1 f2 f3 f4 f5 f6 b = lexis_reader_quoted.l0 k (l ++ [c]) ((i + 1 : Nat) : Int) s x f0 f1 f2 f3 f4 f5 f6 b := fun k f0 f2 f3 f4 f5 f6 => by
              rw [lexis_reader_quoted.l0.eq_2, hb, Option.bind_some, if_neg h34, if_neg h92, if_pos (show c ≥ 32 from hp.1), if_pos hp.2, if_pos c3, hm, cw]
            have E2 : ∀ k, keystoneref12_quoted.l0 (k + 1 + 1) s (i : Int) b l = keystoneref12_quoted.l0 k s ((i + 1 : Nat) : Int) b (l ++ [c]) := fun k => by
              rw [E, if_neg (by omega), decide_eq_false (show ¬ c > 126 by omega), keystoneref12_quoted.j1.eq_2, if_neg (by decide), if_neg h92, if_pos c3, cw]
            rcases ih with ⟨bs, e', q1, q2, q3, k4, p4⟩ | ⟨pl, er, xe, q1, q2, k4, p4⟩
            · refine .inl ⟨bs, e', by omega, q2, fun f0 f2 f3 f4 f5 f6 => ?_, k4 + 1 + 1, by rw [E2]; exact p4⟩
              obtain ⟨k3, p3⟩ := q3 f0 f2 f3 f4 f5 f6
              exact ⟨k3 + 1, by rw [P2]; exact p3⟩
            · refine .inr ⟨pl, er, xe, q1, fun f0 f2 f3 f4 f5 f6 => ?_, k4 + 1 + 1, by rw [E2]; exact p4⟩
              obtain ⟨k3, p3⟩ := q2 f0 f2 f3 f4 f5 f6
              exact ⟨k3 + 1, by rw [P2]; exact p3⟩
          · refine .inr ⟨(i : Int), 123, x, by decide, fun f0 f2 f3 f4 f5 f6 => ⟨0 + 1, ?_⟩, ⟨0 + 1 + 1, ?_⟩⟩
            · rw [lexis_reader_quoted.l0.eq_2, hb, Option.bind_some, if_neg h34, if_neg h92]
              by_cases h32 : c ≥ 32
              · rw [if_pos h32, if_neg (show ¬ c ≤ 126 by omega), mn_lo (i : Int) (s.size : Int) (by omega)]
              · rw [if_neg h32, mn_lo (i : Int) (s.size : Int) (by omega)]
            · rw [E]
              by_cases h32 : c < 32
              · rw [if_pos h32, keystoneref12_quoted.j1.eq_2, if_pos rfl]
              · rw [if_neg h32, decide_eq_true (show c > 126 by omega), keystoneref12_quoted.j1.eq_2, if_pos rfl]
    · have he : i = s.size := by omega
      subst he
      refine .inr ⟨(s.size : Int), 123, x, by decide, fun _ _ _ _ _ _ => ⟨0 + 1, ?_⟩, ⟨0 + 1, ?_⟩⟩
      · rw [lexis_reader_quoted.l0.eq_2, byte_out s x _ (Nat.le_refl _), Option.bind_some, if_neg (show ¬ ((0 : Int) = 34) by decide), if_neg (show ¬ ((0 : Int) = 92) by decide), if_neg (show ¬ ((0 : Int) ≥ 32) by decide), mn_lo (s.size : Int) (s.size : Int) (by omega)]
      · rw [keystoneref12_quoted.l0.eq_2, if_pos (by omega)]
end Go.Proofs.YtmloklmcoedciaaDoor.Pure.Tok
