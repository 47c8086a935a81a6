/- The plain part of LexisLoses: what the walk computes is always true. Condition: none beyond the arguments' own ranges. -/
import Derived.Test.YtmloklmcoedciaaDoorKBx12
import Derived.Test.YtmloklmcoedciaaDoorPureSp5
namespace Go.Proofs.YtmloklmcoedciaaDoor.Pure.Sp
open Go.RowKit Go.Proofs.YtmloklmcoedciaaDoor.KB Go.Proofs.YtmloklmcoedciaaDoorW.PrintWords Go.Proofs.YtmloklmcoedciaaDoorW.PrintLast
set_option linter.unusedVariables false

set_option maxRecDepth 100000 in
theorem begun100 : keystonelaw12_begun.f 100 = some true := by decide +kernel
theorem begun_true : ∀ d, keystonelaw12_begun.f (100 + d) = some true
  | 0 => begun100
  | d + 1 => keystonelaw12_begun.mono (100 + d) true (begun_true d)
theorem rd_at (l : List S35) (i : Nat) (h : i < l.length) : rd_T35 l (i : Int) = l[i] := by
  unfold rd_T35
  simp [h]

/-! ### a piece of a text -/
theorem esc_in {s : ByteArray} {i e : Nat} {c : Int} (h : Esc s i c e) (a b : Nat) (ha : a ≤ i) (he : e ≤ b) (hb : b ≤ s.size) : Esc (s.extract a b) (i - a) c (e - a) := by
  have hz := ext_size s a b hb
  have hbt : ∀ j, i ≤ j → j < b → bt (s.extract a b) ((j - a : Nat) : Int) = bt s (j : Int) := fun j h1 h2 => by
    have := ext_at s a b (j - a) hb (by omega)
    rwa [show a + (j - a) = j by omega] at this
  cases h with
  | self h1 h2 h3 =>
    have r := Esc.self (s := s.extract a b) (i := i - a) (c := c) (by omega) (by rw [hbt i (by omega) (by omega)]; exact h2) h3
    rwa [show i - a + 1 = i + 1 - a by omega] at r
  | nl h1 h2 =>
    have r := Esc.nl (s := s.extract a b) (i := i - a) (by omega) (by rw [hbt i (by omega) (by omega)]; exact h2)
    rwa [show i - a + 1 = i + 1 - a by omega] at r
  | tab h1 h2 =>
    have r := Esc.tab (s := s.extract a b) (i := i - a) (by omega) (by rw [hbt i (by omega) (by omega)]; exact h2)
    rwa [show i - a + 1 = i + 1 - a by omega] at r
  | hex v1 v2 h1 h2 h3 h4 =>
    have r := Esc.hex (s := s.extract a b) (i := i - a) v1 v2 (by omega) (by rw [hbt i (by omega) (by omega)]; exact h2)
      (by rw [show i - a + 1 = i + 1 - a by omega, hbt (i + 1) (by omega) (by omega)]; exact h3) (by rw [show i - a + 2 = i + 2 - a by omega, hbt (i + 2) (by omega) (by omega)]; exact h4)
    rwa [show i - a + 3 = i + 3 - a by omega] at r
theorem rd_in {s : ByteArray} {i e : Nat} {bs : List Int} (h : Rd s i bs e) (a b : Nat) (hb : b ≤ s.size) : a ≤ i → e ≤ b → Rd (s.extract a b) (i - a) bs (e - a) := by
  have hz := ext_size s a b hb
  have hbt : ∀ j, a ≤ j → j < b → bt (s.extract a b) ((j - a : Nat) : Int) = bt s (j : Int) := fun j h1 h2 => by
    have := ext_at s a b (j - a) hb (by omega)
    rwa [show a + (j - a) = j by omega] at this
  induction h with
  | fin i h1 h2 =>
    intro ha he
    have r := Rd.fin (s := s.extract a b) (i - a) (by omega) (by rw [hbt i ha (by omega)]; exact h2)
    rwa [show i - a + 1 = i + 1 - a by omega] at r
  | plain i c bs e h1 h2 h3 h4 h5 h6 h7 ih =>
    intro ha he
    have hbd := rd_bd h7
    have r := ih (by omega) he
    rw [show i + 1 - a = i - a + 1 by omega] at r
    exact .plain (i - a) c bs _ (by omega) (by rw [hbt i ha (by omega)]; exact h2) h3 h4 h5 h6 r
  | esc i e1 c bs e h1 h2 h3 h4 ih =>
    intro ha he
    have hbd := rd_bd h4
    have hbe := esc_bd h3
    have r := ih (by omega) he
    have x := esc_in h3 a b (by omega) (by omega) hb
    rw [show i + 1 - a = i - a + 1 by omega] at x
    exact .esc (i - a) (e1 - a) c bs _ (by omega) (by rw [hbt i ha (by omega)]; exact h2) x r
theorem esc_out {s : ByteArray} {a b : Nat} (hb : b ≤ s.size) {i e : Nat} {c : Int} (h : Esc (s.extract a b) i c e) : Esc s (a + i) c (a + e) := by
  have hz := ext_size s a b hb
  cases h with
  | self h1 h2 h3 => exact .self (by omega) (by rw [← ext_at s a b i hb (by omega)]; exact h2) h3
  | nl h1 h2 => exact .nl (by omega) (by rw [← ext_at s a b i hb (by omega)]; exact h2)
  | tab h1 h2 => exact .tab (by omega) (by rw [← ext_at s a b i hb (by omega)]; exact h2)
  | hex v1 v2 h1 h2 h3 h4 =>
    exact .hex v1 v2 (by omega) (by rw [← ext_at s a b i hb (by omega)]; exact h2) (by rw [show a + i + 1 = a + (i + 1) by omega, ← ext_at s a b (i + 1) hb (by omega)]; exact h3) (by rw [show a + i + 2 = a + (i + 2) by omega, ← ext_at s a b (i + 2) hb (by omega)]; exact h4)
theorem rd_out {s : ByteArray} {a b : Nat} (hb : b ≤ s.size) {i e : Nat} {bs : List Int} (h : Rd (s.extract a b) i bs e) : Rd s (a + i) bs (a + e) := by
  have hz := ext_size s a b hb
  induction h with
  | fin i h1 h2 => exact .fin (a + i) (by omega) (by rw [← ext_at s a b i hb (by omega)]; exact h2)
  | plain i c bs e h1 h2 h3 h4 h5 h6 h7 ih => exact .plain (a + i) c bs _ (by omega) (by rw [← ext_at s a b i hb (by omega)]; exact h2) h3 h4 h5 h6 ih
  | esc i e1 c bs e h1 h2 h3 h4 ih => exact .esc (a + i) (a + e1) c bs _ (by omega) (by rw [← ext_at s a b i hb (by omega)]; exact h2) (esc_out hb h3) ih
theorem esc_uniq {s : ByteArray} {i e e' : Nat} {c c' : Int} (h : Esc s i c e) (h' : Esc s i c' e') : e = e' := by
  cases h <;> cases h' <;> omega
theorem rd_uniq {s : ByteArray} {i e : Nat} {bs : List Int} (h : Rd s i bs e) : ∀ (e' : Nat) (bs' : List Int), Rd s i bs' e' → e = e' := by
  induction h with
  | fin i h1 h2 =>
    intro e' bs' h'
    cases h' with
    | fin i g1 g2 => rfl
    | plain i c bs e g1 g2 g3 g4 g5 g6 g7 => omega
    | esc i e1 c bs e g1 g2 g3 g4 => omega
  | plain i c bs e h1 h2 h3 h4 h5 h6 h7 ih =>
    intro e' bs' h'
    cases h' with
    | fin i g1 g2 => omega
    | plain i c bs e g1 g2 g3 g4 g5 g6 g7 => exact ih _ _ g7
    | esc i e1 c bs e g1 g2 g3 g4 => omega
  | esc i e1 c bs e h1 h2 h3 h4 ih =>
    intro e' bs' h'
    cases h' with
    | fin i g1 g2 => omega
    | plain i c bs e g1 g2 g3 g4 g5 g6 g7 => omega
    | esc i e2 c bs e g1 g2 g3 g4 =>
      have := esc_uniq h3 g3
      subst this
      exact ih _ _ g4
theorem ext_of_ext (s : ByteArray) (a b c : Nat) (hb : b ≤ s.size) (hc : a + c ≤ b) : (s.extract a b).extract 0 c = s.extract a (a + c) := by
  rw [ByteArray.extract_extract]
  congr 1
  omega
/-- A token, cut out of its text, is that token. -/
theorem tok_alone {s : ByteArray} {p e : Nat} {t : S35} (h : TokAt s p t e) : TokAt (s.extract p e) 0 (put t 0) (e - p) := by
  have hbd := tok_bd h
  have hz := ext_size s p e hbd.2
  have hbt : ∀ j, p + j < e → bt (s.extract p e) (j : Int) = bt s ((p + j : Nat) : Int) := fun j hj => ext_at s p e j hbd.2 hj
  have b0 : bt (s.extract p e) ((0 : Nat) : Int) = bt s (p : Int) := hbt 0 (by omega)
  have hx : (s.extract p e).extract 0 (e - p) = s.extract p e := by rw [ext_of_ext s p e (e - p) hbd.2 (by omega), show p + (e - p) = e by omega]
  cases h with
  | name h1 h2 h3 h4 h5 =>
    have r := TokAt.name (s := s.extract p e) (i := 0) (e := e - p) (by omega) (by rw [b0]; exact h2)
      ⟨by omega, by omega, fun j _ hj => by rw [hbt j (by omega)]; exact h3.2.2.1 (p + j) (by omega) (by omega), .inl (by omega)⟩ (by omega) (by omega)
    rw [hx] at r
    exact r
  | int h1 h2 h3 h4 h5 =>
    have hseg : seg (s.extract p e) 0 (e - p) = seg s p e := by
      rw [← extract_seg, ← extract_seg, hx]
    have r := TokAt.int (s := s.extract p e) (i := 0) (e := e - p) (by omega)
      ⟨by omega, by omega, fun j _ hj => by rw [hbt j (by omega)]; exact h2.2.2.1 (p + j) (by omega) (by omega), .inl (by omega)⟩ (by rw [hseg]; exact h3)
      (by rw [b0]; rintro ⟨g1, g2⟩; exact h4 ⟨g1, by omega⟩) (by rintro ⟨g, _⟩; omega)
    rw [hseg] at r
    exact r
  | text bs h1 h2 h3 h4 =>
    have hr := rd_in h3 p e hbd.2 (by omega) (Nat.le_refl _)
    rw [show p + 1 - p = 0 + 1 by omega] at hr
    exact TokAt.text (s := s.extract p e) (i := 0) (e := e - p) bs (by omega) (by rw [b0]; exact h2) hr h4
  | sign h1 h2 h3 h4 h5 =>
    have hs : sgn (s.extract p (p + sgn s p)) 0 = sgn s p := by
      rcases sgn_cases s p h5 with ⟨g0, g1, g2⟩ | ⟨g0, g⟩
      · rw [g0] at hz hx ⊢
        refine sgn_two _ 0 ⟨by omega, ?_⟩
        rw [show p + 2 - p = 0 + 2 by omega] at hx
        rw [hx]
        exact g2
      · rw [g0] at hz b0 ⊢
        exact sgn_one _ 0 (by rintro ⟨x, _⟩; omega) (by rw [b0]; exact g)
    have r := TokAt.sign (s := s.extract p (p + sgn s p)) (i := 0) (by omega) (by rw [b0]; exact h2) (by rw [b0]; exact h3) (by rw [b0]; exact h4) (by rw [hs]; exact h5)
    rw [hs, show 0 + sgn s p = p + sgn s p - p by omega, hx] at r
    exact r
theorem alone_tokens {s : ByteArray} {p e : Nat} {t : S35} (hs : s.size ≤ 65536) (h : TokAt s p t e) : ∃ k, lexis_Tokens.f k (s.extract p e) = some ([put t 0], 0, 0) := by
  have hbd := tok_bd h
  have hz := ext_size s p e hbd.2
  have ht := tok_alone h
  refine Tokens_of _ (by omega) _ ?_
  rw [tok_head ht]
  refine .cons 0 _ _ _ ht (.nil _ ?_)
  rw [Lx.skipP_end _ _ (by omega)]
  omega
theorem dec_more (l : List UInt8) (hl : l ≠ []) (a : Nat) (ha : 1 ≤ a) : a < dec a l := by
  cases l with
  | nil => exact absurd rfl hl
  | cons c r =>
    have := dec_ge r (a * 10 + (c.toNat - 48))
    show a < dec (a * 10 + (c.toNat - 48)) r
    omega
/-- No shorter piece is that token. -/
theorem alone_less {s : ByteArray} {p e k : Nat} {t u : S35} (hk : p + k < e) (h : TokAt s p t e) {e2 : Nat} (h2 : TokAt (s.extract p (p + k)) 0 u e2) (hf0 : u.f0 = t.f0) (hf1 : u.f1.toList = t.f1.toList) (hv : u.f2.f1 = t.f2.f1) : False := by
  have hbd := tok_bd h
  have hz := ext_size s p (p + k) (by omega)
  have hbd2 := tok_bd h2
  have hsz : ∀ x y : ByteArray, x.toList = y.toList → x.size = y.size := fun x y hxy => by
    rw [ByteArray.toList_eq, ByteArray.toList_eq] at hxy
    have := congrArg List.length hxy
    rwa [data_size, data_size] at this
  have piece : ∀ (e' : Nat), e' ≤ s.size → p ≤ e' → (s.extract p e').size = e' - p := fun e' h1 h2 => ext_size s p e' h1
  have piece2 : ((s.extract p (p + k)).extract 0 e2).size = e2 := by rw [ext_size _ 0 e2 (by omega)]; omega
  cases h with
  | name g1 g2 g3 g4 g5 =>
    have a := hsz _ _ hf1
    cases h2 with
    | name q1 q2 q3 q4 q5 =>
      have b : ((s.extract p (p + k)).extract 0 e2).size = (s.extract p e).size := a
      rw [piece2, piece e hbd.2 (by omega)] at b
      omega
    | int q1 q2 q3 q4 q5 => exact absurd hf0 (by show ¬ ((2 : Int) = 1); decide)
    | text bs q1 q2 q3 q4 => exact absurd hf0 (by show ¬ ((3 : Int) = 1); decide)
    | sign q1 q2 q3 q4 q5 => exact absurd hf0 (by show ¬ ((4 : Int) = 1); decide)
  | int g1 g2 g3 g4 g5 =>
    cases h2 with
    | name q1 q2 q3 q4 q5 => exact absurd hf0 (by show ¬ ((1 : Int) = 2); decide)
    | int q1 q2 q3 q4 q5 =>
      have b : ((dec 0 (seg (s.extract p (p + k)) 0 e2) : Nat) : Int) = ((dec 0 (seg s p e) : Nat) : Int) := hv
      have hs1 : seg (s.extract p (p + k)) 0 e2 = seg s p (p + e2) := by
        rw [← extract_seg, ← extract_seg, ext_of_ext s p (p + k) e2 (by omega) (by omega)]
      have hs2 : seg s p e = seg s p (p + e2) ++ seg s (p + e2) e := by
        unfold seg
        rw [show e - p = e2 + (e - (p + e2)) by omega, show p + e2 - p = e2 by omega, List.take_add, List.drop_drop]
      rw [hs1, hs2, dec_append] at b
      have hne : seg s (p + e2) e ≠ [] := by rw [seg_cons s (p + e2) e (by omega) (by omega)]; exact List.cons_ne_nil _ _
      have hone : 1 ≤ dec 0 (seg s p (p + e2)) := by
        rw [seg_cons s p (p + e2) (by omega) (by omega)]
        have hd := g2.2.2.1 p (Nat.le_refl _) (by omega)
        have hn : bt s (p : Int) ≠ 48 := fun h48 => g4 ⟨h48, by omega⟩
        rw [Lx.bt_nat s p (by omega)] at hd hn
        unfold digP at hd
        have := dec_ge (seg s (p + 1) (p + e2)) (0 * 10 + ((s[p]'(by omega)).toNat - 48))
        show 1 ≤ dec (0 * 10 + ((s[p]'(by omega)).toNat - 48)) (seg s (p + 1) (p + e2))
        omega
      have := dec_more _ hne _ hone
      omega
    | text bs q1 q2 q3 q4 => exact absurd hf0 (by show ¬ ((3 : Int) = 2); decide)
    | sign q1 q2 q3 q4 q5 => exact absurd hf0 (by show ¬ ((4 : Int) = 2); decide)
  | text bs g1 g2 g3 g4 =>
    cases h2 with
    | name q1 q2 q3 q4 q5 => exact absurd hf0 (by show ¬ ((1 : Int) = 3); decide)
    | int q1 q2 q3 q4 q5 => exact absurd hf0 (by show ¬ ((2 : Int) = 3); decide)
    | text bs2 q1 q2 q3 q4 =>
      have r := rd_out (s := s) (a := p) (b := p + k) (by omega) q3
      rw [show p + (0 + 1) = p + 1 by omega] at r
      have := rd_uniq g3 _ _ r
      omega
    | sign q1 q2 q3 q4 q5 => exact absurd hf0 (by show ¬ ((4 : Int) = 3); decide)
  | sign g1 g2 g3 g4 g5 =>
    have a := hsz _ _ hf1
    cases h2 with
    | name q1 q2 q3 q4 q5 => exact absurd hf0 (by show ¬ ((1 : Int) = 4); decide)
    | int q1 q2 q3 q4 q5 => exact absurd hf0 (by show ¬ ((2 : Int) = 4); decide)
    | text bs q1 q2 q3 q4 => exact absurd hf0 (by show ¬ ((3 : Int) = 4); decide)
    | sign q1 q2 q3 q4 q5 =>
      have b : ((s.extract p (p + k)).extract 0 (0 + sgn (s.extract p (p + k)) 0)).size = (s.extract p (p + sgn s p)).size := a
      rw [piece2, piece (p + sgn s p) hbd.2 (by omega)] at b
      omega

/-! ### what says nothing -/
theorem skip_in (s : ByteArray) (a b : Nat) (hb : b ≤ s.size) : ∀ (n i : Nat) (m : Bool), i + n = b → a ≤ i → Lx.skipN s m (s.size - i) i = b → Lx.skipN (s.extract a b) m n (i - a) = b - a
  | 0, i, m, h, ha, hs => by
    cases m <;> simp only [Lx.skipN] <;> omega
  | n + 1, i, m, h, ha, hs => by
    have hi : i < s.size := by omega
    have e : bt (s.extract a b) ((i - a : Nat) : Int) = bt s (i : Int) := by
      have := ext_at s a b (i - a) hb (by omega)
      rwa [show a + (i - a) = i by omega] at this
    have IH := fun m => skip_in s a b hb n (i + 1) m (by omega) (by omega)
    rw [show i + 1 - a = i - a + 1 by omega] at IH
    rw [Lx.left_succ hi] at hs
    cases m with
    | false =>
      simp only [Lx.skipN] at hs ⊢
      rw [e]
      by_cases h1 : bt s (i : Int) = 32 ∨ bt s (i : Int) = 9 ∨ bt s (i : Int) = 10 ∨ bt s (i : Int) = 13
      · rw [if_pos h1] at hs ⊢
        exact IH false hs
      · rw [if_neg h1] at hs ⊢
        by_cases h2 : bt s (i : Int) = 35
        · rw [if_pos h2] at hs ⊢
          exact IH true hs
        · rw [if_neg h2] at hs
          omega
    | true =>
      simp only [Lx.skipN] at hs ⊢
      rw [e]
      by_cases h1 : bt s (i : Int) = 10
      · rw [if_pos h1] at hs ⊢
        exact IH false hs
      · rw [if_neg h1] at hs ⊢
        exact IH true hs
theorem blanks_both (z : ByteArray) (hz : z.size ≤ 140737488351232) : ∀ (n i : Nat), i + n = z.size →
    (Lx.skipN z false n i = z.size → ∃ k, keystonelaw12_blanks.l0 k z (i : Int) = some true) ∧ (Lx.skipN z true n i = z.size → ∃ k, keystonelaw12_blanks.l1 k z (i : Int) = some true)
  | 0, i, h => by
    have e : ∀ j : Nat, z.size ≤ j → keystonelaw12_blanks.l0 1 z (j : Int) = some true := fun j hj => by rw [keystonelaw12_blanks.l0.eq_2, if_neg (by omega)]
    refine ⟨fun _ => ⟨1, e i (by omega)⟩, fun _ => ⟨1 + 1, ?_⟩⟩
    rw [keystonelaw12_blanks.l1.eq_2, if_neg (by omega), wsucc i (by omega)]
    exact e (i + 1) (by omega)
  | n + 1, i, h => by
    obtain ⟨ih0, ih1⟩ := blanks_both z hz n (i + 1) (by omega)
    have c0 : (i : Int) < (z.size : Int) := by omega
    have c1 : (0 : Int) ≤ (i : Int) := Int.natCast_nonneg _
    have cw := wsucc i (by omega)
    have P1 : Lx.skipN z true (n + 1) i = z.size → ∃ k, keystonelaw12_blanks.l1 k z (i : Int) = some true := fun hs => by
      simp only [Lx.skipN] at hs
      by_cases h10 : bt z (i : Int) = 10
      · rw [if_pos h10] at hs
        obtain ⟨k, p⟩ := ih0 hs
        exact ⟨k + 1, by rw [keystonelaw12_blanks.l1.eq_2, if_pos c0, if_pos c1, if_pos h10, cw, p]⟩
      · rw [if_neg h10] at hs
        obtain ⟨k, p⟩ := ih1 hs
        exact ⟨k + 1, by rw [keystonelaw12_blanks.l1.eq_2, if_pos c0, if_pos c1, if_neg h10, cw, p]⟩
    refine ⟨fun hs => ?_, P1⟩
    have hs0 := hs
    simp only [Lx.skipN] at hs
    have E : ∀ (c : Int) (v : Bool), bt z (i : Int) = c → ∀ k, keystonelaw12_blanks.l0 (k + 1) z (i : Int) = keystonelaw12_blanks.j1 k z (i : Int) c (decide (c = 32 ∨ c = 9 ∨ c = 10 ∨ c = 13)) := fun c v hc k => by
      rw [keystonelaw12_blanks.l0.eq_2, if_pos c0, if_pos c1, hc]
      by_cases q1 : c = 32
      · simp [q1]
      · by_cases q2 : c = 9
        · simp [q2]
        · by_cases q3 : c = 10
          · simp [q3]
          · rw [if_neg q1, if_neg q2, if_neg q3]
            congr 1
            rw [Bool.eq_iff_iff]
            simp [q1, q2, q3]
    by_cases h1 : bt z (i : Int) = 32 ∨ bt z (i : Int) = 9 ∨ bt z (i : Int) = 10 ∨ bt z (i : Int) = 13
    · rw [if_pos h1] at hs
      obtain ⟨k, p⟩ := ih0 hs
      exact ⟨k + 1 + 1, by rw [E _ true rfl, decide_eq_true h1, keystonelaw12_blanks.j1.eq_2, if_pos rfl, cw, p]⟩
    · rw [if_neg h1] at hs
      by_cases h2 : bt z (i : Int) = 35
      · have ht : Lx.skipN z true (n + 1) i = z.size := by
          rw [if_pos h2] at hs
          simp only [Lx.skipN]
          rw [if_neg (by omega)]
          exact hs
        obtain ⟨k, p⟩ := P1 ht
        exact ⟨k + 1 + 1, by rw [E _ true rfl, decide_eq_false h1, keystonelaw12_blanks.j1.eq_2, if_neg (by decide), if_pos h2, p]⟩
      · rw [if_neg h2] at hs
        omega
theorem blanks_of (s : ByteArray) (hs : s.size ≤ 140737488351232) (a b : Nat) (ha : a ≤ s.size) (h : Lx.skipP s a = b) : ∃ k, keystonelaw12_blanks.f k (s.extract a b) = some true := by
  have hbd := Lx.skipP_bd s a ha
  have hz := ext_size s a b (by omega)
  have hk := skip_in s a b (by omega) (b - a) a false (by omega) (Nat.le_refl _) h
  rw [Nat.sub_self] at hk
  obtain ⟨k, p⟩ := (blanks_both (s.extract a b) (by omega) (b - a) 0 (by omega)).1 (by rw [hk]; omega)
  exact ⟨k, p⟩

/-! ### the law's loops -/
theorem same_value (a0 a1 : Int) (a2 : Bool) (a3 : ByteArray) (a4 : CPt) (b0 b1 : Int) (b2 : Bool) (b3 : ByteArray) (b4 : CPt) : ∃ r, keystoneref04_SameValue.f a0 a1 a2 a3 a4 b0 b1 b2 b3 b4 = some r ∧ (r = true → a1 = b1) := by
  unfold keystoneref04_SameValue.f
  by_cases h0 : a0 = b0
  · by_cases h1 : a1 = b1
    · by_cases h2 : (a2 == b2) = true
      · by_cases h3 : a3.toList = b3.toList
        · exact ⟨_, by rw [if_pos h0, if_pos h1, if_pos h2, if_pos h3], fun _ => h1⟩
        · exact ⟨_, by rw [if_pos h0, if_pos h1, if_pos h2, if_neg h3], fun _ => h1⟩
      · exact ⟨_, by rw [if_pos h0, if_pos h1, if_neg h2], fun _ => h1⟩
    · exact ⟨false, by rw [if_pos h0, if_neg h1], fun h => by cases h⟩
  · exact ⟨false, by rw [if_neg h0], fun h => by cases h⟩
theorem same_value_self (a0 a1 : Int) (a2 : Bool) (a3 : ByteArray) : keystoneref04_SameValue.f a0 a1 a2 a3 ⟨0, 0⟩ a0 a1 a2 a3 ⟨0, 0⟩ = some true := by
  unfold keystoneref04_SameValue.f
  rw [if_pos rfl, if_pos rfl, if_pos (beq_self_eq_true _), if_pos rfl]
  decide
/-- One round of the search for a token's length: the piece of n bytes is the token, a shorter one is not. -/
theorem loses_round (s : ByteArray) (hs : s.size ≤ 65536) (l : List S35) (len i : Int) (p e nx k : Nat) (t : S35) (h : TokAt s p t e) (hnx : e ≤ nx) (hnx2 : nx ≤ s.size) (hk : 1 ≤ k) (hke : p + k ≤ e) :
    ∃ K0, ∀ K, keystonelaw12_LexisLoses.l1 (K0 + K + 1) s l (nx : Int) 0 (k : Int) l len i t.f0 t.f1 t.f2.f0 t.f2.f1 t.f2.f2 t.f2.f3 t.f2.f4 t.f3 = keystonelaw12_LexisLoses.j5 (K0 + K) s l (nx : Int) 0 (k : Int) l len i (decide (p + k = e)) t.f0 t.f1 t.f2.f0 t.f2.f1 t.f2.f2 t.f2.f3 t.f2.f4 t.f3 := by
  have hbd := tok_bd h
  have hpl := tok_plain h
  have hz := ext_size s p (p + k) (by omega)
  have w1 : wrap64 ((nx : Int) - (p : Int)) = (nx : Int) - (p : Int) := w64 _ (by omega) (by omega)
  have w2 : wrap64 ((p : Int) + (k : Int)) = ((p + k : Nat) : Int) := by rw [w64 _ (by omega) (by omega)]; omega
  have G : ∀ K, keystonelaw12_LexisLoses.l1 (K + 1) s l (nx : Int) 0 (k : Int) l len i t.f0 t.f1 t.f2.f0 t.f2.f1 t.f2.f2 t.f2.f3 t.f2.f4 t.f3 = ((lexis_Tokens.f K (s.extract p (p + k))).bind fun bt313 => (if bt313.2.2 = 0 then (if (bt313.1.length : Int) = 1 then (if 0 < (bt313.1.length : Int) then (if ((rd_T35 bt313.1 0).f0) = t.f0 then (if ((rd_T35 bt313.1 0).f1).toList = t.f1.toList then ((keystoneref04_SameValue.f ((rd_T35 bt313.1 0).f2.f0) ((rd_T35 bt313.1 0).f2.f1) ((rd_T35 bt313.1 0).f2.f2) ((rd_T35 bt313.1 0).f2.f3) ((rd_T35 bt313.1 0).f2.f4) t.f2.f0 t.f2.f1 t.f2.f2 t.f2.f3 t.f2.f4).bind fun t321 => (if t321 = true then (keystonelaw12_LexisLoses.j5 K s l (nx : Int) 0 (k : Int) l len i (((rd_T35 bt313.1 0).f3) == 0) t.f0 t.f1 t.f2.f0 t.f2.f1 t.f2.f2 t.f2.f3 t.f2.f4 t.f3) else (keystonelaw12_LexisLoses.j5 K s l (nx : Int) 0 (k : Int) l len i false t.f0 t.f1 t.f2.f0 t.f2.f1 t.f2.f2 t.f2.f3 t.f2.f4 t.f3))) else (keystonelaw12_LexisLoses.j5 K s l (nx : Int) 0 (k : Int) l len i false t.f0 t.f1 t.f2.f0 t.f2.f1 t.f2.f2 t.f2.f3 t.f2.f4 t.f3)) else (keystonelaw12_LexisLoses.j5 K s l (nx : Int) 0 (k : Int) l len i false t.f0 t.f1 t.f2.f0 t.f2.f1 t.f2.f2 t.f2.f3 t.f2.f4 t.f3)) else (none)) else (keystonelaw12_LexisLoses.j5 K s l (nx : Int) 0 (k : Int) l len i false t.f0 t.f1 t.f2.f0 t.f2.f1 t.f2.f2 t.f2.f3 t.f2.f4 t.f3)) else (keystonelaw12_LexisLoses.j5 K s l (nx : Int) 0 (k : Int) l len i false t.f0 t.f1 t.f2.f0 t.f2.f1 t.f2.f2 t.f2.f3 t.f2.f4 t.f3))) := fun K => by
    rw [keystonelaw12_LexisLoses.l1.eq_2, hpl.2.2, w1, w2, if_pos (by omega), if_pos (Int.natCast_nonneg _), if_pos (by omega), if_pos (by omega)]
    simp only [Int.toNat_natCast]
  by_cases hlast : p + k = e
  · obtain ⟨k1, p1⟩ := alone_tokens hs h
    refine ⟨k1, fun K => ?_⟩
    have p2 := up_le (f := fun k => lexis_Tokens.f k (s.extract p e)) (fun k => lexis_Tokens.mono _ k) p1 K
    have hr : rd_T35 [put t 0] 0 = put t 0 := rfl
    rw [G, hlast, p2, Option.bind_some, decide_eq_true rfl]
    simp only [if_true]
    rw [if_pos (by simp), if_pos (by simp), hr]
    show (if t.f0 = t.f0 then (if t.f1.toList = t.f1.toList then (keystoneref04_SameValue.f t.f2.f0 t.f2.f1 t.f2.f2 t.f2.f3 t.f2.f4 t.f2.f0 t.f2.f1 t.f2.f2 t.f2.f3 t.f2.f4).bind _ else _) else _) = _
    rw [if_pos rfl, if_pos rfl, hpl.1, same_value_self, Option.bind_some, if_pos rfl]
    rfl
  · rw [decide_eq_false hlast]
    rcases Tokens_spec (s.extract p (p + k)) (by omega) with ⟨hsz, m, ht⟩ | ⟨pl, er, q1, q2, k1, p1⟩
    · obtain ⟨k1, p1⟩ := Tokens_of _ hsz m ht
      refine ⟨k1, fun K => ?_⟩
      have p3 : lexis_Tokens.f (k1 + K) (s.extract p (p + k)) = some (m, 0, 0) := up_le (f := fun q => lexis_Tokens.f q (s.extract p (p + k))) (fun q => lexis_Tokens.mono _ q) p1 K
      rw [G, p3, Option.bind_some]
      simp only [if_true]
      by_cases hm : (m.length : Int) = 1
      · rw [if_pos hm, if_pos (by omega)]
        match m, hm, ht with
        | [u], _, ht =>
          have hr : rd_T35 [u] 0 = u := rfl
          rw [hr]
          by_cases hf0 : u.f0 = t.f0
          · rw [if_pos hf0]
            by_cases hf1 : u.f1.toList = t.f1.toList
            · rw [if_pos hf1]
              obtain ⟨b, hb1, hb2⟩ := same_value u.f2.f0 u.f2.f1 u.f2.f2 u.f2.f3 u.f2.f4 t.f2.f0 t.f2.f1 t.f2.f2 t.f2.f3 t.f2.f4
              rw [hb1, Option.bind_some]
              by_cases hb : b = true
              · rw [if_pos hb]
                have hf3 : (u.f3 == 0) = false := by
                  rw [beq_eq_false_iff_ne]
                  intro h0
                  cases ht with
                  | cons i e2 t2 l2 g1 g2 =>
                    have g3 := (tok_plain g1).2.2
                    rw [h0] at g3
                    have g4 : Lx.skipP (s.extract p (p + k)) 0 = 0 := by omega
                    rw [g4] at g1
                    exact alone_less (by omega) h g1 hf0 hf1 (hb2 hb)
                rw [hf3]
              · rw [if_neg hb]
            · rw [if_neg hf1]
          · rw [if_neg hf0]
        | [], hm, _ => simp at hm
        | _ :: _ :: _, hm, _ => simp at hm; omega
      · rw [if_neg hm]
    · refine ⟨k1, fun K => ?_⟩
      have p3 : lexis_Tokens.f (k1 + K) (s.extract p (p + k)) = some ([], (pl : Int), er) := up_le (f := fun q => lexis_Tokens.f q (s.extract p (p + k))) (fun q => lexis_Tokens.mono _ q) p1 K
      rw [G, p3, Option.bind_some]
      simp only [if_neg q2]
theorem loses_l1 (s : ByteArray) (hs : s.size ≤ 65536) (l : List S35) (len i : Int) (p e nx : Nat) (t : S35) (h : TokAt s p t e) (hnx : e ≤ nx) (hnx2 : nx ≤ s.size) (r : Bool)
    (hr : ∃ K, keystonelaw12_LexisLoses.j6 K s l ((e - p : Nat) : Int) l len i t.f0 t.f1 t.f2.f0 t.f2.f1 t.f2.f2 t.f2.f3 t.f2.f4 t.f3 = some r) : ∀ (d k : Nat), p + k + d = e → 1 ≤ k →
    ∃ K, keystonelaw12_LexisLoses.l1 K s l (nx : Int) 0 (k : Int) l len i t.f0 t.f1 t.f2.f0 t.f2.f1 t.f2.f2 t.f2.f3 t.f2.f4 t.f3 = some r
  | 0, k, hd, hk => by
    obtain ⟨K0, h0⟩ := loses_round s hs l len i p e nx k t h hnx hnx2 hk (by omega)
    obtain ⟨K1, h1⟩ := hr
    refine ⟨K0 + (K1 + 1) + 1, ?_⟩
    rw [h0, decide_eq_true (show p + k = e by omega), show K0 + (K1 + 1) = (K0 + K1) + 1 by omega, keystonelaw12_LexisLoses.j5.eq_2, if_pos rfl, show k = e - p by omega, Nat.add_comm K0 K1]
    exact up_le (f := fun K => keystonelaw12_LexisLoses.j6 K s l ((e - p : Nat) : Int) l len i t.f0 t.f1 t.f2.f0 t.f2.f1 t.f2.f2 t.f2.f3 t.f2.f4 t.f3) (fun K => (keystonelaw12_LexisLoses.mono_l K).2.2.2.2.1 _ _ _ _ _ _ _ _ _ _ _ _ _ _) h1 K0
  | d + 1, k, hd, hk => by
    have hbd := tok_bd h
    obtain ⟨K0, h0⟩ := loses_round s hs l len i p e nx k t h hnx hnx2 hk (by omega)
    obtain ⟨K1, h1⟩ := loses_l1 s hs l len i p e nx t h hnx hnx2 r hr d (k + 1) (by omega) (by omega)
    refine ⟨K0 + (K1 + 1) + 1, ?_⟩
    rw [h0, decide_eq_false (show ¬ p + k = e by omega), show K0 + (K1 + 1) = (K0 + K1) + 1 by omega, keystonelaw12_LexisLoses.j5.eq_2, if_neg (by decide), wsucc k (by omega), Nat.add_comm K0 K1]
    exact up_le (f := fun K => keystonelaw12_LexisLoses.l1 K s l (nx : Int) 0 ((k + 1 : Nat) : Int) l len i t.f0 t.f1 t.f2.f0 t.f2.f1 t.f2.f2 t.f2.f3 t.f2.f4 t.f3) (fun K => (keystonelaw12_LexisLoses.mono_l K).2.2.2.2.2.1 _ _ _ _ _ _ _ _ _ _ _ _ _ _ _ _) h1 K0
theorem loses_l0 (s : ByteArray) (hs : s.size ≤ 65536) (l : List S35) (hl : l.length ≤ 65536) : ∀ (n i a : Nat), i + n = l.length → a ≤ s.size → Toks s (Lx.skipP s a) (l.drop i) → ∃ K, keystonelaw12_LexisLoses.l0 K s l (a : Int) l (l.length : Int) (i : Int) = some true
  | 0, i, a, h, ha, ht => by
    rw [List.drop_eq_nil_of_le (by omega)] at ht
    have hbd := Lx.skipP_bd s a ha
    cases ht with
    | nil _ hend =>
      obtain ⟨k, p⟩ := blanks_of s (by omega) a s.size ha (by omega)
      refine ⟨k + 1, ?_⟩
      rw [keystonelaw12_LexisLoses.l0.eq_2, if_neg (by omega), if_pos (Int.natCast_nonneg _), if_pos (by omega), Int.toNat_natCast, p, Option.bind_some]
  | n + 1, i, a, h, ha, ht => by
    have hi : i < l.length := by omega
    have hbd := Lx.skipP_bd s a ha
    rw [List.drop_eq_getElem_cons hi] at ht
    generalize htl : l[i] = t at ht
    generalize hp : Lx.skipP s a = p at ht hbd
    cases ht with
    | cons _ e _ _ h1 h2 =>
      have hb := tok_bd h1
      have hpl := tok_plain h1
      have hke := Lx.skipP_bd s e hb.2
      obtain ⟨k1, p1⟩ := blanks_of s (by omega) a p ha hp
      obtain ⟨K2, p2⟩ := loses_l0 s hs l hl n (i + 1) e (by omega) hb.2 h2
      have hrd : rd_T35 l (i : Int) = t := by rw [rd_at l i hi, htl]
      -- behind the token
      have w1 : wrap64 (t.f3 + ((e - p : Nat) : Int)) = (e : Int) := by rw [hpl.2.2, w64 _ (by omega) (by omega)]; omega
      have hr : ∃ K, keystonelaw12_LexisLoses.j6 K s l ((e - p : Nat) : Int) l (l.length : Int) (i : Int) t.f0 t.f1 t.f2.f0 t.f2.f1 t.f2.f2 t.f2.f3 t.f2.f4 t.f3 = some true := by
        refine ⟨K2 + 1, ?_⟩
        rw [keystonelaw12_LexisLoses.j6.eq_2, if_neg (by omega), w1, wsucc i (by omega), p2]
      -- where the next one begins
      have hnext : ∃ nx : Nat, e ≤ nx ∧ nx ≤ s.size ∧ ∀ K, keystonelaw12_LexisLoses.j1 (K + 1) s l (i : Int) l (l.length : Int) (i : Int) false t.f0 t.f1 t.f2.f0 t.f2.f1 t.f2.f2 t.f2.f3 t.f2.f4 t.f3 = keystonelaw12_LexisLoses.j2 K s l (nx : Int) l (l.length : Int) (i : Int) t.f0 t.f1 t.f2.f0 t.f2.f1 t.f2.f2 t.f2.f3 t.f2.f4 t.f3 := by
        by_cases hi2 : i + 1 < l.length
        · rw [List.drop_eq_getElem_cons hi2] at h2
          generalize htl2 : l[i + 1] = t2 at h2
          cases h2 with
          | cons _ e2 _ _ g1 g2 =>
            have gb := tok_bd g1
            refine ⟨Lx.skipP s e, hke.1, hke.2, fun K => ?_⟩
            rw [keystonelaw12_LexisLoses.j1.eq_2, if_neg (by decide), wsucc i (by omega), if_pos (by omega), if_pos (Int.natCast_nonneg _), rd_at l (i + 1) hi2, htl2, (tok_plain g1).2.2]
        · refine ⟨s.size, hb.2, Nat.le_refl _, fun K => ?_⟩
          rw [keystonelaw12_LexisLoses.j1.eq_2, if_neg (by decide), wsucc i (by omega), if_neg (by omega)]
      obtain ⟨nx, n1, n2, n3⟩ := hnext
      obtain ⟨K3, p3⟩ := loses_l1 s hs l (l.length : Int) (i : Int) p e nx t h1 n1 n2 true hr (e - p - 1) 1 (by omega) (Nat.le_refl _)
      refine ⟨k1 + (K3 + 1 + 1 + 1) + 1, ?_⟩
      have p4 := up_le (f := fun k => keystonelaw12_blanks.f k (s.extract a p)) (fun k => keystonelaw12_blanks.mono _ k) p1 (K3 + 1 + 1 + 1)
      rw [keystonelaw12_LexisLoses.l0.eq_2, if_pos (by omega), if_pos (Int.natCast_nonneg _), if_pos (by omega), hrd, hpl.2.2, if_neg (by omega), if_neg (by omega), if_pos (Int.natCast_nonneg _), if_pos (by omega), if_pos (by omega)]
      simp only [Int.toNat_natCast]
      rw [p4, Option.bind_some, show (!true) = false from rfl, show k1 + (K3 + 1 + 1 + 1) = (k1 + K3 + 1 + 1) + 1 by omega]
      have n3' := n3 (k1 + K3 + 1 + 1)
      rw [hpl.2.2] at n3'
      rw [n3', keystonelaw12_LexisLoses.j2.eq_2, if_neg (by omega), decide_eq_false (show ¬ (nx : Int) > (s.size : Int) by omega), keystonelaw12_LexisLoses.j3.eq_2, if_neg (by decide), Nat.add_comm k1 K3]
      rw [hpl.2.2] at p3
      exact up_le (f := fun K => keystonelaw12_LexisLoses.l1 K s l (nx : Int) 0 1 l (l.length : Int) (i : Int) t.f0 t.f1 t.f2.f0 t.f2.f1 t.f2.f2 t.f2.f3 t.f2.f4 (p : Int)) (fun K => (keystonelaw12_LexisLoses.mono_l K).2.2.2.2.2.1 _ _ _ _ _ _ _ _ _ _ _ _ _ _ _ _) p3 k1
theorem LexisLoses : keystonelaw12_LexisLoses.Pure := by
  intro s hs
  rcases Tokens_spec s hs with ⟨hsz, l, ht⟩ | ⟨pl, er, q1, q2, k1, p1⟩
  · have hlen := toks_len ht
    obtain ⟨k1, p1⟩ := Tokens_of s hsz l ht
    obtain ⟨k2, p2⟩ := loses_l0 s hsz l (by omega) l.length 0 0 (by omega) (by omega) ht
    refine ⟨100 + (k1 + k2), ?_⟩
    have e1 := up_le (f := fun k => lexis_Tokens.f k s) (fun k => lexis_Tokens.mono s k) p1 (100 + k2)
    have e2 := up_le (f := fun k => keystonelaw12_LexisLoses.l0 k s l ((0 : Nat) : Int) l (l.length : Int) ((0 : Nat) : Int)) (fun k => (keystonelaw12_LexisLoses.mono_l k).1 _ _ _ _ _ _) p2 (100 + k1)
    rw [show k1 + (100 + k2) = 100 + (k1 + k2) by omega] at e1
    rw [show k2 + (100 + k1) = 100 + (k1 + k2) by omega] at e2
    unfold keystonelaw12_LexisLoses.f
    rw [begun_true, Option.bind_some, if_pos rfl, e1, Option.bind_some]
    simp only [if_true]
    exact e2
  · refine ⟨100 + k1, ?_⟩
    have e1 := up_le (f := fun k => lexis_Tokens.f k s) (fun k => lexis_Tokens.mono s k) p1 100
    rw [Nat.add_comm] at e1
    unfold keystonelaw12_LexisLoses.f
    rw [begun_true, Option.bind_some, if_pos rfl, e1, Option.bind_some]
    simp only [if_neg q2]
    rw [if_pos (by omega), if_pos (by omega)]
    rfl
end Go.Proofs.YtmloklmcoedciaaDoor.Pure.Sp
namespace Go.Proofs.YtmloklmcoedciaaDoor.Pure
theorem LexisLoses : Go.Proofs.YtmloklmcoedciaaDoor.KB.keystonelaw12_LexisLoses.Pure := Sp.LexisLoses
end Go.Proofs.YtmloklmcoedciaaDoor.Pure
