/- The plain part of the laws over the program's own tokens, fifth text: tokens written one by one, a blank behind each, are read as the same tokens. Condition: none beyond a text's size, where it is said. -/
import Derived.Test.YtmloklmcoedciaaDoorPureSp4
namespace Go.Proofs.YtmloklmcoedciaaDoor.Pure.Sp
open Go.RowKit Go.Proofs.YtmloklmcoedciaaDoor.KB Go.Proofs.YtmloklmcoedciaaDoorW.PrintWords Go.Proofs.YtmloklmcoedciaaDoorW.PrintLast
set_option linter.unusedVariables false

/-- 'written' gives w for t. -/
def Wr (t : S35) (w : ByteArray) : Prop := ∃ k, keystonelaw12_written.f k t.f0 t.f1 t.f2.f0 t.f2.f1 t.f2.f2 t.f2.f3 t.f2.f4 t.f3 = some (w, true)
def put (t : S35) (p : Nat) : S35 := ⟨t.f0, t.f1, t.f2, (p : Int)⟩
theorem data_size (w : ByteArray) : w.data.toList.length = w.size := by rw [Array.length_toList]; rfl
theorem seg_get (s : ByteArray) (i e j : Nat) (he : e ≤ s.size) (h : i + j < e) : ∃ b : UInt8, (s.extract i e).data.toList[j]? = some b ∧ bt s ((i + j : Nat) : Int) = (b.toNat : Int) := by
  obtain ⟨b, h1, h2⟩ := get_bt s (i + j) (by omega)
  refine ⟨b, ?_, h2⟩
  rw [ext_list, List.getElem?_take_of_lt (by omega), List.getElem?_drop, h1]
/-- A piece of s and a blank behind it stand in T at p. -/
theorem copy_at (s T : ByteArray) (i e p : Nat) (hie : i ≤ e) (he : e ≤ s.size) (h : At T p ((s.extract i e).data.toList ++ [32])) :
    (∀ j, i + j < e → p + j < T.size ∧ bt T ((p + j : Nat) : Int) = bt s ((i + j : Nat) : Int)) ∧ p + (e - i) < T.size ∧ bt T ((p + (e - i) : Nat) : Int) = 32 ∧ T.extract p (p + (e - i)) = s.extract i e := by
  have hz : (s.extract i e).data.toList.length = e - i := by rw [data_size, ext_size s i e he]
  refine ⟨fun j hj => ?_, ?_, ?_, ?_⟩
  · obtain ⟨b, h1, h2⟩ := seg_get s i e j he hj
    obtain ⟨g1, g2⟩ := at_get (at_left h) j b h1
    exact ⟨g1, by rw [g2, h2]⟩
  · have := at_head (at_app h)
    rw [hz] at this
    exact this.1
  · have := at_head (at_app h)
    rw [hz] at this
    exact this.2
  · have := at_ext (at_left h) (s.extract i e) rfl
    rwa [hz] at this
theorem blank_no : ¬ innP 32 ∧ ¬ digP 32 ∧ ¬ lowP 32 := by decide
theorem sgn_two (s : ByteArray) (i : Nat) (h : i + 1 < s.size ∧ (s.extract i (i + 2)).toList ∈ twos) : sgn s i = 2 := by
  unfold sgn
  rw [if_pos h]
theorem sgn_one (s : ByteArray) (i : Nat) (h : ¬ (i + 1 < s.size ∧ (s.extract i (i + 2)).toList ∈ twos)) (hc : rs.contains (bt s (i : Int)) = true) : sgn s i = 1 := by
  unfold sgn
  rw [if_neg h, if_pos hc]
theorem sgn_cases (s : ByteArray) (i : Nat) (h : sgn s i ≠ 0) : (sgn s i = 2 ∧ i + 1 < s.size ∧ (s.extract i (i + 2)).toList ∈ twos) ∨ (sgn s i = 1 ∧ rs.contains (bt s (i : Int)) = true) := by
  by_cases h1 : i + 1 < s.size ∧ (s.extract i (i + 2)).toList ∈ twos
  · exact .inl ⟨sgn_two s i h1, h1⟩
  · by_cases hc : rs.contains (bt s (i : Int)) = true
    · exact .inr ⟨sgn_one s i h1 hc, hc⟩
    · unfold sgn at h
      rw [if_neg h1, if_neg hc] at h
      exact absurd rfl h
/-- The two bytes of a sign of two. -/
theorem two_bytes (s : ByteArray) (i : Nat) (h1 : i + 1 < s.size) (h : (s.extract i (i + 2)).toList ∈ twos) : (bt s (i : Int) = 61 ∨ bt s (i : Int) = 33 ∨ bt s (i : Int) = 60 ∨ bt s (i : Int) = 38 ∨ bt s (i : Int) = 124) ∧ (bt s ((i + 1 : Nat) : Int) = 61 ∨ bt s ((i + 1 : Nat) : Int) = 38 ∨ bt s ((i + 1 : Nat) : Int) = 124) := by
  have e0 : bt (s.extract i (i + 2)) ((0 : Nat) : Int) = bt s (i : Int) := ext_at s i (i + 2) 0 (by omega) (by omega)
  have e1 : bt (s.extract i (i + 2)) ((1 : Nat) : Int) = bt s ((i + 1 : Nat) : Int) := ext_at s i (i + 2) 1 (by omega) (by omega)
  have g : ∀ a b : UInt8, (s.extract i (i + 2)).toList = [a, b] → bt s (i : Int) = (a.toNat : Int) ∧ bt s ((i + 1 : Nat) : Int) = (b.toNat : Int) := fun a b hab => by
    rw [ByteArray.toList_eq] at hab
    rw [← e0, ← e1]
    exact ⟨(bt_get _ 0 a (by rw [hab]; rfl)).2, (bt_get _ 1 b (by rw [hab]; rfl)).2⟩
  simp only [twos, List.mem_cons, List.not_mem_nil, or_false] at h
  rcases h with h | h | h | h | h <;> (obtain ⟨x, y⟩ := g _ _ h; rw [x, y]; decide)
theorem rs_in (c : Int) (h : rs.contains c = true) : c = 40 ∨ c = 41 ∨ c = 123 ∨ c = 125 ∨ c = 44 ∨ c = 59 ∨ c = 58 ∨ c = 61 ∨ c = 60 ∨ c = 33 ∨ c = 43 ∨ c = 45 ∨ c = 42 ∨ c = 47 ∨ c = 37 := by
  simpa [rs] using h
/-- No blank stands where a token stands. -/
theorem tok_head {s : ByteArray} {i e : Nat} {t : S35} (h : TokAt s i t e) : Lx.skipP s i = i := by
  have hb := tok_bd h
  have key : ¬ (bt s (i : Int) = 32 ∨ bt s (i : Int) = 9 ∨ bt s (i : Int) = 10 ∨ bt s (i : Int) = 13) ∧ bt s (i : Int) ≠ 35 := by
    cases h with
    | name h1 h2 h3 h4 h5 => unfold lowP at h2; omega
    | int h1 h2 h3 h4 h5 =>
      have h6 := h2.2.2.1 i (Nat.le_refl _) h1
      unfold digP at h6
      omega
    | text bs h1 h2 h3 h4 => omega
    | sign h1 h2 h3 h4 h5 =>
      rcases sgn_cases s i h5 with ⟨_, g1, g2⟩ | ⟨_, g⟩
      · have := (two_bytes s i g1 g2).1
        omega
      · have := rs_in _ g
        omega
  exact Lx.skipP_stop s i (by omega) key.1 key.2
/-- A token is written, and read again wherever it stands with a blank behind it. -/
theorem retok_one (s : ByteArray) (i e : Nat) (t : S35) (h : TokAt s i t e) : ∃ w : ByteArray, Wr t w ∧ w.size ≤ 20000 ∧ ∀ T p, At T p (w.data.toList ++ [32]) → TokAt T p (put t p) (p + w.size) := by
  cases h with
  | name h1 h2 h3 h4 h5 =>
    have he := h3.2.1
    have hz := ext_size s i e he
    refine ⟨s.extract i e, ⟨0, ?_⟩, by omega, fun T p hat => ?_⟩
    · show keystonelaw12_written.f 0 1 (s.extract i e) _ _ _ _ _ _ = _
      rw [keystonelaw12_written.f, if_neg (by decide), if_neg (by decide)]
    · obtain ⟨c1, c2, c3, c4⟩ := copy_at s T i e p (by omega) he hat
      have b0 := c1 0 (by omega)
      rw [Nat.add_zero, Nat.add_zero] at b0
      rw [hz]
      have hrun : RunTo innP T p (p + (e - i)) := by
        refine ⟨by omega, by omega, fun j hj hj2 => ?_, .inr (by rw [c3]; exact blank_no.1)⟩
        have b := c1 (j - p) (by omega)
        rw [show p + (j - p) = j by omega] at b
        rw [b.2]
        exact h3.2.2.1 (i + (j - p)) (by omega) (by omega)
      have r := TokAt.name (s := T) (i := p) (e := p + (e - i)) b0.1 (by rw [b0.2]; exact h2) hrun (by omega) (by omega)
      rw [c4] at r
      exact r
  | int h1 h2 h3 h4 h5 =>
    have he := h2.2.1
    obtain ⟨d, ⟨k, p1⟩, ⟨q1, q2, q3, q4, _⟩, q6⟩ := digits_of 18 (dec 0 (seg s i e)) (by omega) h3 (by omega)
    have hds := data_size d
    have hdz : 0 < d.size := by
      rw [← hds]
      exact List.length_pos_iff.2 q3
    refine ⟨d, ⟨k, ?_⟩, by omega, fun T p hat => ?_⟩
    · show keystonelaw12_written.f k 2 _ _ _ _ _ _ _ = _
      rw [keystonelaw12_written.f, if_pos rfl]
      show (keystoneref04_Digits.f k (dec 0 (seg s i e) : Int)).bind _ = _
      rw [p1, Option.bind_some]
    · have hl := at_left hat
      have hend := at_head (at_app hat)
      rw [hds] at hend
      have hb : ∀ j (hj : j < d.size), dig (d.data.toList[j]'(by omega)) ∧ p + j < T.size ∧ bt T ((p + j : Nat) : Int) = ((d.data.toList[j]'(by omega)).toNat : Int) := fun j hj => by
        have g := at_get hl j _ (List.getElem?_eq_getElem (by omega))
        exact ⟨q1 _ (List.getElem_mem _), g⟩
      have hrun : RunTo digP T p (p + d.size) := by
        refine ⟨by omega, by omega, fun j hj hj2 => ?_, .inr (by rw [hend.2]; exact blank_no.2.1)⟩
        have b := hb (j - p) (by omega)
        rw [show p + (j - p) = j by omega] at b
        rw [b.2.2]
        have b1 := b.1
        unfold dig at b1
        unfold digP
        omega
      have hseg : seg T p (p + d.size) = d.data.toList := by
        have := at_seg hl
        rwa [hds] at this
      have hno : ¬ (bt T (p : Int) = 48 ∧ p + 1 < p + d.size) := by
        rintro ⟨g1, g2⟩
        rcases q4 with q4 | q4
        · omega
        · have b := hb 0 hdz
          rw [Nat.add_zero] at b
          refine q4 ?_
          rw [List.head?_eq_getElem?, List.getElem?_eq_getElem (by omega)]
          congr 1
          apply UInt8.toNat_inj.1
          have b2 := b.2.2
          rw [g1] at b2
          show _ = 48
          omega
      have hfol : ¬ follows T (p + d.size) := by
        rintro ⟨_, g⟩
        have e32 : bt T ((p + d.size : Nat) : Int) = 32 := hend.2
        rw [e32] at g
        exact absurd g (by decide)
      have r := TokAt.int (s := T) (i := p) (e := p + d.size) (by omega) hrun (by rw [hseg, q2]; exact h3) hno hfol
      rw [hseg, q2] at r
      exact r
  | text bs h1 h2 h3 h4 =>
    have hbd := rd_bd h3
    obtain ⟨k, p1⟩ := quote_of (strOfNums bs) (by rw [str_size]; exact h4)
    rw [nums_str bs hbd.2.2] at p1
    have hel := es_len bs hbd.2.2
    have hz : (strOfNums ([34] ++ (es bs ++ [34]))).size = (es bs).length + 2 := by
      rw [str_size]
      simp only [List.length_append, List.length_cons, List.length_nil]
      omega
    refine ⟨_, ⟨k, ?_⟩, by rw [hz]; omega, fun T p hat => ?_⟩
    · show keystonelaw12_written.f k 3 _ _ _ _ _ _ _ = _
      rw [keystonelaw12_written.f, if_neg (by decide), if_pos rfl]
      show (lexis_Quote.f k (strOfNums bs)).bind _ = _
      rw [p1, Option.bind_some]
      rfl
    · have hl := at_left hat
      rw [str_data, List.map_append] at hl
      have h0 := at_head hl
      have hrd := rd_of_at T bs (p + 1) hbd.2.2 (at_app hl)
      have r := TokAt.text (s := T) (i := p) (e := p + 1 + (es bs).length + 1) bs h0.1 h0.2 hrd h4
      rw [hz, show p + ((es bs).length + 2) = p + 1 + (es bs).length + 1 by omega]
      exact r
  | sign h1 h2 h3 h4 h5 =>
    have hle := sgn_le s i h1
    have hz := ext_size s i (i + sgn s i) hle
    have hn : sgn s i ≤ 2 := by unfold sgn; split; omega; split <;> omega
    refine ⟨s.extract i (i + sgn s i), ⟨0, ?_⟩, by omega, fun T p hat => ?_⟩
    · show keystonelaw12_written.f 0 4 (s.extract i (i + sgn s i)) _ _ _ _ _ _ = _
      rw [keystonelaw12_written.f, if_neg (by decide), if_neg (by decide)]
    · obtain ⟨c1, c2, c3, c4⟩ := copy_at s T i (i + sgn s i) p (by omega) hle hat
      rw [show i + sgn s i - i = sgn s i by omega] at c2 c3 c4
      have b0 := c1 0 (by omega)
      rw [Nat.add_zero, Nat.add_zero] at b0
      have hs : sgn T p = sgn s i := by
        rcases sgn_cases s i h5 with ⟨g0, g1, g2⟩ | ⟨g0, g⟩
        · rw [g0] at c4 c2 ⊢
          exact sgn_two T p ⟨by omega, by rw [c4]; exact g2⟩
        · rw [g0] at c3 c2 ⊢
          refine sgn_one T p ?_ (by rw [b0.2]; exact g)
          rintro ⟨x1, x2⟩
          have := (two_bytes T p x1 x2).2
          omega
      rw [hz, show i + sgn s i - i = sgn s i by omega]
      have r := TokAt.sign (s := T) (i := p) b0.1 (by rw [b0.2]; exact h2) (by rw [b0.2]; exact h3) (by rw [b0.2]; exact h4) (by rw [hs]; exact h5)
      rw [hs, c4] at r
      exact r
/-- What is written of a row of tokens, a blank behind each. -/
inductive Wrs : List S35 → List UInt8 → Prop
  | nil : Wrs [] []
  | cons (t : S35) (w : ByteArray) (l : List S35) (x : List UInt8) : Wr t w → w.size ≤ 20000 → (∀ T p, At T p (w.data.toList ++ [32]) → TokAt T p (put t p) (p + w.size)) → Wrs l x → Wrs (t :: l) (w.data.toList ++ 32 :: x)
theorem wrs_of {s : ByteArray} {i : Nat} {l : List S35} (h : Toks s i l) : ∃ x, Wrs l x := by
  induction h with
  | nil i h => exact ⟨[], .nil⟩
  | cons i e t l h1 h2 ih =>
    obtain ⟨x, ih⟩ := ih
    obtain ⟨w, g1, g2, g3⟩ := retok_one s i e t h1
    exact ⟨_, .cons t w l x g1 g2 g3 ih⟩
def strip (t : S35) : S35 := ⟨t.f0, t.f1, t.f2, 0⟩
theorem retok {l : List S35} {x : List UInt8} (h : Wrs l x) : ∀ (T : ByteArray) (p : Nat), At T p x → T.size = p + x.length → Lx.skipP T p = p ∧ ∃ m, Toks T p m ∧ m.map strip = l.map strip := by
  induction h with
  | nil =>
    intro T p h1 h2
    exact ⟨Lx.skipP_end T p (by simp only [List.length_nil] at h2; omega), [], .nil p (by simp only [List.length_nil] at h2; omega), rfl⟩
  | cons t w l x g1 g2 g3 g4 ih =>
    intro T p h1 h2
    have e : w.data.toList ++ 32 :: x = (w.data.toList ++ [32]) ++ x := by simp
    rw [e] at h1 h2
    have ht := g3 T p (at_left h1)
    have hb := tok_bd ht
    have hend := at_head (at_app (at_left h1))
    rw [data_size] at hend
    obtain ⟨i1, m, i2, i3⟩ := ih T (p + (w.size + 1)) (by have := at_app h1; rwa [List.length_append, data_size] at this) (by rw [List.length_append, List.length_append, data_size] at h2; simp only [List.length_cons, List.length_nil] at h2; omega)
    refine ⟨tok_head ht, put t p :: m, .cons p (p + w.size) (put t p) m ht ?_, ?_⟩
    · rw [Lx.skipP_blank T (p + w.size) hend.1 (.inl hend.2), show p + w.size + 1 = p + (w.size + 1) by omega, i1]
      exact i2
    · rw [List.map_cons, List.map_cons, i3]
      rfl
end Go.Proofs.YtmloklmcoedciaaDoor.Pure.Sp
