/- The plain part of the laws over the program's own tokens, second text: escapes, quoted bytes and signs, as the program's reader finds them. Condition: a text of at most 2^47 - 4096 bytes. -/
import Derived.Test.YtmloklmcoedciaaDoorPureSp1
namespace Go.Proofs.YtmloklmcoedciaaDoor.Pure.Sp
open Go.RowKit Go.Proofs.YtmloklmcoedciaaDoor.KB Go.Proofs.YtmloklmcoedciaaDoorW.PrintWords Go.Proofs.YtmloklmcoedciaaDoorW.PrintLast
set_option linter.unusedVariables false

/-! ### escapes -/
def hexv (c : Int) : Option Nat := if digP c then some (c - 48).toNat else if 97 ≤ c ∧ c ≤ 102 then some (c - 87).toNat else none
theorem w32_in (x : Int) (h0 : -2147483648 ≤ x) (h1 : x < 2147483648) : wrap32 x = x := by
  unfold wrap32
  omega
theorem hex_none (c : Int) (h : hexv c = none) : lexis_hex.f c = some false := by
  unfold hexv at h
  unfold lexis_hex.f
  rw [digit_is]
  simp only [Option.bind_some]
  by_cases hd : digP c
  · rw [if_pos hd] at h
    cases h
  · rw [if_neg hd] at h
    rw [decide_eq_false hd]
    by_cases h97 : c ≥ 97
    · by_cases h102 : c ≤ 102
      · rw [if_pos ⟨h97, h102⟩] at h
        cases h
      · simp [h97, h102]
    · simp [h97]
theorem hex_some (c : Int) (v : Nat) (h : hexv c = some v) : v < 16 ∧ 0 ≤ c ∧ c ≤ 255 ∧ lexis_hex.f c = some true ∧ lexis_value.f c = some (v : Int) := by
  unfold hexv at h
  unfold lexis_hex.f lexis_value.f
  rw [digit_is]
  simp only [Option.bind_some]
  by_cases hd : digP c
  · rw [if_pos hd] at h
    obtain rfl := Option.some.inj h
    have hd2 := hd
    unfold digP at hd2
    refine ⟨by omega, by omega, by omega, ?_, ?_⟩
    · rw [if_pos (decide_eq_true hd)]
    · rw [if_pos (decide_eq_true hd), w32_in _ (by omega) (by omega)]
      congr 1
      omega
  · rw [if_neg hd] at h
    have hn : ¬ decide (digP c) = true := by simpa using hd
    simp only [if_neg hn]
    by_cases h97 : 97 ≤ c ∧ c ≤ 102
    · rw [if_pos h97] at h
      obtain rfl := Option.some.inj h
      refine ⟨by omega, by omega, by omega, ?_, ?_⟩
      · rw [if_pos (show c ≥ 97 from h97.1), decide_eq_true h97.2]
      · rw [w32_in _ (by omega) (by omega)]
        congr 1
        omega
    · rw [if_neg h97] at h
      cases h
theorem or_is : ∀ a b : Fin 16, Go.bits .or .u8 (((a.val : Int) * 16) % 256) (b.val : Int) = ((a.val * 16 + b.val : Nat) : Int) := by decide +kernel
theorem or_nat (v1 v2 : Nat) (h1 : v1 < 16) (h2 : v2 < 16) : Go.bits .or .u8 (((v1 : Int) * 16) % 256) (v2 : Int) = ((v1 * 16 + v2 : Nat) : Int) := or_is ⟨v1, h1⟩ ⟨v2, h2⟩
/-- The escape that stands at i, behind its backslash: the byte that it says, the place behind it. -/
inductive Esc (s : ByteArray) (i : Nat) : Int → Nat → Prop
  | self {c : Int} : i < s.size → bt s (i : Int) = c → c = 34 ∨ c = 92 → Esc s i c (i + 1)
  | nl : i < s.size → bt s (i : Int) = 110 → Esc s i 10 (i + 1)
  | tab : i < s.size → bt s (i : Int) = 116 → Esc s i 9 (i + 1)
  | hex (v1 v2 : Nat) : i + 2 < s.size → bt s (i : Int) = 120 → hexv (bt s ((i + 1 : Nat) : Int)) = some v1 → hexv (bt s ((i + 2 : Nat) : Int)) = some v2 → Esc s i ((v1 * 16 + v2 : Nat) : Int) (i + 3)
theorem esc_bd {s : ByteArray} {i e : Nat} {c : Int} (h : Esc s i c e) : i < e ∧ e ≤ s.size ∧ 0 ≤ c ∧ c ≤ 255 := by
  cases h with
  | self h1 h2 h3 => omega
  | nl h1 h2 => omega
  | tab h1 h2 => omega
  | hex v1 v2 h1 h2 h3 h4 =>
    have := hex_some _ _ h3
    have := hex_some _ _ h4
    omega
theorem esc_step (s : ByteArray) (hs : s.size ≤ 140737488351232) (x : Int) (i m : Nat) (hm : m = 1 ∨ m = 2) (v : Nat) (hin : i + m < s.size) (hv : hexv (bt s ((i + m : Nat) : Int)) = some v) (k : Nat) :
    lexis_reader_escape.l0 (k + 1) (i : Int) ((i + m : Nat) : Int) s x = lexis_reader_escape.l0 k (i : Int) ((i + m + 1 : Nat) : Int) s x := by
  have cw2 : wrap64 ((i : Int) + 2) = ((i + 2 : Nat) : Int) := by rw [w64 _ (by omega) (by omega)]; omega
  have hle : ((i + m : Nat) : Int) ≤ wrap64 ((i : Int) + 2) := by rw [cw2]; omega
  obtain ⟨_, _, _, hx, _⟩ := hex_some _ _ hv
  rw [lexis_reader_escape.l0.eq_2, if_pos hle, byte_in s x _ hin, Option.bind_some, hx, Option.bind_some, if_pos rfl, wsucc (i + m) (by omega)]
theorem esc_stop (s : ByteArray) (hs : s.size ≤ 140737488351232) (x : Int) (i m : Nat) (hm : m = 1 ∨ m = 2) (hi : i < s.size) (hbad : s.size ≤ i + m ∨ hexv (bt s ((i + m : Nat) : Int)) = none) :
    ∃ pl : Nat, i ≤ pl ∧ pl ≤ s.size ∧ lexis_reader_escape.l0 1 (i : Int) ((i + m : Nat) : Int) s x = some (0, (pl : Int), false, s, x) := by
  have cw2 : wrap64 ((i : Int) + 2) = ((i + 2 : Nat) : Int) := by rw [w64 _ (by omega) (by omega)]; omega
  have hle : ((i + m : Nat) : Int) ≤ wrap64 ((i : Int) + 2) := by rw [cw2]; omega
  by_cases hin : i + m < s.size
  · have hx := hex_none _ (hbad.resolve_left (by omega))
    refine ⟨i + m, by omega, by omega, ?_⟩
    rw [lexis_reader_escape.l0.eq_2, if_pos hle, byte_in s x _ hin, Option.bind_some, hx, Option.bind_some, if_neg (by decide), mn_lo ((i + m : Nat) : Int) (s.size : Int) (by omega)]
  · refine ⟨s.size, by omega, Nat.le_refl _, ?_⟩
    rw [lexis_reader_escape.l0.eq_2, if_pos hle, byte_out s x _ (by omega), Option.bind_some, show lexis_hex.f 0 = some false from by decide, Option.bind_some, if_neg (by decide), mn_hi ((i + m : Nat) : Int) (s.size : Int) (by omega)]
theorem esc_last (s : ByteArray) (hs : s.size ≤ 140737488351232) (x : Int) (i : Nat) (v1 v2 : Nat) (k : Nat) (in2 : i + 2 < s.size) (z1 : hexv (bt s ((i + 1 : Nat) : Int)) = some v1) (z2 : hexv (bt s ((i + 2 : Nat) : Int)) = some v2) :
    lexis_reader_escape.l0 (k + 1) (i : Int) ((i + 3 : Nat) : Int) s x = some (((v1 * 16 + v2 : Nat) : Int), ((i + 3 : Nat) : Int), true, s, x) := by
  have e1 := wsucc i (by omega)
  have e2 : wrap64 ((i : Int) + 2) = ((i + 2 : Nat) : Int) := by rw [w64 _ (by omega) (by omega)]; omega
  have e3 : wrap64 ((i : Int) + 3) = ((i + 3 : Nat) : Int) := by rw [w64 _ (by omega) (by omega)]; omega
  have hgt : ¬ ((i + 3 : Nat) : Int) ≤ wrap64 ((i : Int) + 2) := by rw [e2]; omega
  have r1 := byte_in s x (i + 1) (by omega)
  have r2 := byte_in s x (i + 2) in2
  obtain ⟨hv1, _, _, _, y1⟩ := hex_some _ _ z1
  obtain ⟨hv2, _, _, _, y2⟩ := hex_some _ _ z2
  rw [lexis_reader_escape.l0.eq_2, if_neg hgt, e1, r1, Option.bind_some, y1, Option.bind_some, e2, r2, Option.bind_some, y2, Option.bind_some, e3, or_nat v1 v2 hv1 hv2]
theorem esc_head (s : ByteArray) (x : Int) (i : Nat) (hi : i < s.size) (k : Nat) : lexis_reader_escape.f k s x (i : Int) = if bt s (i : Int) = 34 then lexis_reader_escape.j0 k (i : Int) (bt s (i : Int)) (bt s (i : Int)) (bt s (i : Int) == 34) s x else lexis_reader_escape.j0 k (i : Int) (bt s (i : Int)) (bt s (i : Int)) (bt s (i : Int) == 92) s x := by
  unfold lexis_reader_escape.f
  rw [byte_in s x i hi]
  rfl
theorem escape_of (s : ByteArray) (hs : s.size ≤ 140737488351232) (x : Int) (i e : Nat) (c : Int) (h : Esc s i c e) : ∃ k, lexis_reader_escape.f k s x (i : Int) = some (c, (e : Int), true, s, x) := by
  cases h with
  | self h1 h2 h3 =>
    refine ⟨0 + 1, ?_⟩
    rw [esc_head s x i h1, h2]
    rcases h3 with rfl | rfl
    · rw [if_pos rfl, lexis_reader_escape.j0.eq_2, if_pos (by decide), wsucc i (by omega)]
      rfl
    · rw [if_neg (by decide), lexis_reader_escape.j0.eq_2, if_pos (by decide), wsucc i (by omega)]
      rfl
  | nl h1 h2 =>
    refine ⟨0 + 1, ?_⟩
    rw [esc_head s x i h1, h2, if_neg (by decide), lexis_reader_escape.j0.eq_2, if_neg (by decide), if_pos rfl, wsucc i (by omega)]
  | tab h1 h2 =>
    refine ⟨0 + 1, ?_⟩
    rw [esc_head s x i h1, h2, if_neg (by decide), lexis_reader_escape.j0.eq_2, if_neg (by decide), if_neg (by decide), if_pos rfl, wsucc i (by omega)]
  | hex v1 v2 h1 h2 h3 h4 =>
    refine ⟨0 + 1 + 1 + 1 + 1, ?_⟩
    rw [esc_head s x i (by omega), h2, if_neg (by decide), lexis_reader_escape.j0.eq_2, if_neg (by decide), if_neg (by decide), if_neg (by decide), if_pos rfl, wsucc i (by omega), esc_step s hs x i 1 (.inl rfl) v1 (by omega) h3, esc_step s hs x i 2 (.inr rfl) v2 h1 h4]
    exact esc_last s hs x i v1 v2 0 h1 h3 h4
theorem escape_spec (s : ByteArray) (hs : s.size ≤ 140737488351232) (x : Int) (i : Nat) (hi : i ≤ s.size) : (∃ c e, Esc s i c e) ∨ ∃ pl : Nat, pl ≤ s.size ∧ ∃ k, lexis_reader_escape.f k s x (i : Int) = some (0, (pl : Int), false, s, x) := by
  by_cases hlt : i < s.size
  · by_cases h34 : bt s (i : Int) = 34
    · exact .inl ⟨_, _, .self hlt h34 (.inl rfl)⟩
    by_cases h92 : bt s (i : Int) = 92
    · exact .inl ⟨_, _, .self hlt h92 (.inr rfl)⟩
    by_cases h110 : bt s (i : Int) = 110
    · exact .inl ⟨_, _, .nl hlt h110⟩
    by_cases h116 : bt s (i : Int) = 116
    · exact .inl ⟨_, _, .tab hlt h116⟩
    have b92 : ¬ (bt s (i : Int) == 92) = true := by simpa using h92
    by_cases h120 : bt s (i : Int) = 120
    · have J : ∀ k, lexis_reader_escape.f (k + 1) s x (i : Int) = lexis_reader_escape.l0 k (i : Int) ((i + 1 : Nat) : Int) s x := fun k => by
        rw [esc_head s x i hlt, if_neg h34, lexis_reader_escape.j0.eq_2, if_neg b92, if_neg h110, if_neg h116, if_pos h120, wsucc i (by omega)]
      by_cases in1 : s.size ≤ i + 1 ∨ hexv (bt s ((i + 1 : Nat) : Int)) = none
      · obtain ⟨pl, p1, p2, p3⟩ := esc_stop s hs x i 1 (.inl rfl) hlt in1
        exact .inr ⟨pl, p2, 1 + 1, by rw [J]; exact p3⟩
      · have n1 : i + 1 < s.size := by
          rcases Nat.lt_or_ge (i + 1) s.size with h | h
          · exact h
          · exact absurd (.inl h) in1
        obtain ⟨v1, z1⟩ := Option.ne_none_iff_exists'.1 (fun h => in1 (.inr h))
        by_cases in2 : s.size ≤ i + 2 ∨ hexv (bt s ((i + 2 : Nat) : Int)) = none
        · obtain ⟨pl, p1, p2, p3⟩ := esc_stop s hs x i 2 (.inr rfl) hlt in2
          exact .inr ⟨pl, p2, 1 + 1 + 1, by rw [J, esc_step s hs x i 1 (.inl rfl) v1 n1 z1]; exact p3⟩
        · have n2 : i + 2 < s.size := by
            rcases Nat.lt_or_ge (i + 2) s.size with h | h
            · exact h
            · exact absurd (.inl h) in2
          obtain ⟨v2, z2⟩ := Option.ne_none_iff_exists'.1 (fun h => in2 (.inr h))
          exact .inl ⟨_, _, .hex v1 v2 n2 h120 z1 z2⟩
    · refine .inr ⟨i, hi, 0 + 1, ?_⟩
      rw [esc_head s x i hlt, if_neg h34, lexis_reader_escape.j0.eq_2, if_neg b92, if_neg h110, if_neg h116, if_neg h120, mn_lo (i : Int) (s.size : Int) (by omega)]
  · refine .inr ⟨s.size, Nat.le_refl _, 0 + 1, ?_⟩
    unfold lexis_reader_escape.f
    rw [byte_out s x i (by omega), Option.bind_some, if_neg (show ¬ ((0 : Int) = 34) by decide), lexis_reader_escape.j0.eq_2, if_neg (show ¬ (((0 : Int) == 92) = true) by decide), if_neg (show ¬ ((0 : Int) = 110) by decide), if_neg (show ¬ ((0 : Int) = 116) by decide), if_neg (show ¬ ((0 : Int) = 120) by decide), mn_hi (i : Int) (s.size : Int) (by omega)]

/-! ### quoted bytes -/
/-- From i on these bytes stand, as quoted bytes say them, up to the quote ahead of e. -/
inductive Rd (s : ByteArray) : Nat → List Int → Nat → Prop
  | fin (i : Nat) : i < s.size → bt s (i : Int) = 34 → Rd s i [] (i + 1)
  | plain (i : Nat) (c : Int) (bs : List Int) (e : Nat) : i < s.size → bt s (i : Int) = c → 32 ≤ c → c ≤ 126 → c ≠ 34 → c ≠ 92 → Rd s (i + 1) bs e → Rd s i (c :: bs) e
  | esc (i e1 : Nat) (c : Int) (bs : List Int) (e : Nat) : i < s.size → bt s (i : Int) = 92 → Esc s (i + 1) c e1 → Rd s e1 bs e → Rd s i (c :: bs) e
theorem rd_bd {s : ByteArray} {i e : Nat} {bs : List Int} (h : Rd s i bs e) : i + bs.length < e ∧ e ≤ s.size ∧ ∀ c ∈ bs, 0 ≤ c ∧ c ≤ 255 := by
  induction h with
  | fin i h1 h2 => exact ⟨by simp, h1, by simp⟩
  | plain i c bs e h1 h2 h3 h4 h5 h6 h7 ih =>
    refine ⟨by rw [List.length_cons]; omega, ih.2.1, fun b hb => ?_⟩
    rcases List.mem_cons.1 hb with rfl | hb
    · omega
    · exact ih.2.2 b hb
  | esc i e1 c bs e h1 h2 h3 h4 ih =>
    have hb := esc_bd h3
    refine ⟨by rw [List.length_cons]; omega, ih.2.1, fun b hb2 => ?_⟩
    rcases List.mem_cons.1 hb2 with rfl | hb2
    · omega
    · exact ih.2.2 b hb2
theorem quoted_plain (s : ByteArray) (hs : s.size ≤ 140737488351232) (x b : Int) (f1 : ByteArray) (i : Nat) (l : List Int) (c : Int) (hi : i < s.size) (hc : bt s (i : Int) = c) (h1 : 32 ≤ c) (h2 : c ≤ 126) (h3 : c ≠ 34) (h4 : c ≠ 92) (hl : l.length < 140737488355328) (k : Nat) (f0 f2 f3 f4 f5 f6) :
    lexis_reader_quoted.l0 (k + 1) l (i : Int) s x f0 f1 f2 f3 f4 f5 f6 b = lexis_reader_quoted.l0 k (l ++ [c]) ((i + 1 : Nat) : Int) s x f0 f1 f2 f3 f4 f5 f6 b := by
  have hm : c % 256 = c := by omega
  rw [lexis_reader_quoted.l0.eq_2, byte_in s x i hi, hc, Option.bind_some, if_neg h3, if_neg h4, if_pos (show c ≥ 32 from h1), if_pos h2, if_pos hl, hm, wsucc i (by omega)]
theorem quoted_esc (s : ByteArray) (hs : s.size ≤ 140737488351232) (x b : Int) (f1 : ByteArray) (i : Nat) (l : List Int) (hi : i < s.size) (hc : bt s (i : Int) = 92) (hl : l.length < 140737488355328) (k : Nat) (f0 f2 f3 f4 f5 f6) :
    lexis_reader_quoted.l0 (k + 1) l (i : Int) s x f0 f1 f2 f3 f4 f5 f6 b = (lexis_reader_escape.f k s x ((i + 1 : Nat) : Int)).bind fun bt130 => (if bt130.2.2.1 = true then (lexis_reader_quoted.l0 k (l ++ [bt130.1]) bt130.2.1 bt130.2.2.2.1 bt130.2.2.2.2 f0 f1 f2 f3 f4 f5 f6 b) else (some (0, (⟨#[]⟩ : ByteArray), 0, 0, false, (⟨#[]⟩ : ByteArray), (⟨0, 0⟩ : CPt), 0, bt130.2.1, 123, bt130.2.2.2.1, bt130.2.2.2.2))) := by
  rw [lexis_reader_quoted.l0.eq_2, byte_in s x i hi, hc, Option.bind_some, if_neg (show ¬ ((92 : Int) = 34) by decide), if_pos rfl, wsucc i (by omega)]
  simp only [if_pos hl]
theorem quoted_end (s : ByteArray) (hs : s.size ≤ 140737488351232) (x b : Int) (f1 : ByteArray) (i : Nat) (l : List Int) (hi : i < s.size) (hc : bt s (i : Int) = 34) (k : Nat) (f0 f2 f3 f4 f5 f6) :
    lexis_reader_quoted.l0 (k + 1) l (i : Int) s x f0 f1 f2 f3 f4 f5 f6 b = if (l.length : Int) > 4096 then (some (0, (⟨#[]⟩ : ByteArray), 0, 0, false, (⟨#[]⟩ : ByteArray), (⟨0, 0⟩ : CPt), 0, b, 3, s, ((i + 1 : Nat) : Int))) else (some (3, f1, 3, 0, false, strOfNums l, (⟨0, 0⟩ : CPt), b, 0, 0, s, ((i + 1 : Nat) : Int))) := by
  rw [lexis_reader_quoted.l0.eq_2, byte_in s x i hi, hc, Option.bind_some, if_pos rfl, wsucc i (by omega)]
/-- The reader answers what stands there. -/
theorem quoted_of (s : ByteArray) (hs : s.size ≤ 140737488351232) (x b : Int) (f1 : ByteArray) {i e : Nat} {bs : List Int} (h : Rd s i bs e) : ∀ (l : List Int), l.length ≤ i → ∀ f0 f2 f3 f4 f5 f6, ∃ k,
    lexis_reader_quoted.l0 k l (i : Int) s x f0 f1 f2 f3 f4 f5 f6 b = if ((l ++ bs).length : Int) > 4096 then (some (0, (⟨#[]⟩ : ByteArray), 0, 0, false, (⟨#[]⟩ : ByteArray), (⟨0, 0⟩ : CPt), 0, b, 3, s, (e : Int))) else (some (3, f1, 3, 0, false, strOfNums (l ++ bs), (⟨0, 0⟩ : CPt), b, 0, 0, s, (e : Int))) := by
  induction h with
  | fin i h1 h2 =>
    intro l hl f0 f2 f3 f4 f5 f6
    refine ⟨0 + 1, ?_⟩
    rw [quoted_end s hs x b f1 i l h1 h2, List.append_nil]
  | plain i c bs e h1 h2 h3 h4 h5 h6 h7 ih =>
    intro l hl f0 f2 f3 f4 f5 f6
    obtain ⟨k, p⟩ := ih (l ++ [c]) (by rw [List.length_append]; simp only [List.length_cons, List.length_nil]; omega) f0 f2 f3 f4 f5 f6
    refine ⟨k + 1, ?_⟩
    rw [quoted_plain s hs x b f1 i l c h1 h2 h3 h4 h5 h6 (by omega), p, List.append_assoc]
    rfl
  | esc i e1 c bs e h1 h2 h3 h4 ih =>
    intro l hl f0 f2 f3 f4 f5 f6
    have hb := esc_bd h3
    obtain ⟨k, p⟩ := ih (l ++ [c]) (by rw [List.length_append]; simp only [List.length_cons, List.length_nil]; omega) f0 f2 f3 f4 f5 f6
    obtain ⟨k2, p2⟩ := escape_of s hs x (i + 1) e1 c h3
    refine ⟨k2 + k + 1, ?_⟩
    rw [quoted_esc s hs x b f1 i l h1 h2 (by omega), up_le (f := fun k => lexis_reader_escape.f k s x ((i + 1 : Nat) : Int)) (fun k => lexis_reader_escape.mono s x ((i + 1 : Nat) : Int) k) p2 k, Option.bind_some, if_pos rfl, Nat.add_comm]
    rw [List.append_assoc] at p
    have hr : ∀ (c0 : Prop) [Decidable c0] (A B : Int × ByteArray × Int × Int × Bool × ByteArray × CPt × Int × Int × Int × ByteArray × Int), ∃ r, (if c0 then some A else some B) = some r := fun c0 _ A B => by split <;> exact ⟨_, rfl⟩
    obtain ⟨r, hr⟩ := hr (((l ++ ([c] ++ bs)).length : Int) > 4096) (0, (⟨#[]⟩ : ByteArray), 0, 0, false, (⟨#[]⟩ : ByteArray), (⟨0, 0⟩ : CPt), 0, b, 3, s, (e : Int)) (3, f1, 3, 0, false, strOfNums (l ++ ([c] ++ bs)), (⟨0, 0⟩ : CPt), b, 0, 0, s, (e : Int))
    rw [hr] at p
    have := up_le (f := fun k => lexis_reader_quoted.l0 k (l ++ [c]) (e1 : Int) s x f0 f1 f2 f3 f4 f5 f6 b) (fun k => lexis_reader_quoted.mono_l k _ _ _ _ _ _ _ _ _ _ _ _) p k2
    exact this.trans hr.symm
theorem quoted_spec (s : ByteArray) (hs : s.size ≤ 140737488351232) (x b : Int) (f1 : ByteArray) : ∀ (n i : Nat), s.size - i ≤ n → i ≤ s.size → (∃ bs e, Rd s i bs e) ∨
    ∀ (l : List Int), l.length ≤ i → ∀ f0 f2 f3 f4 f5 f6, ∃ pl : Nat, pl ≤ s.size ∧ ∃ k, lexis_reader_quoted.l0 k l (i : Int) s x f0 f1 f2 f3 f4 f5 f6 b = some (0, ⟨#[]⟩, 0, 0, false, ⟨#[]⟩, ⟨0, 0⟩, 0, (pl : Int), 123, s, x)
  | n, i, hn, hi => by
    by_cases hlt : i < s.size
    · by_cases h34 : bt s (i : Int) = 34
      · exact .inl ⟨[], i + 1, .fin i hlt h34⟩
      by_cases h92 : bt s (i : Int) = 92
      · rcases escape_spec s hs x (i + 1) (by omega) with ⟨c, e1, he⟩ | ⟨pl, p1, k, p2⟩
        · have hb := esc_bd he
          have ih := match n, hn with
            | 0, hn => absurd hn (by omega)
            | n + 1, hn => quoted_spec s hs x b f1 n e1 (by omega) hb.2.1
          rcases ih with ⟨bs, e, ih⟩ | ih
          · exact .inl ⟨c :: bs, e, .esc i e1 c bs e hlt h92 he ih⟩
          · refine .inr (fun l hl f0 f2 f3 f4 f5 f6 => ?_)
            obtain ⟨pl, q1, k, q2⟩ := ih (l ++ [c]) (by rw [List.length_append]; simp only [List.length_cons, List.length_nil]; omega) f0 f2 f3 f4 f5 f6
            obtain ⟨k2, p2⟩ := escape_of s hs x (i + 1) e1 c he
            refine ⟨pl, q1, k2 + k + 1, ?_⟩
            rw [quoted_esc s hs x b f1 i l hlt h92 (by omega), up_le (f := fun k => lexis_reader_escape.f k s x ((i + 1 : Nat) : Int)) (fun k => lexis_reader_escape.mono s x ((i + 1 : Nat) : Int) k) p2 k, Option.bind_some, if_pos rfl, Nat.add_comm]
            exact up_le (f := fun k => lexis_reader_quoted.l0 k (l ++ [c]) (e1 : Int) s x f0 f1 f2 f3 f4 f5 f6 b) (fun k => lexis_reader_quoted.mono_l k _ _ _ _ _ _ _ _ _ _ _ _) q2 k2
        · refine .inr (fun l hl f0 f2 f3 f4 f5 f6 => ⟨pl, p1, k + 1, ?_⟩)
          rw [quoted_esc s hs x b f1 i l hlt h92 (by omega), p2, Option.bind_some, if_neg (show ¬ (false = true) by decide)]
      by_cases hp : 32 ≤ bt s (i : Int) ∧ bt s (i : Int) ≤ 126
      · have ih := match n, hn with
          | 0, hn => absurd hn (by omega)
          | n + 1, hn => quoted_spec s hs x b f1 n (i + 1) (by omega) (by omega)
        rcases ih with ⟨bs, e, ih⟩ | ih
        · exact .inl ⟨_, e, .plain i _ bs e hlt rfl hp.1 hp.2 h34 h92 ih⟩
        · refine .inr (fun l hl f0 f2 f3 f4 f5 f6 => ?_)
          obtain ⟨pl, q1, k, q2⟩ := ih (l ++ [bt s (i : Int)]) (by rw [List.length_append]; simp only [List.length_cons, List.length_nil]; omega) f0 f2 f3 f4 f5 f6
          refine ⟨pl, q1, k + 1, ?_⟩
          rw [quoted_plain s hs x b f1 i l _ hlt rfl hp.1 hp.2 h34 h92 (by omega)]
          exact q2
      · refine .inr (fun l hl f0 f2 f3 f4 f5 f6 => ⟨i, hi, 0 + 1, ?_⟩)
        rw [lexis_reader_quoted.l0.eq_2, byte_in s x i hlt, Option.bind_some, if_neg h34, if_neg h92]
        by_cases h32 : bt s (i : Int) ≥ 32
        · rw [if_pos h32, if_neg (show ¬ bt s (i : Int) ≤ 126 from fun h => hp ⟨h32, h⟩), mn_lo (i : Int) (s.size : Int) (by omega)]
        · rw [if_neg h32, mn_lo (i : Int) (s.size : Int) (by omega)]
    · have he : i = s.size := by omega
      subst he
      refine .inr (fun l hl f0 f2 f3 f4 f5 f6 => ⟨s.size, Nat.le_refl _, 0 + 1, ?_⟩)
      rw [lexis_reader_quoted.l0.eq_2, byte_out s x _ (Nat.le_refl _), Option.bind_some, if_neg (show ¬ ((0 : Int) = 34) by decide), if_neg (show ¬ ((0 : Int) = 92) by decide), if_neg (show ¬ ((0 : Int) ≥ 32) by decide), mn_lo (s.size : Int) (s.size : Int) (by omega)]

/-! ### signs -/
def lits : ByteArray := ⟨#[40, 41, 123, 125, 44, 59, 58, 61, 60, 33, 43, 45, 42, 47, 37]⟩
def rs : List Int := [40, 41, 123, 125, 44, 59, 58, 61, 60, 33, 43, 45, 42, 47, 37]
theorem lits_find : ∀ c : Fin 256, decide (Lib.indexByte lits.data.toList (c.val : Int).toNat.toUInt8 ≥ 0) = rs.contains (c.val : Int) := by decide +kernel
theorem find_is (c : Int) (h0 : 0 ≤ c) (h1 : c ≤ 255) : (Lib.indexByte lits.data.toList c.toNat.toUInt8 ≥ 0) ↔ rs.contains c = true := by
  have h := lits_find ⟨c.toNat, by omega⟩
  have e : ((c.toNat : Nat) : Int) = c := by omega
  simp only [e] at h
  rw [← h, decide_eq_true_iff]
/-- What two bytes a sign may have. -/
def twos : List (List UInt8) := [[61, 61], [33, 61], [60, 61], [38, 38], [124, 124]]
def sgn (s : ByteArray) (i : Nat) : Nat := if i + 1 < s.size ∧ (s.extract i (i + 2)).toList ∈ twos then 2 else if rs.contains (bt s (i : Int)) = true then 1 else 0
theorem sgn_le (s : ByteArray) (i : Nat) (hi : i < s.size) : i + sgn s i ≤ s.size := by
  unfold sgn
  split
  · omega
  · split <;> omega
theorem ext_ext (s : ByteArray) (i : Nat) (h : i + 1 < s.size) : (s.extract i s.size).extract 0 2 = s.extract i (i + 2) := by
  rw [ByteArray.extract_extract]
  congr 1
  omega
theorem prefix_is (s : ByteArray) (i : Nat) (hi : i < s.size) (a b : UInt8) : strings_HasPrefix.f (s.extract i s.size) ⟨#[a, b]⟩ = some (decide (i + 1 < s.size ∧ (s.extract i (i + 2)).toList = [a, b])) := by
  have hz := ext_size s i s.size (Nat.le_refl _)
  have h2 : (⟨#[a, b]⟩ : ByteArray).size = 2 := rfl
  have h3 : (⟨#[a, b]⟩ : ByteArray).toList = [a, b] := ByteArray.toList_mk [a, b]
  unfold strings_HasPrefix.f stringslite_HasPrefix.f
  rw [hz, h2, h3]
  by_cases h1 : i + 1 < s.size
  · rw [if_pos (by omega), if_pos (by omega), if_pos (by omega)]
    rw [show (((2 : Nat) : Int)).toNat = 2 from rfl, ext_ext s i h1, Option.bind_some]
    congr 1
    rw [Bool.eq_iff_iff]
    simp [h1]
  · rw [if_neg (by omega), Option.bind_some]
    simp [h1]
def two5 : List ByteArray := [(⟨#[61, 61]⟩ : ByteArray), (⟨#[33, 61]⟩ : ByteArray), (⟨#[60, 61]⟩ : ByteArray), (⟨#[38, 38]⟩ : ByteArray), (⟨#[124, 124]⟩ : ByteArray)]
theorem prog_sign (s : ByteArray) (hs : s.size ≤ 140737488351232) (i : Nat) (hi : i < s.size) (k : Nat) : lexis_sign.f (k + 6) (s.extract i s.size) = some (sgn s i : Int) := by
  have hz := ext_size s i s.size (Nat.le_refl _)
  have P := prefix_is s i hi
  have hne : ¬ (s.extract i s.size).toList = ([] : List UInt8) := fun h => by
    rw [nil_iff, hz] at h
    omega
  have hb : bt (s.extract i s.size) 0 = bt s (i : Int) := ext_at s i s.size 0 (Nat.le_refl _) (by omega)
  have hr := bt_range s (i : Int)
  unfold lexis_sign.f
  rw [Option.bind_some]
  have step : ∀ (k n : Nat) (a b : UInt8), n < 5 → two5.getD n ByteArray.empty = ⟨#[a, b]⟩ →
      lexis_sign.l0 (k + 1) (s.extract i s.size) two5 5 (n : Int) = if i + 1 < s.size ∧ (s.extract i (i + 2)).toList = [a, b] then some 2 else lexis_sign.l0 k (s.extract i s.size) two5 5 ((n + 1 : Nat) : Int) := fun k n a b hn hg => by
    rw [lexis_sign.l0.eq_2, if_pos (by omega), if_pos (Int.natCast_nonneg _), if_pos (show (n : Int) < ((two5.length : Nat) : Int) from by show (n : Int) < ((5 : Nat) : Int); omega), rdOf, Int.toNat_natCast, hg, P, Option.bind_some, wsucc n (by omega)]
    by_cases h : i + 1 < s.size ∧ (s.extract i (i + 2)).toList = [a, b]
    · rw [if_pos h, if_pos (decide_eq_true h)]
    · rw [if_neg h, if_neg (by simpa using h)]
  have last : lexis_sign.l0 (k + 1) (s.extract i s.size) two5 5 ((4 + 1 : Nat) : Int) = some (if rs.contains (bt s (i : Int)) = true then 1 else 0) := by
    rw [lexis_sign.l0.eq_2, if_neg (by decide), if_neg hne, if_pos (by omega), hb]
    have hf := find_is (bt s (i : Int)) hr.1 hr.2
    rw [strings_IndexByte.f, Option.bind_some]
    by_cases hc : rs.contains (bt s (i : Int)) = true
    · rw [if_pos hc]
      exact if_pos (hf.2 hc)
    · rw [if_neg hc]
      exact if_neg (fun h => hc (hf.1 h))
  have all : lexis_sign.l0 (k + 6) (s.extract i s.size) two5 5 ((0 : Nat) : Int) = some (sgn s i : Int) := by
    rw [step _ 0 61 61 (by omega) rfl, step _ 1 33 61 (by omega) rfl, step _ 2 60 61 (by omega) rfl, step _ 3 38 38 (by omega) rfl, step _ 4 124 124 (by omega) rfl, last]
    unfold sgn
    simp only [twos, List.mem_cons, List.not_mem_nil, or_false]
    by_cases h1 : i + 1 < s.size
    · simp only [h1, true_and]
      by_cases e1 : (s.extract i (i + 2)).toList = [61, 61]
      · simp [e1]
      by_cases e2 : (s.extract i (i + 2)).toList = [33, 61]
      · simp [e2]
      by_cases e3 : (s.extract i (i + 2)).toList = [60, 61]
      · simp [e3]
      by_cases e4 : (s.extract i (i + 2)).toList = [38, 38]
      · simp [e4]
      by_cases e5 : (s.extract i (i + 2)).toList = [124, 124]
      · simp [e5]
      simp only [e1, e2, e3, e4, e5, if_false, or_self]
      split <;> rfl
    · simp only [h1, false_and, if_false]
      split <;> rfl
  exact all
end Go.Proofs.YtmloklmcoedciaaDoor.Pure.Sp
