/- The plain part of the laws over the program's own tokens, fourth text: what is written of a token is read as that token. Condition: none beyond a text's size, where it is said. -/
import Derived.Test.YtmloklmcoedciaaDoorPureSp3
import Derived.Test.YtmloklmcoedciaaDoorKBx9
namespace Go.Proofs.YtmloklmcoedciaaDoor.Pure.Sp
open Go.RowKit Go.Proofs.YtmloklmcoedciaaDoor.KB Go.Proofs.YtmloklmcoedciaaDoorW.PrintWords Go.Proofs.YtmloklmcoedciaaDoorW.PrintLast
set_option linter.unusedVariables false

/-! ### bytes that stand at a place -/
def At (s : ByteArray) (p : Nat) (l : List UInt8) : Prop := ∃ pre post, s.data.toList = pre ++ (l ++ post) ∧ pre.length = p
theorem at_get {s : ByteArray} {p : Nat} {l : List UInt8} (h : At s p l) (j : Nat) (b : UInt8) (hj : l[j]? = some b) : p + j < s.size ∧ bt s ((p + j : Nat) : Int) = (b.toNat : Int) := by
  obtain ⟨pre, post, h1, h2⟩ := h
  have hl : j < l.length := by
    rcases Nat.lt_or_ge j l.length with h | h
    · exact h
    · rw [List.getElem?_eq_none h] at hj
      cases hj
  refine bt_get s (p + j) b ?_
  rw [h1, List.getElem?_append_right (by omega), show p + j - pre.length = j by omega, List.getElem?_append_left hl, hj]
theorem at_head {s : ByteArray} {p : Nat} {c : UInt8} {l : List UInt8} (h : At s p (c :: l)) : p < s.size ∧ bt s (p : Int) = (c.toNat : Int) := at_get h 0 c rfl
theorem at_app {s : ByteArray} {p : Nat} {a b : List UInt8} (h : At s p (a ++ b)) : At s (p + a.length) b := by
  obtain ⟨pre, post, h1, h2⟩ := h
  exact ⟨pre ++ a, post, by rw [h1]; simp, by rw [List.length_append]; omega⟩
theorem at_left {s : ByteArray} {p : Nat} {a b : List UInt8} (h : At s p (a ++ b)) : At s p a := by
  obtain ⟨pre, post, h1, h2⟩ := h
  exact ⟨pre, b ++ post, by rw [h1]; simp, h2⟩
theorem at_tail {s : ByteArray} {p : Nat} {c : UInt8} {l : List UInt8} (h : At s p (c :: l)) : At s (p + 1) l := at_app (a := [c]) h
theorem at_size {s : ByteArray} {p : Nat} {l : List UInt8} (h : At s p l) : p + l.length ≤ s.size := by
  obtain ⟨pre, post, h1, h2⟩ := h
  have h3 : s.data.toList.length = s.size := by rw [Array.length_toList]; rfl
  rw [h1, List.length_append, List.length_append] at h3
  omega
theorem at_seg {s : ByteArray} {p : Nat} {l : List UInt8} (h : At s p l) : seg s p (p + l.length) = l := by
  obtain ⟨pre, post, h1, h2⟩ := h
  subst h2
  unfold seg
  rw [h1, List.drop_left, show pre.length + l.length - pre.length = l.length by omega, List.take_left]
theorem bytes_ext {a b : ByteArray} (h : a.data.toList = b.data.toList) : a = b := by
  cases a
  cases b
  congr 1
  exact Array.toList_inj.1 h
theorem at_ext {s : ByteArray} {p : Nat} {l : List UInt8} (h : At s p l) (b : ByteArray) (hb : b.data.toList = l) : s.extract p (p + l.length) = b := bytes_ext (by rw [extract_seg, at_seg h, hb])

/-! ### digits -/
theorem data_app (a b : ByteArray) : (a ++ b).data.toList = a.data.toList ++ b.data.toList := by simp [ByteArray.data_append]
/-- What digits are asked to be: they spell v, and stand without a nought ahead. -/
def Spells (d : ByteArray) (v : Nat) : Prop := (∀ b ∈ d.data.toList, dig b) ∧ dec 0 d.data.toList = v ∧ d.data.toList ≠ [] ∧ (d.data.toList.length = 1 ∨ d.data.toList.head? ≠ some 48) ∧ (0 < v → d.data.toList.head? ≠ some 48)
theorem one_digit (x : Nat) (hx : x < 10) : (strOfNums [((48 + x : Nat) : Int)]).data.toList = [UInt8.ofNat (48 + x)] ∧ (UInt8.ofNat (48 + x)).toNat = 48 + x ∧ (strOfNums [((48 + x : Nat) : Int)]).size = 1 := by
  have hs : (strOfNums [((48 + x : Nat) : Int)]).data.toList = [UInt8.ofNat (48 + x)] := by
    unfold strOfNums
    rw [List.map_cons, List.map_nil, Int.toNat_natCast]
  refine ⟨hs, ?_, ?_⟩
  · rw [UInt8.toNat_ofNat']
    omega
  · have h2 : (strOfNums [((48 + x : Nat) : Int)]).data.toList.length = 1 := by rw [hs]; rfl
    rw [Array.length_toList] at h2
    exact h2
theorem spells_one (x : Nat) (hx : x < 10) : Spells (strOfNums [((48 + x : Nat) : Int)]) x := by
  obtain ⟨hs, hd, _⟩ := one_digit x hx
  unfold Spells
  rw [hs]
  refine ⟨fun b hb => ?_, ?_, by simp, .inl rfl, fun h0 h => ?_⟩
  · obtain rfl := List.mem_singleton.1 hb
    unfold dig
    omega
  · show 0 * 10 + ((UInt8.ofNat (48 + x)).toNat - 48) = x
    omega
  · have h2 := congrArg UInt8.toNat (Option.some.inj h)
    rw [hd, show (48 : UInt8).toNat = 48 from rfl] at h2
    omega
theorem spells_more (d : ByteArray) (u x : Nat) (hx : x < 10) (hu : 0 < u) (h : Spells d u) : Spells (d ++ strOfNums [((48 + x : Nat) : Int)]) (u * 10 + x) := by
  obtain ⟨hs, hd, _⟩ := one_digit x hx
  obtain ⟨q1, q2, q3, q4, q5⟩ := h
  have hh : (d.data.toList ++ [UInt8.ofNat (48 + x)]).head? = d.data.toList.head? := by
    cases hl : d.data.toList with
    | nil => exact absurd hl q3
    | cons a b => rfl
  unfold Spells
  rw [data_app, hs, hh]
  refine ⟨fun b hb => ?_, ?_, by simp, .inr (q5 hu), fun _ => q5 hu⟩
  · rcases List.mem_append.1 hb with hb | hb
    · exact q1 b hb
    · obtain rfl := List.mem_singleton.1 hb
      unfold dig
      omega
  · rw [dec_append, q2]
    show u * 10 + ((UInt8.ofNat (48 + x)).toNat - 48) = u * 10 + x
    omega
theorem digits_step (v : Nat) (hb : v < 9223372036854775808) (k : Nat) : keystoneref04_Digits.f (k + 1) (v : Int) = if v < 10 then some (strOfNums [((48 + v % 10 : Nat) : Int)]) else (keystoneref04_Digits.f k ((v / 10 : Nat) : Int)).bind fun t366 => (if t366.size + 1 ≤ 9223372036854775807 then (some (t366 ++ strOfNums [((48 + v % 10 : Nat) : Int)])) else none) := by
  have hz := (one_digit (v % 10) (by omega)).2.2
  have e1 : Int.tmod (v : Int) 10 = ((v % 10 : Nat) : Int) := by rw [Int.tmod_eq_emod_of_nonneg (Int.natCast_nonneg _)]; rfl
  have e2 : Int.tdiv (v : Int) 10 = ((v / 10 : Nat) : Int) := by rw [Int.tdiv_eq_ediv_of_nonneg (Int.natCast_nonneg _)]; rfl
  have hm : (wrap64 (48 + (Int.tmod (v : Int) 10))) % 256 = ((48 + v % 10 : Nat) : Int) := by
    rw [e1, w64 _ (by omega) (by omega)]
    omega
  have hw : wrap64 (Int.tdiv (v : Int) 10) = ((v / 10 : Nat) : Int) := by rw [e2, w64 _ (by omega) (by omega)]
  rw [keystoneref04_Digits.f.eq_2, if_neg (show ¬ (v : Int) < 0 by omega), Option.bind_some, hm, hw, hz]
  by_cases h10 : v < 10
  · rw [if_neg (show ¬ (v : Int) ≥ 10 by omega), if_pos h10]
  · rw [if_pos (show (v : Int) ≥ 10 by omega), if_neg h10]
theorem digits_of (n : Nat) : ∀ v : Nat, v < 10 ^ (n + 1) → v < 9223372036854775808 → n ≤ 1000 → ∃ d : ByteArray, (∃ k, keystoneref04_Digits.f k (v : Int) = some d) ∧ Spells d v ∧ d.size ≤ n + 1 := by
  induction n with
  | zero =>
    intro v hv hb _
    have h10 : v < 10 := by simpa using hv
    refine ⟨strOfNums [((48 + v % 10 : Nat) : Int)], ⟨0 + 1, by rw [digits_step v hb, if_pos h10]⟩, ?_, ?_⟩
    · rw [Nat.mod_eq_of_lt h10]
      exact spells_one v h10
    · rw [(one_digit (v % 10) (by omega)).2.2]
      omega
  | succ n ih =>
    intro v hv hb hn
    by_cases h10 : v < 10
    · refine ⟨strOfNums [((48 + v % 10 : Nat) : Int)], ⟨0 + 1, by rw [digits_step v hb, if_pos h10]⟩, ?_, ?_⟩
      · rw [Nat.mod_eq_of_lt h10]
        exact spells_one v h10
      · rw [(one_digit (v % 10) (by omega)).2.2]
        omega
    · have hv2 : v / 10 < 10 ^ (n + 1) := by
        rw [Nat.pow_succ] at hv
        exact Nat.div_lt_of_lt_mul (by rw [Nat.mul_comm]; exact hv)
      obtain ⟨d, ⟨k, p⟩, q1, q2⟩ := ih (v / 10) hv2 (by omega) (by omega)
      refine ⟨d ++ strOfNums [((48 + v % 10 : Nat) : Int)], ⟨k + 1, ?_⟩, ?_, ?_⟩
      · rw [digits_step v hb, if_neg h10, p, Option.bind_some, if_pos (by omega)]
      · have h := spells_more d (v / 10) (v % 10) (by omega) (by omega) q1
        rwa [show v / 10 * 10 + v % 10 = v by omega] at h
      · rw [ByteArray.size_append, (one_digit (v % 10) (by omega)).2.2]
        omega

/-! ### quoted bytes -/
def HEX : ByteArray := ⟨#[48, 49, 50, 51, 52, 53, 54, 55, 56, 57, 97, 98, 99, 100, 101, 102]⟩
def es1 (c : Int) : List Int := if c = 34 ∨ c = 92 then [92, c] else if c = 10 then [92, 110] else if c = 9 then [92, 116] else if c < 32 ∨ c > 126 then [92, 120, bt HEX (c / 16), bt HEX (Go.bits .and .u8 c 15)] else [c]
def es : List Int → List Int
  | [] => []
  | c :: l => es1 c ++ es l
def u8 (x : Int) : UInt8 := UInt8.ofNat x.toNat
theorem u8_nat (x : Int) (h0 : 0 ≤ x) (h1 : x ≤ 255) : ((u8 x).toNat : Int) = x := by
  unfold u8
  rw [UInt8.toNat_ofNat']
  omega
theorem es1_len : ∀ c : Fin 256, (es1 (c.val : Int)).length ≤ 4 ∧ 1 ≤ (es1 (c.val : Int)).length ∧ (∀ x ∈ es1 (c.val : Int), 32 ≤ x ∧ x ≤ 126) := by decide +kernel
theorem hex_two : ∀ c : Fin 256, (c.val : Int) < 32 ∨ (c.val : Int) > 126 → hexv (bt HEX ((c.val : Int) / 16)) = some (c.val / 16) ∧ hexv (bt HEX (Go.bits .and .u8 (c.val : Int) 15)) = some (c.val % 16) ∧
    0 ≤ (c.val : Int) / 16 ∧ (c.val : Int) / 16 < 16 ∧ 0 ≤ Go.bits .and .u8 (c.val : Int) 15 ∧ Go.bits .and .u8 (c.val : Int) 15 < 16 := by decide +kernel
theorem fin_of (c : Int) (h0 : 0 ≤ c) (h1 : c ≤ 255) : ∃ f : Fin 256, (f.val : Int) = c := ⟨⟨c.toNat, by omega⟩, by show ((c.toNat : Nat) : Int) = c; omega⟩
theorem es_len : ∀ l : List Int, (∀ c ∈ l, 0 ≤ c ∧ c ≤ 255) → (es l).length ≤ 4 * l.length
  | [], _ => by simp [es]
  | c :: l, h => by
    obtain ⟨f, hf⟩ := fin_of c (h c (List.mem_cons_self ..)).1 (h c (List.mem_cons_self ..)).2
    have := es1_len f
    rw [hf] at this
    have := es_len l (fun c hc => h c (List.mem_cons_of_mem _ hc))
    simp only [es, List.length_append, List.length_cons]
    omega
/-- The bytes of a text from i on, as numbers. -/
def nums (s : ByteArray) (i : Nat) : List Int := (s.data.toList.drop i).map fun b => (b.toNat : Int)
theorem nums_end (s : ByteArray) (i : Nat) (h : s.size ≤ i) : nums s i = [] := by
  unfold nums
  rw [List.drop_eq_nil_of_le (by rw [Array.length_toList]; exact h)]
  rfl
theorem nums_cons (s : ByteArray) (i : Nat) (h : i < s.size) : nums s i = bt s (i : Int) :: nums s (i + 1) := by
  have h2 : i < s.data.toList.length := by rw [Array.length_toList]; exact h
  unfold nums
  rw [List.drop_eq_getElem_cons h2, List.map_cons, Lx.bt_nat s i h]
  rfl
theorem nums_len (s : ByteArray) : (nums s 0).length = s.size := by
  unfold nums
  rw [List.length_map, List.drop_zero, Array.length_toList]
  rfl
theorem nums_in (s : ByteArray) (i : Nat) : ∀ c ∈ nums s i, 0 ≤ c ∧ c ≤ 255 := by
  intro c hc
  obtain ⟨b, _, rfl⟩ := List.mem_map.1 hc
  have := b.toNat_lt
  omega
theorem str_nums (s : ByteArray) : strOfNums (nums s 0) = s := by
  apply bytes_ext
  unfold strOfNums nums
  rw [List.drop_zero, List.map_map]
  refine (List.map_congr_left (fun b _ => ?_)).trans (List.map_id _)
  show UInt8.ofNat ((b.toNat : Int)).toNat = b
  rw [Int.toNat_natCast, UInt8.ofNat_toNat]
theorem str_data (l : List Int) : (strOfNums l).data.toList = l.map u8 := by
  unfold strOfNums u8
  simp
theorem nums_str (l : List Int) (h : ∀ c ∈ l, 0 ≤ c ∧ c ≤ 255) : nums (strOfNums l) 0 = l := by
  unfold nums
  rw [List.drop_zero, str_data, List.map_map]
  refine (List.map_congr_left (fun c hc => ?_)).trans (List.map_id l)
  exact u8_nat c (h c hc).1 (h c hc).2
theorem str_size (l : List Int) : (strOfNums l).size = l.length := by
  have h : (strOfNums l).data.toList.length = l.length := by rw [str_data, List.length_map]
  rw [Array.length_toList] at h
  exact h
theorem quote_loop (b : ByteArray) (hb : b.size ≤ 4096) : ∀ (n i : Nat) (acc : List Int), i + n = b.size → acc.length ≤ 1 + 4 * i → ∃ k, lexis_Quote.l0 k b acc (b.size : Int) (i : Int) = some (strOfNums (acc ++ (es (nums b i) ++ [34])), 0)
  | 0, i, acc, h, hl => by
    refine ⟨0 + 1, ?_⟩
    rw [lexis_Quote.l0.eq_2, if_neg (by omega), if_pos (by omega), nums_end b i (by omega)]
    rfl
  | n + 1, i, acc, h, hl => by
    have hr := bt_range b (i : Int)
    have hnc := nums_cons b i (by omega)
    obtain ⟨f, hf⟩ := fin_of (bt b (i : Int)) hr.1 hr.2
    have hlen := es1_len f
    rw [hf] at hlen
    obtain ⟨k, p⟩ := quote_loop b hb n (i + 1) (acc ++ es1 (bt b (i : Int))) (by omega) (by rw [List.length_append]; omega)
    rw [List.append_assoc] at p
    have E : es (nums b i) ++ [34] = es1 (bt b (i : Int)) ++ (es (nums b (i + 1)) ++ [34]) := by rw [hnc]; simp [es]
    have cw := wsucc i (by omega)
    refine ⟨k + 1 + 1, ?_⟩
    rw [lexis_Quote.l0.eq_2, if_pos (by omega), if_pos (Int.natCast_nonneg _), if_pos (by omega), E, ← p]
    generalize hc : bt b (i : Int) = c at hr hf hlen
    unfold es1
    by_cases h34 : c = 34
    · rw [if_pos h34, lexis_Quote.j1.eq_2, if_pos rfl, Option.bind_some, if_pos (by simp only [List.length_cons, List.length_nil]; omega), cw, if_pos (.inl h34)]
    · rw [if_neg h34]
      by_cases h92 : c = 92
      · rw [lexis_Quote.j1.eq_2, if_pos (by rw [h92]; rfl), Option.bind_some, if_pos (by simp only [List.length_cons, List.length_nil]; omega), cw, if_pos (.inr h92)]
      · rw [lexis_Quote.j1.eq_2, if_neg (by simpa using h92), if_neg (show ¬ (c = 34 ∨ c = 92) by omega)]
        by_cases h10 : c = 10
        · rw [if_pos h10, if_pos h10, if_pos (by omega), cw]
          rfl
        · rw [if_neg h10, if_neg h10]
          by_cases h9 : c = 9
          · rw [if_pos h9, if_pos h9, if_pos (by omega), cw]
            rfl
          · rw [if_neg h9, if_neg h9]
            have hx := hex_two f
            rw [hf] at hx
            by_cases h32 : c < 32
            · obtain ⟨_, _, x1, x2, x3, x4⟩ := hx (.inl h32)
              rw [if_pos h32, if_pos x1, if_pos x2, if_pos x3, if_pos x4, Option.bind_some, if_pos (by simp only [List.length_cons, List.length_nil]; omega), cw, if_pos (.inl h32)]
              rfl
            · rw [if_neg h32]
              by_cases h126 : c > 126
              · obtain ⟨_, _, x1, x2, x3, x4⟩ := hx (.inr h126)
                rw [if_pos h126, if_pos x1, if_pos x2, if_pos x3, if_pos x4, Option.bind_some, if_pos (by simp only [List.length_cons, List.length_nil]; omega), cw, if_pos (.inr h126)]
                rfl
              · rw [if_neg h126, if_pos (by omega), cw, if_neg (show ¬ (c < 32 ∨ c > 126) by omega)]
theorem quote_of (b : ByteArray) (hb : b.size ≤ 4096) : ∃ k, lexis_Quote.f k b = some (strOfNums ([34] ++ (es (nums b 0) ++ [34])), 0) := by
  obtain ⟨k, p⟩ := quote_loop b hb b.size 0 [34] (by omega) (by simp)
  refine ⟨k, ?_⟩
  rw [lexis_Quote.f, if_neg (by omega)]
  exact p
/-- What is quoted is read. -/
theorem rd_of_at (s : ByteArray) : ∀ (bs : List Int) (p : Nat), (∀ c ∈ bs, 0 ≤ c ∧ c ≤ 255) → At s p ((es bs ++ [34]).map u8) → Rd s p bs (p + (es bs).length + 1)
  | [], p, _, h => by
    obtain ⟨h1, h2⟩ := at_head h
    exact .fin p h1 h2
  | c :: bs, p, hc, h => by
    have hc0 := hc c (List.mem_cons_self ..)
    obtain ⟨f, hf⟩ := fin_of c hc0.1 hc0.2
    have hlen := es1_len f
    rw [hf] at hlen
    simp only [es, List.append_assoc, List.map_append] at h
    have ht : At s (p + (es1 c).length) ((es bs ++ [34]).map u8) := by
      have := at_app h
      rw [List.length_map] at this
      rw [List.map_append]
      exact this
    have ih := rd_of_at s bs (p + (es1 c).length) (fun c hc2 => hc c (List.mem_cons_of_mem _ hc2)) ht
    have hl := at_left h
    have G : ∀ (j : Nat) (x : Int), (es1 c)[j]? = some x → p + j < s.size ∧ bt s ((p + j : Nat) : Int) = x := fun j x hx => by
      have hb := hlen.2.2 x (List.mem_of_getElem? hx)
      obtain ⟨a1, a2⟩ := at_get hl j (u8 x) (by rw [List.getElem?_map, hx]; rfl)
      rw [u8_nat x (by omega) (by omega)] at a2
      exact ⟨a1, a2⟩
    simp only [es, List.length_append]
    rw [show p + ((es1 c).length + (es bs).length) + 1 = p + (es1 c).length + (es bs).length + 1 by omega]
    have hx := hex_two f
    rw [hf] at hx
    by_cases h1 : c = 34 ∨ c = 92
    · have e : es1 c = [92, c] := by unfold es1; rw [if_pos h1]
      rw [e] at G ih ⊢
      obtain ⟨a1, a2⟩ := G 0 92 rfl
      obtain ⟨b1, b2⟩ := G 1 c rfl
      exact .esc p (p + 2) c bs _ a1 a2 (.self b1 b2 h1) ih
    by_cases h2 : c = 10
    · have e : es1 c = [92, 110] := by unfold es1; rw [if_neg h1, if_pos h2]
      rw [e] at G ih ⊢
      obtain ⟨a1, a2⟩ := G 0 92 rfl
      obtain ⟨b1, b2⟩ := G 1 110 rfl
      subst h2
      exact .esc p (p + 2) 10 bs _ a1 a2 (.nl b1 b2) ih
    by_cases h3 : c = 9
    · have e : es1 c = [92, 116] := by unfold es1; rw [if_neg h1, if_neg h2, if_pos h3]
      rw [e] at G ih ⊢
      obtain ⟨a1, a2⟩ := G 0 92 rfl
      obtain ⟨b1, b2⟩ := G 1 116 rfl
      subst h3
      exact .esc p (p + 2) 9 bs _ a1 a2 (.tab b1 b2) ih
    by_cases h4 : c < 32 ∨ c > 126
    · have e : es1 c = [92, 120, bt HEX (c / 16), bt HEX (Go.bits .and .u8 c 15)] := by unfold es1; rw [if_neg h1, if_neg h2, if_neg h3, if_pos h4]
      rw [e] at G ih ⊢
      obtain ⟨a1, a2⟩ := G 0 92 rfl
      obtain ⟨b1, b2⟩ := G 1 120 rfl
      obtain ⟨d1, d2⟩ := G 2 _ rfl
      obtain ⟨e1, e2⟩ := G 3 _ rfl
      obtain ⟨x1, x2, _⟩ := hx h4
      have hv : ((f.val / 16 * 16 + f.val % 16 : Nat) : Int) = c := by rw [← hf]; omega
      have hesc := Esc.hex (s := s) (i := p + 1) (f.val / 16) (f.val % 16) (by omega) b2 (by rw [show p + 1 + 1 = p + 2 by omega, d2]; exact x1) (by rw [show p + 1 + 2 = p + 3 by omega, e2]; exact x2)
      rw [hv] at hesc
      exact .esc p (p + 4) c bs _ a1 a2 hesc ih
    · have e : es1 c = [c] := by unfold es1; rw [if_neg h1, if_neg h2, if_neg h3, if_neg h4]
      rw [e] at G ih ⊢
      obtain ⟨a1, a2⟩ := G 0 c rfl
      exact .plain p c bs _ a1 a2 (by omega) (by omega) (by omega) (by omega) ih
end Go.Proofs.YtmloklmcoedciaaDoor.Pure.Sp
