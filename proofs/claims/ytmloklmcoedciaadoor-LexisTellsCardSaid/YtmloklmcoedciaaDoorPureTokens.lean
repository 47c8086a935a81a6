/- The plain part of the laws over Tokens: the program's tokens are the document's. Condition: a text of at most 65536 bytes, where it is said. -/
import Derived.Test.YtmloklmcoedciaaDoorKAx6
import Derived.Test.YtmloklmcoedciaaDoorKAx10
import Derived.Laws.Strings
import Derived.IntWalk
import Derived.Lib.ParseIntBCases
namespace Go.Proofs.YtmloklmcoedciaaDoor.Pure.Tok
open Go.RowKit Go.Proofs.YtmloklmcoedciaaDoor.KA Go.Proofs.YtmloklmcoedciaaDoorW.PrintWords Go.Proofs.YtmloklmcoedciaaDoorW.PrintLast

theorem w64 (x : Int) (h0 : -9223372036854775808 ≤ x) (h1 : x < 9223372036854775808) : wrap64 x = x := by
  unfold wrap64
  omega
theorem w32_bt (s : ByteArray) (i : Int) : wrap32 (bt s i) = bt s i := by
  have := bt_range s i
  unfold wrap32
  omega
/-- More rounds tell the same. -/
theorem up_le {α : Type} {f : Nat → Option α} (h : ∀ k, LeO (f k) (f (k + 1))) {m : Nat} {r : α} (e : f m = some r) : ∀ d, f (m + d) = some r
  | 0 => e
  | d + 1 => h (m + d) r (up_le h e d)
theorem up_to {α : Type} {f : Nat → Option α} (h : ∀ k, LeO (f k) (f (k + 1))) {m n : Nat} {r : α} (e : f m = some r) (hn : m ≤ n) : f n = some r := by
  have := up_le h e (n - m)
  rwa [show m + (n - m) = n by omega] at this

/-! ### blanks -/
theorem blank_is (c : Int) : keystoneref12_blank.f c = some (decide (c = 32 ∨ c = 9 ∨ c = 10 ∨ c = 13)) := by
  unfold keystoneref12_blank.f
  by_cases h1 : c = 32
  · simp [h1]
  · by_cases h2 : c = 9
    · simp [h2]
    · by_cases h3 : c = 10
      · simp [h3]
      · by_cases h4 : c = 13 <;> simp [h1, h2, h3, h4]
theorem skip_both (s : ByteArray) (hs : s.size ≤ 140737488351232) : ∀ (n i : Nat), i + n = s.size →
    (∃ k, keystoneref12_skip.l0 k s (i : Int) = some (Lx.skipP s i : Int)) ∧ (∃ k, keystoneref12_skip.l1 k s (i : Int) = some (Lx.skipN s true (s.size - i) i : Int))
  | 0, i, h => by
    have e0 : ∃ k, keystoneref12_skip.l0 k s (i : Int) = some (Lx.skipP s i : Int) := by
      refine ⟨2, ?_⟩
      simp only [keystoneref12_skip.l0, keystoneref12_skip.j1]
      rw [if_neg (by omega), Lx.skipP_end s i (by omega)]
      simp
    refine ⟨e0, ?_⟩
    obtain ⟨k, e⟩ := e0
    refine ⟨k + 1, ?_⟩
    simp only [keystoneref12_skip.l1]
    rw [if_neg (by omega), e, Lx.skipP_end s i (by omega), show s.size - i = 0 by omega]
    rfl
  | n + 1, i, h => by
    obtain ⟨⟨k0, e0⟩, ⟨k1, e1⟩⟩ := skip_both s hs n (i + 1) (by omega)
    have hi : i < s.size := by omega
    have c0 : (i : Int) < (s.size : Int) := by omega
    have c1 : (0 : Int) ≤ (i : Int) := by omega
    have cw : wrap64 ((i : Int) + 1) = ((i + 1 : Nat) : Int) := by rw [w64 _ (by omega) (by omega)]; omega
    have z0 : ∃ k, keystoneref12_skip.l0 k s (i : Int) = some (Lx.skipP s i : Int) := by
      by_cases hb : bt s (i : Int) = 32 ∨ bt s (i : Int) = 9 ∨ bt s (i : Int) = 10 ∨ bt s (i : Int) = 13
      · refine ⟨k0 + 1 + 1, ?_⟩
        have h35 : ¬ bt s (i : Int) = 35 := by omega
        simp only [keystoneref12_skip.l0, keystoneref12_skip.j1]
        rw [if_pos c0, if_pos c1, blank_is]
        simp only [Option.bind_some]
        rw [if_pos (decide_eq_true hb), if_pos trivial, if_pos c1, if_pos c0, if_neg h35, cw, e0, Lx.skipP_blank s i hi hb]
      · by_cases h35 : bt s (i : Int) = 35
        · refine ⟨k1 + 1 + 1 + 1, ?_⟩
          have h10 : ¬ bt s (i : Int) = 10 := by omega
          simp only [keystoneref12_skip.l0, keystoneref12_skip.j1, keystoneref12_skip.l1]
          rw [if_pos c0, if_pos c1, blank_is]
          simp only [Option.bind_some]
          rw [if_neg (by simp [hb]), if_pos (by simp [h35]), if_pos c1, if_pos c0, if_pos h35, if_pos c0, if_pos c1, if_neg h10, cw, e1, Lx.skipP_remark s i hi h35]
          rw [Lx.left_succ hi]
          simp only [Lx.skipN]
          rw [if_neg h10]
        · refine ⟨0 + 1 + 1, ?_⟩
          simp only [keystoneref12_skip.l0, keystoneref12_skip.j1]
          rw [if_pos c0, if_pos c1, blank_is]
          simp only [Option.bind_some]
          rw [if_neg (by simp [hb]), if_neg (by simp [h35]), Lx.skipP_stop s i hi hb h35]
    refine ⟨z0, ?_⟩
    obtain ⟨k, e⟩ := z0
    by_cases h10 : bt s (i : Int) = 10
    · refine ⟨k + 1, ?_⟩
      simp only [keystoneref12_skip.l1]
      rw [if_pos c0, if_pos c1, if_pos h10, e, Lx.left_succ hi]
      simp only [Lx.skipN]
      rw [if_pos h10, Lx.skipP_blank s i hi (.inr (.inr (.inl h10)))]
      rfl
    · refine ⟨k1 + 1, ?_⟩
      simp only [keystoneref12_skip.l1]
      rw [if_pos c0, if_pos c1, if_neg h10, cw, e1, Lx.left_succ hi]
      simp only [Lx.skipN]
      rw [if_neg h10]

/-! ### names -/
theorem inner_some (c : Int) : ∃ b, keystoneref12_inner.f c = some b := by
  have h1 : ∃ b, keystoneref12_low.f c = some b := by unfold keystoneref12_low.f; split <;> simp
  have h2 : ∃ b, keystoneref12_digit.f c = some b := by unfold keystoneref12_digit.f; split <;> simp
  obtain ⟨b1, h1⟩ := h1
  obtain ⟨b2, h2⟩ := h2
  unfold keystoneref12_inner.f
  rw [h1, h2]
  cases b1 <;> cases b2 <;> exact ⟨_, rfl⟩
theorem name_run (s : ByteArray) (hs : s.size ≤ 140737488351232) (p : Int) (x : Int) (f0 : Int) (f1 : ByteArray) (f2 f3 : Int) (f4 : Bool) (f5 : ByteArray) (f6 : CPt) (f7 : Int) : ∀ (n i : Nat), i + n = s.size →
    ∃ q : Nat, i ≤ q ∧ q ≤ s.size ∧ (∃ k, lexis_reader_run_29.l0 k (i : Int) s x = some ((q : Int), s, x)) ∧
      ∀ r, (∃ k, keystoneref12_one.j1 k s p (q : Int) f0 f1 f2 f3 f4 f5 f6 f7 = some r) → ∃ k, keystoneref12_one.l0 k s p (i : Int) f0 f1 f2 f3 f4 f5 f6 f7 = some r
  | 0, i, h => by
    refine ⟨i, Nat.le_refl _, by omega, ⟨1, ?_⟩, fun r ⟨k, e⟩ => ⟨k + 1, ?_⟩⟩
    · simp only [lexis_reader_run_29.l0]
      rw [if_neg (by omega)]
    · simp only [keystoneref12_one.l0]
      rw [if_neg (by omega), e]
  | n + 1, i, h => by
    have c0 : (i : Int) < (s.size : Int) := by omega
    have c1 : (0 : Int) ≤ (i : Int) := by omega
    have cw : wrap64 ((i : Int) + 1) = ((i + 1 : Nat) : Int) := by rw [w64 _ (by omega) (by omega)]; omega
    obtain ⟨b, hb⟩ := inner_some (bt s (i : Int))
    have hb2 : lexis_inner.f (wrap32 (bt s (i : Int))) = some b := by rw [w32_bt]; exact hb
    cases b with
    | true =>
      obtain ⟨q, h1, h2, ⟨k, e⟩, h4⟩ := name_run s hs p x f0 f1 f2 f3 f4 f5 f6 f7 n (i + 1) (by omega)
      refine ⟨q, by omega, h2, ⟨k + 1, ?_⟩, fun r hr => ?_⟩
      · simp only [lexis_reader_run_29.l0]
        rw [if_pos c0, if_pos c1, hb2]
        simp only [Option.bind_some, if_true]
        rw [cw, e]
      · obtain ⟨k2, e2⟩ := h4 r hr
        refine ⟨k2 + 1, ?_⟩
        simp only [keystoneref12_one.l0]
        rw [if_pos c0, if_pos c1, hb]
        simp only [Option.bind_some, if_true]
        rw [cw, e2]
    | false =>
      refine ⟨i, Nat.le_refl _, by omega, ⟨1, ?_⟩, fun r ⟨k, e⟩ => ⟨k + 1, ?_⟩⟩
      · simp only [lexis_reader_run_29.l0]
        rw [if_pos c0, if_pos c1, hb2]
        simp
      · simp only [keystoneref12_one.l0]
        rw [if_pos c0, if_pos c1, hb]
        simp [e]

/-! ### whole numbers -/
/-- The bytes from i to q. -/
def seg (s : ByteArray) (i q : Nat) : List UInt8 := (s.data.toList.drop i).take (q - i)
theorem seg_nil (s : ByteArray) (i : Nat) : seg s i i = [] := by simp [seg]
theorem seg_cons (s : ByteArray) (i q : Nat) (h : i < s.size) (hq : i < q) : seg s i q = s[i] :: seg s (i + 1) q := by
  have h2 : i < s.data.toList.length := by rw [Array.length_toList]; exact h
  unfold seg
  rw [List.drop_eq_getElem_cons h2, show q - i = (q - (i + 1)) + 1 by omega, List.take_succ_cons]
  rfl
theorem extract_seg (s : ByteArray) (p q : Nat) : (s.extract p q).data.toList = seg s p q := by
  simp [seg, ByteArray.data_extract]
def dig (b : UInt8) : Prop := 48 ≤ b.toNat ∧ b.toNat ≤ 57
/-- What digits spell behind a number. -/
def dec : Nat → List UInt8 → Nat
  | a, [] => a
  | a, c :: r => dec (a * 10 + (c.toNat - 48)) r
theorem dec_ge : ∀ (l : List UInt8) (a : Nat), a ≤ dec a l
  | [], _ => Nat.le_refl _
  | c :: r, a => Nat.le_trans (by omega) (dec_ge r (a * 10 + (c.toNat - 48)))
theorem parseM_digits : ∀ (l : List UInt8) (acc : Nat), (∀ b ∈ l, dig b) → acc ≤ 18446744073709551615 →
    Lib.parseUintM 18446744073709551615 acc l = if dec acc l ≤ 18446744073709551615 then .ok (dec acc l) else .range
  | [], acc, _, h => by
    show Lib.NumEnd.ok acc = if acc ≤ 18446744073709551615 then .ok acc else .range
    rw [if_pos h]
  | c :: r, acc, hd, h => by
    have hc : dig c := hd c (List.mem_cons_self ..)
    unfold dig at hc
    rw [show dec acc (c :: r) = dec (acc * 10 + (c.toNat - 48)) r from rfl]
    simp only [Lib.parseUintM]
    rw [if_pos hc]
    have hge := dec_ge r (acc * 10 + (c.toNat - 48))
    by_cases h1 : 1844674407370955162 ≤ acc
    · rw [if_pos h1, if_neg (by omega)]
    · rw [if_neg h1]
      by_cases h2 : 18446744073709551615 < acc * 10 + (c.toNat - 48)
      · rw [if_pos h2, if_neg (by omega)]
      · rw [if_neg h2]
        exact parseM_digits r _ (fun b hb => hd b (List.mem_cons_of_mem _ hb)) (by omega)
theorem parse_digits (l : List UInt8) (hl : l ≠ []) (hd : ∀ b ∈ l, dig b) : Lib.parseIntB 64 l = if dec 0 l < 9223372036854775808 then .ok (dec 0 l : Int) else .range := by
  cases l with
  | nil => exact absurd rfl hl
  | cons c r =>
    have hc : dig c := hd c (List.mem_cons_self ..)
    unfold dig at hc
    rw [Lib.parseIntB_plain 64 c r (by omega) (by omega)]
    unfold Lib.parseUintB
    rw [if_neg (by simp), show (2 : Nat) ^ 64 - 1 = 18446744073709551615 from rfl, parseM_digits _ 0 hd (by omega)]
    by_cases h1 : dec 0 (c :: r) ≤ 18446744073709551615
    · rw [if_pos h1]
      simp only [Lib.signlessC]
      rw [show (2 : Nat) ^ (64 - 1) = 9223372036854775808 from rfl]
      by_cases h2 : dec 0 (c :: r) < 9223372036854775808
      · rw [if_pos h2, if_neg (by omega)]
      · rw [if_neg h2, if_pos (by omega)]
    · rw [if_neg h1, if_neg (by omega)]
      rfl
/-- The document's running number: exact while it fits. -/
def Fits (acc : Nat) (x7 : Int) (x8 : Bool) : Prop := (x8 = true ∧ x7 = (acc : Int) ∧ acc < 9223372036854775808) ∨ (x8 = false ∧ 9223372036854775808 ≤ acc)
def stops (s : ByteArray) (q : Nat) : Prop := q = s.size ∨ keystoneref12_digit.f (bt s (q : Int)) = some false
theorem digit_is (c : Int) : keystoneref12_digit.f c = some (decide (48 ≤ c ∧ c ≤ 57)) := by
  unfold keystoneref12_digit.f
  by_cases h : c ≥ 48
  · rw [if_pos h]
    simp [show (48 : Int) ≤ c from h]
  · rw [if_neg h]
    simp [show ¬ (48 : Int) ≤ c from h]
theorem u64_in (x : Int) (h0 : 0 ≤ x) (h1 : x < 18446744073709551616) : IntKind.u64.wrap x = x := IntWalk.u64_in x (by omega)
theorem int_run (s : ByteArray) (hs : s.size ≤ 140737488351232) (p : Int) (x : Int) : ∀ (n i acc : Nat) (x7 : Int) (x8 : Bool), i + n = s.size → Fits acc x7 x8 →
    ∃ q : Nat, i ≤ q ∧ q ≤ s.size ∧ (∃ k, lexis_reader_run_43.l0 k (i : Int) s x = some ((q : Int), s, x)) ∧ (∀ b ∈ seg s i q, dig b) ∧ stops s q ∧
      ∃ y7 y8, Fits (dec acc (seg s i q)) y7 y8 ∧ ∀ r, (∃ k, keystoneref12_whole.j1 k s p y7 y8 (q : Int) false = some r) → ∃ k, keystoneref12_whole.l0 k s p x7 x8 (i : Int) = some r
  | 0, i, acc, x7, x8, h, hf => by
    refine ⟨i, Nat.le_refl _, by omega, ⟨1, ?_⟩, by rw [seg_nil]; simp, .inl (by omega), x7, x8, by rw [seg_nil]; exact hf, fun r ⟨k, e⟩ => ⟨k + 1, ?_⟩⟩
    · simp only [lexis_reader_run_43.l0]
      rw [if_neg (by omega)]
    · simp only [keystoneref12_whole.l0]
      rw [if_neg (by omega), e]
  | n + 1, i, acc, x7, x8, h, hf => by
    have hi : i < s.size := by omega
    have c0 : (i : Int) < (s.size : Int) := by omega
    have c1 : (0 : Int) ≤ (i : Int) := by omega
    have cw : wrap64 ((i : Int) + 1) = ((i + 1 : Nat) : Int) := by rw [w64 _ (by omega) (by omega)]; omega
    have hbt := Lx.bt_nat s i hi
    have hb := digit_is (bt s (i : Int))
    have hb2 : lexis_digit.f (wrap32 (bt s (i : Int))) = some (decide (48 ≤ bt s (i : Int) ∧ bt s (i : Int) ≤ 57)) := by rw [w32_bt]; exact hb
    by_cases hd : 48 ≤ bt s (i : Int) ∧ bt s (i : Int) ≤ 57
    · rw [decide_eq_true hd] at hb hb2
      have hdn : 48 ≤ (s[i]).toNat ∧ (s[i]).toNat ≤ 57 := by rw [hbt] at hd; omega
      have hv : (bt s (i : Int) - 48) % 256 = (((s[i]).toNat - 48 : Nat) : Int) := by rw [hbt]; omega
      have step : ∃ z7 z8, Fits (acc * 10 + ((s[i]).toNat - 48)) z7 z8 ∧ ∀ r, (∃ k, keystoneref12_whole.l0 k s p z7 z8 ((i + 1 : Nat) : Int) = some r) → ∃ k, keystoneref12_whole.l0 k s p x7 x8 (i : Int) = some r := by
        rcases hf with ⟨rfl, rfl, ha⟩ | ⟨rfl, ha⟩
        · by_cases hbig : (acc : Int) > 922337203685477580
          · refine ⟨IntKind.u64.wrap (IntKind.u64.wrap ((acc : Int) * 10) + (bt s (i : Int) - 48) % 256), false, .inr ⟨rfl, by omega⟩, fun r ⟨k, e⟩ => ⟨k + 1 + 1, ?_⟩⟩
            · simp only [keystoneref12_whole.l0, keystoneref12_whole.j1]
              rw [if_pos c0, if_pos c1, hb]
              simp only [Option.bind_some]
              rw [if_pos trivial, if_pos hbig, if_pos c1, if_pos c0, cw]
              exact e
          · have e1 : IntKind.u64.wrap (IntKind.u64.wrap ((acc : Int) * 10) + (bt s (i : Int) - 48) % 256) = ((acc * 10 + ((s[i]).toNat - 48) : Nat) : Int) := by
              rw [hv, u64_in ((acc : Int) * 10) (by omega) (by omega), u64_in _ (by omega) (by omega)]
              omega
            refine ⟨((acc * 10 + ((s[i]).toNat - 48) : Nat) : Int), decide (((acc * 10 + ((s[i]).toNat - 48) : Nat) : Int) < 9223372036854775808), ?_, fun r ⟨k, e⟩ => ⟨k + 1 + 1, ?_⟩⟩
            · by_cases hlt : ((acc * 10 + ((s[i]).toNat - 48) : Nat) : Int) < 9223372036854775808
              · exact .inl ⟨decide_eq_true hlt, rfl, by omega⟩
              · exact .inr ⟨decide_eq_false hlt, by omega⟩
            · simp only [keystoneref12_whole.l0, keystoneref12_whole.j1]
              rw [if_pos c0, if_pos c1, hb]
              simp only [Option.bind_some]
              rw [if_pos trivial, if_neg hbig, if_pos c1, if_pos c0, if_pos trivial, cw, e1]
              exact e
        · by_cases hbig : x7 > 922337203685477580
          · refine ⟨IntKind.u64.wrap (IntKind.u64.wrap (x7 * 10) + (bt s (i : Int) - 48) % 256), false, .inr ⟨rfl, by omega⟩, fun r ⟨k, e⟩ => ⟨k + 1 + 1, ?_⟩⟩
            · simp only [keystoneref12_whole.l0, keystoneref12_whole.j1]
              rw [if_pos c0, if_pos c1, hb]
              simp only [Option.bind_some]
              rw [if_pos trivial, if_pos hbig, if_pos c1, if_pos c0, cw]
              exact e
          · refine ⟨IntKind.u64.wrap (IntKind.u64.wrap (x7 * 10) + (bt s (i : Int) - 48) % 256), false, .inr ⟨rfl, by omega⟩, fun r ⟨k, e⟩ => ⟨k + 1 + 1, ?_⟩⟩
            · simp only [keystoneref12_whole.l0, keystoneref12_whole.j1]
              rw [if_pos c0, if_pos c1, hb]
              simp only [Option.bind_some]
              rw [if_pos trivial, if_neg hbig, if_pos c1, if_pos c0, if_neg (by simp), cw]
              exact e
      obtain ⟨z7, z8, hz, hstep⟩ := step
      obtain ⟨q, h1, h2, ⟨k, e⟩, h4, h5, y7, y8, h6, h7⟩ := int_run s hs p x n (i + 1) _ z7 z8 (by omega) hz
      have hsc := seg_cons s i q hi (by omega)
      refine ⟨q, by omega, h2, ⟨k + 1, ?_⟩, ?_, h5, y7, y8, ?_, fun r hr => hstep r (h7 r hr)⟩
      · simp only [lexis_reader_run_43.l0]
        rw [if_pos c0, if_pos c1, hb2]
        simp only [Option.bind_some, if_true]
        rw [cw, e]
      · rw [hsc]
        intro b hb3
        rcases List.mem_cons.1 hb3 with rfl | hb3
        · exact hdn
        · exact h4 b hb3
      · rw [hsc]
        exact h6
    · rw [decide_eq_false hd] at hb hb2
      refine ⟨i, Nat.le_refl _, by omega, ⟨1, ?_⟩, by rw [seg_nil]; simp, .inr hb, x7, x8, by rw [seg_nil]; exact hf, fun r ⟨k, e⟩ => ⟨k + 1, ?_⟩⟩
      · simp only [lexis_reader_run_43.l0]
        rw [if_pos c0, if_pos c1, hb2]
        simp
      · simp only [keystoneref12_whole.l0]
        rw [if_pos c0, if_pos c1, hb]
        simp [e]

/-! ### bytes between quotes -/
theorem byte_in (s : ByteArray) (x : Int) (i : Nat) (h : i < s.size) : lexis_reader_byte.f s x (i : Int) = some (bt s (i : Int), s, x) := by
  unfold lexis_reader_byte.f
  rw [if_pos (by omega), if_pos (by omega), w32_bt]
theorem byte_out (s : ByteArray) (x : Int) (i : Nat) (h : s.size ≤ i) : lexis_reader_byte.f s x (i : Int) = some (0, s, x) := by
  unfold lexis_reader_byte.f
  rw [if_neg (by omega)]
theorem ldigit_is (c : Int) : lexis_digit.f c = some (decide (48 ≤ c ∧ c ≤ 57)) := digit_is c
theorem w32_in (x : Int) (h0 : -2147483648 ≤ x) (h1 : x < 2147483648) : wrap32 x = x := by
  unfold wrap32
  omega
theorem hex_same (c : Int) (h0 : 0 ≤ c) (h1 : c ≤ 255) : (∃ v : Nat, v < 16 ∧ lexis_hex.f c = some true ∧ lexis_value.f c = some (v : Int) ∧ keystoneref12_hex.f c = some (v : Int)) ∨ (lexis_hex.f c = some false ∧ keystoneref12_hex.f c = some (-1)) := by
  unfold lexis_hex.f lexis_value.f keystoneref12_hex.f
  rw [ldigit_is, digit_is]
  simp only [Option.bind_some]
  by_cases hd : 48 ≤ c ∧ c ≤ 57
  · refine .inl ⟨(c - 48).toNat, by omega, ?_, ?_, ?_⟩
    · rw [if_pos (decide_eq_true hd)]
    · rw [if_pos (decide_eq_true hd), w32_in _ (by omega) (by omega)]
      congr 1
      omega
    · rw [if_pos (decide_eq_true hd)]
      congr 1
      omega
  · have hn : ¬ decide (48 ≤ c ∧ c ≤ 57) = true := by simpa using hd
    simp only [if_neg hn]
    by_cases h97 : c ≥ 97
    · by_cases h102 : c ≤ 102
      · refine .inl ⟨(c - 87).toNat, by omega, ?_, ?_, ?_⟩
        · rw [if_pos h97, decide_eq_true h102]
        · rw [w32_in _ (by omega) (by omega)]
          congr 1
          omega
        · rw [if_pos h97, if_pos h102]
          congr 1
          omega
      · refine .inr ⟨?_, ?_⟩
        · rw [if_pos h97, decide_eq_false h102]
        · rw [if_pos h97, if_neg h102]
    · refine .inr ⟨?_, ?_⟩
      · rw [if_neg h97]
      · rw [if_neg h97]
theorem or_is : ∀ a b : Fin 16, Go.bits .or .u8 (((a.val : Int) * 16) % 256) (b.val : Int) = ((a.val * 16 + b.val : Nat) : Int) := by decide +kernel
theorem mn_hi (a b : Int) (h : b ≤ a) : mn a b = b := by
  unfold mn
  split <;> omega
theorem mn_lo (a b : Int) (h : a ≤ b) : mn a b = a := by
  unfold mn
  split <;> omega
theorem or_nat (v1 v2 : Nat) (h1 : v1 < 16) (h2 : v2 < 16) : Go.bits .or .u8 (((v1 : Int) * 16) % 256) (v2 : Int) = ((v1 * 16 + v2 : Nat) : Int) := or_is ⟨v1, h1⟩ ⟨v2, h2⟩
end Go.Proofs.YtmloklmcoedciaaDoor.Pure.Tok
