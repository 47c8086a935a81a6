/- The plain part of TupleReads, first text: at each place the program reads the value that the document reads. Condition: a text of at most 1048576 bytes. -/
import Derived.Test.YtdonndklddjfiaaDoorKAx5
import Derived.Test.YtdonndklddjfiaaDoorKAx8
import Derived.Laws.Strings
import Derived.IntWalk
import Derived.Lib.IndexBytes
import Derived.Lib.IndexLaws
namespace Go.Proofs.YtdonndklddjfiaaDoor.Pure.Rd
open Go.RowKit Go.Proofs.YtdonndklddjfiaaDoor.KA Go.Proofs.YtdonndklddjfiaaDoorW.PrintWords Go.Proofs.YtdonndklddjfiaaDoorW.PrintLast
set_option linter.unusedVariables false

theorem w64 (x : Int) (h0 : -9223372036854775808 ≤ x) (h1 : x < 9223372036854775808) : wrap64 x = x := by
  unfold wrap64
  omega
theorem wadd (i n : Nat) (h : i ≤ 140737488351232) (hn : n ≤ 100) : wrap64 ((i : Int) + (n : Int)) = ((i + n : Nat) : Int) := by rw [w64 _ (by omega) (by omega)]; omega
theorem up_le {α : Type} {f : Nat → Option α} (h : ∀ k, LeO (f k) (f (k + 1))) {m : Nat} {r : α} (e : f m = some r) : ∀ d, f (m + d) = some r
  | 0 => e
  | d + 1 => h (m + d) r (up_le h e d)
theorem ext_size (s : ByteArray) (a b : Nat) (h : b ≤ s.size) : (s.extract a b).size = b - a := by
  rw [ByteArray.size_extract]
  omega
theorem bt_get (s : ByteArray) (i : Nat) (b : UInt8) (h : s.data.toList[i]? = some b) : i < s.size ∧ bt s (i : Int) = (b.toNat : Int) := by
  have hi : i < s.size := by
    rcases Nat.lt_or_ge i s.size with h' | h'
    · exact h'
    · rw [List.getElem?_eq_none (by rw [Array.length_toList]; exact h')] at h
      cases h
  refine ⟨hi, ?_⟩
  have hx := bt_at s (i : Int) (by rw [Int.toNat_natCast]; exact hi)
  rw [Lib.data_getElem? s i hi] at h
  rw [← hx]
  simp only [Int.toNat_natCast]
  rw [Option.some.inj h]
theorem ext_at (s : ByteArray) (a b j : Nat) (hb : b ≤ s.size) (h : a + j < b) : bt (s.extract a b) (j : Int) = bt s ((a + j : Nat) : Int) := by
  have hg := Lib.data_getElem? s (a + j) (by omega)
  rw [(bt_get s (a + j) _ hg).2]
  refine (bt_get (s.extract a b) j _ ?_).2
  have e : (s.extract a b).data.toList = (s.data.toList.drop a).take (b - a) := by simp [ByteArray.data_extract]
  rw [e, List.getElem?_take_of_lt (by omega), List.getElem?_drop, hg]
theorem ext_tail (s : ByteArray) (p n : Nat) (h : p + n ≤ s.size) : (s.extract p s.size).extract n (s.extract p s.size).size = s.extract (p + n) s.size := by
  rw [ByteArray.extract_extract, ext_size s p s.size (Nat.le_refl _)]
  congr 1
  omega

/-! ### eight bytes -/
theorem u64_in (x : Int) (h0 : 0 ≤ x) (h1 : x < 18446744073709551616) : IntKind.u64.wrap x = x := IntWalk.u64_in x (by omega)
theorem u64_range (x : Int) : 0 ≤ IntKind.u64.wrap x ∧ IntKind.u64.wrap x < 18446744073709551616 := by
  have e : IntKind.u64.wrap x = x % 18446744073709551616 := by
    simp [IntKind.wrap]
    rfl
  rw [e]
  omega
theorem u64_mod (x : Int) : IntKind.u64.wrap x = x % 18446744073709551616 := by
  simp [IntKind.wrap]
  rfl
theorem or_nat (A B : Nat) (hA : A < 72057594037927936) (hB : B < 256) : Go.bits .or .u64 ((256 * A : Nat) : Int) ((B : Nat) : Int) = ((256 * A + B : Nat) : Int) := by
  show IntKind.u64.wrap ((BitVec.ofInt 64 ((256 * A : Nat) : Int) ||| BitVec.ofInt 64 ((B : Nat) : Int)).toNat : Int) = _
  have h1 : (256 * A) ||| B = 256 * A + B := by
    have := Nat.two_pow_add_eq_or_of_lt (i := 8) (b := B) (by omega) A
    rw [show (2 : Nat) ^ 8 = 256 from rfl] at this
    exact this.symm
  rw [BitVec.ofInt_natCast, BitVec.ofInt_natCast, BitVec.toNat_or, BitVec.toNat_ofNat, BitVec.toNat_ofNat, show (2 : Nat) ^ 64 = 18446744073709551616 from rfl, Nat.mod_eq_of_lt (by omega), Nat.mod_eq_of_lt (by omega), h1]
  exact u64_in _ (by omega) (by omega)
/-- A multiple of 256 and a byte: or is their sum. -/
theorem or_add (y b : Int) (h0 : 0 ≤ b) (h1 : b ≤ 255) : Go.bits .or .u64 (IntKind.u64.wrap (y * 256)) (IntKind.u64.wrap b) = IntKind.u64.wrap (IntKind.u64.wrap (y * 256) + IntKind.u64.wrap b) := by
  have e1 : ∃ A : Nat, A < 72057594037927936 ∧ IntKind.u64.wrap (y * 256) = ((256 * A : Nat) : Int) := by
    refine ⟨((y * 256) % 18446744073709551616 / 256).toNat, by omega, ?_⟩
    rw [u64_mod]
    omega
  obtain ⟨A, hA, e1⟩ := e1
  have e2 : IntKind.u64.wrap b = ((b.toNat : Nat) : Int) := by
    rw [u64_in b h0 (by omega)]
    omega
  rw [e1, e2, or_nat A b.toNat hA (by omega), u64_in _ (by omega) (by omega)]
  omega
/-- Eight bytes from q on, one by one. -/
def acc8 (s : ByteArray) (q : Nat) : Nat → Int
  | 0 => 0
  | i + 1 => IntKind.u64.wrap (IntKind.u64.wrap (acc8 s q i * 256) + IntKind.u64.wrap (bt s ((q + i : Nat) : Int)))
theorem ref_eight (s : ByteArray) (hs : s.size ≤ 140737488351232) (q : Nat) (hq : q + 8 ≤ s.size) (f0 f1 : Int) (f2 : Bool) (f3 : ByteArray) (f4 : CPt) : ∀ (n i : Nat), i + n = 8 → ∃ k, keystoneref04_take.l0 k s (q : Int) (acc8 s q i) (i : Int) f0 f1 f2 f3 f4 = some (f0, wrap64 (IntKind.u64.wrap (acc8 s q 8 - 9223372036854775808)), f2, f3, f4, ((q + 8 : Nat) : Int))
  | 0, i, h => by
    obtain rfl : i = 8 := by omega
    refine ⟨0 + 1, ?_⟩
    rw [keystoneref04_take.l0.eq_2, if_neg (by decide), show ((q : Int) + 8) = (q : Int) + ((8 : Nat) : Int) from rfl, wadd q 8 (by omega) (by omega)]
  | n + 1, i, h => by
    obtain ⟨k, p⟩ := ref_eight s hs q hq f0 f1 f2 f3 f4 n (i + 1) (by omega)
    refine ⟨k + 1, ?_⟩
    have cw : wrap64 ((i : Int) + 1) = ((i + 1 : Nat) : Int) := wadd i 1 (by omega) (by omega)
    rw [keystoneref04_take.l0.eq_2, if_pos (by omega), wadd q i (by omega) (by omega), if_pos (Int.natCast_nonneg _), if_pos (by omega), cw]
    exact p
theorem prog_eight (s : ByteArray) (hs : s.size ≤ 140737488351232) (p : Nat) (hp : p + 9 ≤ s.size) : ∀ (n i : Nat), i + n = 8 → ∃ k, tuple_fromKey.l0 k (s.extract p s.size) (acc8 s (p + 1) i) ((i + 1 : Nat) : Int) = some (1, wrap64 (IntKind.u64.wrap (acc8 s (p + 1) 8 - 9223372036854775808)), false, ⟨#[]⟩, ⟨0, 0⟩, 9, true)
  | 0, i, h => by
    obtain rfl : i = 8 := by omega
    refine ⟨0 + 1, ?_⟩
    rw [tuple_fromKey.l0.eq_2, if_neg (by decide), tuple_Int.f, Option.bind_some]
  | n + 1, i, h => by
    obtain ⟨k, e⟩ := prog_eight s hs p hp n (i + 1) (by omega)
    refine ⟨k + 1, ?_⟩
    have hz := ext_size s p s.size (Nat.le_refl _)
    have cw : wrap64 (((i + 1 : Nat) : Int) + 1) = ((i + 1 + 1 : Nat) : Int) := wadd (i + 1) 1 (by omega) (by omega)
    have hr := bt_range s ((p + 1 + i : Nat) : Int)
    have hb : bt (s.extract p s.size) ((i + 1 : Nat) : Int) = bt s ((p + 1 + i : Nat) : Int) := by
      rw [ext_at s p s.size (i + 1) (Nat.le_refl _) (by omega), show p + (i + 1) = p + 1 + i by omega]
    rw [tuple_fromKey.l0.eq_2, if_pos (by omega), if_pos (Int.natCast_nonneg _), if_pos (by omega), hb, or_add _ _ hr.1 hr.2, cw]
    exact e

/-! ### escaped bytes -/
theorem fb1 (x : ByteArray) (hx : x.size ≤ 140737488351232) (i : Nat) (l : List Int) (hi : i < x.size) (hl : l.length ≤ i) (h0 : bt x (i : Int) ≠ 0) (k : Nat) : tuple_fromBytes.l0 (k + 1) x l (i : Int) = tuple_fromBytes.l0 k x (l ++ [bt x (i : Int)]) ((i + 1 : Nat) : Int) := by
  have cw : wrap64 ((i : Int) + 1) = ((i + 1 : Nat) : Int) := wadd i 1 (by omega) (by omega)
  have c1 : (i : Int) < (x.size : Int) := by omega
  have c3 : l.length < 140737488355328 := by omega
  rw [tuple_fromBytes.l0.eq_2, if_pos c1, if_pos (Int.natCast_nonneg _), if_neg h0, if_pos c3, cw]
theorem fb2 (x : ByteArray) (hx : x.size ≤ 140737488351232) (i : Nat) (l : List Int) (hi : i + 1 < x.size) (hl : l.length ≤ i) (h0 : bt x (i : Int) = 0) (h1 : bt x ((i + 1 : Nat) : Int) = 255) (k : Nat) : tuple_fromBytes.l0 (k + 1 + 1) x l (i : Int) = tuple_fromBytes.l0 k x (l ++ [0]) ((i + 2 : Nat) : Int) := by
  have cw : wrap64 ((i : Int) + 1) = ((i + 1 : Nat) : Int) := wadd i 1 (by omega) (by omega)
  have cw2 : wrap64 (((i + 1 : Nat) : Int) + 1) = ((i + 2 : Nat) : Int) := wadd (i + 1) 1 (by omega) (by omega)
  have c1 : (i : Int) < (x.size : Int) := by omega
  have c2 : ((i + 1 : Nat) : Int) < (x.size : Int) := by omega
  have c2' : ¬ ((i + 1 : Nat) : Int) ≥ (x.size : Int) := by omega
  have c3 : l.length < 140737488355328 := by omega
  rw [tuple_fromBytes.l0.eq_2, if_pos c1, if_pos (Int.natCast_nonneg _), if_pos h0, cw, if_neg c2', if_pos (Int.natCast_nonneg _), if_pos c2, h1, if_neg (by decide), tuple_fromBytes.j1.eq_2, if_neg (by decide), cw, if_pos (Int.natCast_nonneg _), if_pos c2, h1, if_neg (by decide), if_pos c3, cw2]
theorem fb3 (x : ByteArray) (hx : x.size ≤ 140737488351232) (i : Nat) (l : List Int) (hi : i + 1 < x.size) (h0 : bt x (i : Int) = 0) (h1 : bt x ((i + 1 : Nat) : Int) = 0) : tuple_fromBytes.l0 (0 + 1 + 1) x l (i : Int) = some (strOfNums l, ((i + 2 : Nat) : Int), true) := by
  have cw : wrap64 ((i : Int) + 1) = ((i + 1 : Nat) : Int) := wadd i 1 (by omega) (by omega)
  have cw2 : wrap64 ((i : Int) + 2) = ((i + 2 : Nat) : Int) := wadd i 2 (by omega) (by omega)
  have c1 : (i : Int) < (x.size : Int) := by omega
  have c2 : ((i + 1 : Nat) : Int) < (x.size : Int) := by omega
  have c2' : ¬ ((i + 1 : Nat) : Int) ≥ (x.size : Int) := by omega
  rw [tuple_fromBytes.l0.eq_2, if_pos c1, if_pos (Int.natCast_nonneg _), if_pos h0, cw, if_neg c2', if_pos (Int.natCast_nonneg _), if_pos c2, if_pos h1, tuple_fromBytes.j1.eq_2, if_neg (by decide), cw, if_pos (Int.natCast_nonneg _), if_pos c2, if_pos h1, cw2]
theorem fb4 (x : ByteArray) (hx : x.size ≤ 140737488351232) (i : Nat) (l : List Int) (hi : i < x.size) (h0 : bt x (i : Int) = 0) (h1 : x.size ≤ i + 1 ∨ (bt x ((i + 1 : Nat) : Int) ≠ 0 ∧ bt x ((i + 1 : Nat) : Int) ≠ 255)) : tuple_fromBytes.l0 (0 + 1 + 1) x l (i : Int) = some (⟨#[]⟩, 0, false) := by
  have cw : wrap64 ((i : Int) + 1) = ((i + 1 : Nat) : Int) := wadd i 1 (by omega) (by omega)
  have c1 : (i : Int) < (x.size : Int) := by omega
  rw [tuple_fromBytes.l0.eq_2, if_pos c1, if_pos (Int.natCast_nonneg _), if_pos h0, cw]
  by_cases he : x.size ≤ i + 1
  · rw [if_pos (show ((i + 1 : Nat) : Int) ≥ (x.size : Int) by omega), tuple_fromBytes.j1.eq_2, if_pos rfl]
  · obtain ⟨a, b⟩ := h1.resolve_left he
    have hb : (bt x ((i + 1 : Nat) : Int) != 255) = true := bne_iff_ne.2 b
    rw [if_neg (show ¬ ((i + 1 : Nat) : Int) ≥ (x.size : Int) by omega), if_pos (Int.natCast_nonneg _), if_pos (show ((i + 1 : Nat) : Int) < (x.size : Int) by omega), if_neg a, hb, tuple_fromBytes.j1.eq_2, if_pos rfl]
theorem fb5 (x : ByteArray) (i : Nat) (l : List Int) (hi : x.size ≤ i) : tuple_fromBytes.l0 (0 + 1) x l (i : Int) = some (⟨#[]⟩, 0, false) := by
  have c1 : ¬ (i : Int) < (x.size : Int) := by omega
  rw [tuple_fromBytes.l0.eq_2, if_neg c1]
theorem tk1 (s : ByteArray) (hs : s.size ≤ 140737488351232) (q : Nat) (l : List Int) (f0 f1 : Int) (f2 : Bool) (f3 : ByteArray) (f4 : CPt) (hi : q < s.size) (hl : l.length ≤ q) (h0 : bt s (q : Int) ≠ 0) (k : Nat) : keystoneref04_take.l1 (k + 1) s (q : Int) l f0 f1 f2 f3 f4 = keystoneref04_take.l1 k s ((q + 1 : Nat) : Int) (l ++ [bt s (q : Int)]) f0 f1 f2 f3 f4 := by
  have cw : wrap64 ((q : Int) + 1) = ((q + 1 : Nat) : Int) := wadd q 1 (by omega) (by omega)
  have c1 : (q : Int) < (s.size : Int) := by omega
  have c3 : l.length < 140737488355328 := by omega
  rw [keystoneref04_take.l1.eq_2, if_pos c1, if_pos (Int.natCast_nonneg _), if_neg h0, if_pos c3, cw]
theorem tk2 (s : ByteArray) (hs : s.size ≤ 140737488351232) (q : Nat) (l : List Int) (f0 f1 : Int) (f2 : Bool) (f3 : ByteArray) (f4 : CPt) (hi : q + 1 < s.size) (hl : l.length ≤ q) (h0 : bt s (q : Int) = 0) (h1 : bt s ((q + 1 : Nat) : Int) = 255) (k : Nat) : keystoneref04_take.l1 (k + 1) s (q : Int) l f0 f1 f2 f3 f4 = keystoneref04_take.l1 k s ((q + 2 : Nat) : Int) (l ++ [0]) f0 f1 f2 f3 f4 := by
  have cw : wrap64 ((q : Int) + 1) = ((q + 1 : Nat) : Int) := wadd q 1 (by omega) (by omega)
  have cw2 : wrap64 ((q : Int) + 2) = ((q + 2 : Nat) : Int) := wadd q 2 (by omega) (by omega)
  have c1 : (q : Int) < (s.size : Int) := by omega
  have c2 : ((q + 1 : Nat) : Int) < (s.size : Int) := by omega
  have c2' : ¬ ((q + 1 : Nat) : Int) ≥ (s.size : Int) := by omega
  have c3 : l.length < 140737488355328 := by omega
  rw [keystoneref04_take.l1.eq_2, if_pos c1, if_pos (Int.natCast_nonneg _), if_pos h0, cw, if_neg c2', if_pos (Int.natCast_nonneg _), if_pos c2, h1, if_neg (by decide), if_pos rfl, if_pos c3, cw2]
theorem tk3 (s : ByteArray) (hs : s.size ≤ 140737488351232) (q : Nat) (l : List Int) (f0 f1 : Int) (f2 : Bool) (f3 : ByteArray) (f4 : CPt) (hi : q + 1 < s.size) (h0 : bt s (q : Int) = 0) (h1 : bt s ((q + 1 : Nat) : Int) = 0) : keystoneref04_take.l1 (0 + 1) s (q : Int) l f0 f1 f2 f3 f4 = some (f0, f1, f2, strOfNums l, f4, ((q + 2 : Nat) : Int)) := by
  have cw : wrap64 ((q : Int) + 1) = ((q + 1 : Nat) : Int) := wadd q 1 (by omega) (by omega)
  have cw2 : wrap64 ((q : Int) + 2) = ((q + 2 : Nat) : Int) := wadd q 2 (by omega) (by omega)
  have c1 : (q : Int) < (s.size : Int) := by omega
  have c2 : ((q + 1 : Nat) : Int) < (s.size : Int) := by omega
  have c2' : ¬ ((q + 1 : Nat) : Int) ≥ (s.size : Int) := by omega
  rw [keystoneref04_take.l1.eq_2, if_pos c1, if_pos (Int.natCast_nonneg _), if_pos h0, cw, if_neg c2', if_pos (Int.natCast_nonneg _), if_pos c2, if_pos h1, cw2]
theorem tk4 (s : ByteArray) (hs : s.size ≤ 140737488351232) (q : Nat) (l : List Int) (f0 f1 : Int) (f2 : Bool) (f3 : ByteArray) (f4 : CPt) (hi : q < s.size) (h0 : bt s (q : Int) = 0) (h1 : s.size ≤ q + 1 ∨ (bt s ((q + 1 : Nat) : Int) ≠ 0 ∧ bt s ((q + 1 : Nat) : Int) ≠ 255)) : keystoneref04_take.l1 (0 + 1) s (q : Int) l f0 f1 f2 f3 f4 = some (f0, f1, f2, f3, f4, -1) := by
  have cw : wrap64 ((q : Int) + 1) = ((q + 1 : Nat) : Int) := wadd q 1 (by omega) (by omega)
  have c1 : (q : Int) < (s.size : Int) := by omega
  rw [keystoneref04_take.l1.eq_2, if_pos c1, if_pos (Int.natCast_nonneg _), if_pos h0, cw]
  by_cases he : s.size ≤ q + 1
  · rw [if_pos (show ((q + 1 : Nat) : Int) ≥ (s.size : Int) by omega)]
  · obtain ⟨a, b⟩ := h1.resolve_left he
    rw [if_neg (show ¬ ((q + 1 : Nat) : Int) ≥ (s.size : Int) by omega), if_pos (Int.natCast_nonneg _), if_pos (show ((q + 1 : Nat) : Int) < (s.size : Int) by omega), if_neg a, if_neg b]
theorem tk5 (s : ByteArray) (q : Nat) (l : List Int) (f0 f1 : Int) (f2 : Bool) (f3 : ByteArray) (f4 : CPt) (hi : s.size ≤ q) : keystoneref04_take.l1 (0 + 1) s (q : Int) l f0 f1 f2 f3 f4 = some (f0, f1, f2, f3, f4, -1) := by
  have c1 : ¬ (q : Int) < (s.size : Int) := by omega
  rw [keystoneref04_take.l1.eq_2, if_neg c1]
/-- Either side reads the same bytes and stands at the same place. -/
def BGood (s : ByteArray) (p i : Nat) (l : List Int) (f0 f1 : Int) (f2 : Bool) (f3 : ByteArray) (f4 : CPt) : Prop :=
  ∃ (bs : ByteArray) (e : Nat), i < e ∧ p + 1 + e ≤ s.size ∧ (∃ k, tuple_fromBytes.l0 k (s.extract (p + 1) s.size) l (i : Int) = some (bs, (e : Int), true)) ∧ ∃ k, keystoneref04_take.l1 k s ((p + 1 + i : Nat) : Int) l f0 f1 f2 f3 f4 = some (f0, f1, f2, bs, f4, ((p + 1 + e : Nat) : Int))
/-- Neither side reads. -/
def BBad (s : ByteArray) (p i : Nat) (l : List Int) (f0 f1 : Int) (f2 : Bool) (f3 : ByteArray) (f4 : CPt) : Prop :=
  (∃ k, tuple_fromBytes.l0 k (s.extract (p + 1) s.size) l (i : Int) = some (⟨#[]⟩, 0, false)) ∧ ∃ k, keystoneref04_take.l1 k s ((p + 1 + i : Nat) : Int) l f0 f1 f2 f3 f4 = some (f0, f1, f2, f3, f4, -1)
theorem b_step {s : ByteArray} {p i j : Nat} {l l' : List Int} {f0 f1 : Int} {f2 : Bool} {f3 : ByteArray} {f4 : CPt} (hij : i ≤ j) (a b : Nat)
    (P : ∀ k, tuple_fromBytes.l0 (k + a) (s.extract (p + 1) s.size) l (i : Int) = tuple_fromBytes.l0 k (s.extract (p + 1) s.size) l' (j : Int))
    (E : ∀ k, keystoneref04_take.l1 (k + b) s ((p + 1 + i : Nat) : Int) l f0 f1 f2 f3 f4 = keystoneref04_take.l1 k s ((p + 1 + j : Nat) : Int) l' f0 f1 f2 f3 f4)
    (h : BGood s p j l' f0 f1 f2 f3 f4 ∨ BBad s p j l' f0 f1 f2 f3 f4) : BGood s p i l f0 f1 f2 f3 f4 ∨ BBad s p i l f0 f1 f2 f3 f4 := by
  rcases h with ⟨bs, e, q1, q2, ⟨k1, p1⟩, k2, p2⟩ | ⟨⟨k1, p1⟩, k2, p2⟩
  · exact .inl ⟨bs, e, by omega, q2, ⟨k1 + a, (P k1).trans p1⟩, ⟨k2 + b, (E k2).trans p2⟩⟩
  · exact .inr ⟨⟨k1 + a, (P k1).trans p1⟩, ⟨k2 + b, (E k2).trans p2⟩⟩
theorem bytes_both (s : ByteArray) (hs : s.size ≤ 140737488351232) (p : Nat) (hp : p + 1 ≤ s.size) (f0 f1 : Int) (f2 : Bool) (f3 : ByteArray) (f4 : CPt) (n : Nat) : ∀ (i : Nat) (l : List Int), s.size - (p + 1 + i) ≤ n → p + 1 + i ≤ s.size → l.length ≤ i → BGood s p i l f0 f1 f2 f3 f4 ∨ BBad s p i l f0 f1 f2 f3 f4 := by
  have hz := ext_size s (p + 1) s.size (Nat.le_refl _)
  induction n with
  | zero =>
    intro i l hn hi hl
    exact .inr ⟨⟨_, fb5 _ i l (by omega)⟩, ⟨_, tk5 s _ l f0 f1 f2 f3 f4 (by omega)⟩⟩
  | succ n ih =>
    intro i l hn hi hl
    by_cases hlt : p + 1 + i < s.size
    · have hb : bt (s.extract (p + 1) s.size) (i : Int) = bt s ((p + 1 + i : Nat) : Int) := ext_at s (p + 1) s.size i (Nat.le_refl _) (by omega)
      have hxs : (s.extract (p + 1) s.size).size ≤ 140737488351232 := by omega
      have hxi : i < (s.extract (p + 1) s.size).size := by omega
      by_cases h0 : bt s ((p + 1 + i : Nat) : Int) = 0
      · have h0' : bt (s.extract (p + 1) s.size) (i : Int) = 0 := hb.trans h0
        by_cases hend : p + 1 + (i + 1) < s.size
        · have hb2 : bt (s.extract (p + 1) s.size) ((i + 1 : Nat) : Int) = bt s ((p + 1 + i + 1 : Nat) : Int) := ext_at s (p + 1) s.size (i + 1) (Nat.le_refl _) (by omega)
          have hx1 : i + 1 < (s.extract (p + 1) s.size).size := by omega
          by_cases hc0 : bt s ((p + 1 + i + 1 : Nat) : Int) = 0
          · exact .inl ⟨strOfNums l, i + 2, by omega, by omega, ⟨_, fb3 _ hxs i l hx1 h0' (hb2.trans hc0)⟩, ⟨_, tk3 s hs (p + 1 + i) l f0 f1 f2 f3 f4 (by omega) h0 hc0⟩⟩
          · by_cases hc255 : bt s ((p + 1 + i + 1 : Nat) : Int) = 255
            · exact b_step (by omega) 2 1 (fun k => fb2 _ hxs i l hx1 hl h0' (hb2.trans hc255) k) (fun k => tk2 s hs (p + 1 + i) l f0 f1 f2 f3 f4 (by omega) (by omega) h0 hc255 k)
                (ih (i + 2) (l ++ [0]) (by omega) (by omega) (by rw [List.length_append]; simp only [List.length_cons, List.length_nil]; omega))
            · exact .inr ⟨⟨_, fb4 _ hxs i l hxi h0' (.inr ⟨fun h => hc0 (hb2.symm.trans h), fun h => hc255 (hb2.symm.trans h)⟩)⟩, ⟨_, tk4 s hs (p + 1 + i) l f0 f1 f2 f3 f4 hlt h0 (.inr ⟨hc0, hc255⟩)⟩⟩
        · exact .inr ⟨⟨_, fb4 _ hxs i l hxi h0' (.inl (by omega))⟩, ⟨_, tk4 s hs (p + 1 + i) l f0 f1 f2 f3 f4 hlt h0 (.inl (by omega))⟩⟩
      · have h0' : bt (s.extract (p + 1) s.size) (i : Int) ≠ 0 := fun h => h0 (hb.symm.trans h)
        have P := fun k => fb1 _ hxs i l hxi hl h0' k
        rw [hb] at P
        exact b_step (by omega) 1 1 P (fun k => tk1 s hs (p + 1 + i) l f0 f1 f2 f3 f4 hlt (by omega) h0 k)
          (ih (i + 1) (l ++ [bt s ((p + 1 + i : Nat) : Int)]) (by omega) (by omega) (by rw [List.length_append]; simp only [List.length_cons, List.length_nil]; omega))
    · exact .inr ⟨⟨_, fb5 _ i l (by omega)⟩, ⟨_, tk5 s _ l f0 f1 f2 f3 f4 (by omega)⟩⟩
end Go.Proofs.YtdonndklddjfiaaDoor.Pure.Rd
