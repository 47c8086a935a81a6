/- The plain part of TupleReads: what the walk computes is always true. Condition: a text of at most 1048576 bytes. -/
import Derived.Test.YtdonndklddjfiaaDoorKAx10
import Derived.Test.YtdonndklddjfiaaDoorPureReads2
import Derived.Test.YtdonndklddjfiaaDoorPureTupleAbove
namespace Go.Proofs.YtdonndklddjfiaaDoor.Pure.Rd
open Go.RowKit Go.Proofs.YtdonndklddjfiaaDoor.KA Go.Proofs.YtdonndklddjfiaaDoorW.PrintWords Go.Proofs.YtdonndklddjfiaaDoorW.PrintLast
set_option linter.unusedVariables false

theorem check_ref (f0 f1 : Int) (f2 : Bool) (f3 : ByteArray) (h : OKV f0 f1 f2 f3) (k : Nat) : keystoneref04_Check.f (k + 3) f0 f1 f2 f3 ⟨0, 0⟩ = some (if (f3.size : Int) > 4096 then 3 else 0) := by
  have hne : (!((FloatKind.f64.format.order 0 0 == some .eq) && (FloatKind.f64.format.order 0 0 == some .eq))) = false := by decide
  have hnil : ((⟨#[]⟩ : ByteArray).toList != ([] : List UInt8)) = false := by rw [ByteArray.toList_mk []]; rfl
  have J2 : ∀ (a0 a1 : Int) (a2 : Bool), a0 ≠ 4 → keystoneref04_Check.j2 (k + 1) false a0 a1 a2 f3 ⟨0, 0⟩ = some (if (f3.size : Int) > 4096 then 3 else 0) := fun a0 a1 a2 ha => by
    rw [keystoneref04_Check.j2.eq_2, if_neg (by decide)]
    by_cases hl : (f3.size : Int) > 4096
    · rw [if_pos hl, if_pos hl]
    · rw [if_neg hl, if_neg hl, if_neg ha]
  rcases h with ⟨rfl, rfl, rfl⟩ | ⟨rfl, rfl, rfl⟩ | ⟨rfl, rfl, rfl⟩
  · rw [keystoneref04_Check.f, if_neg (by decide), show decide ((1 : Int) > 4) = false by decide, keystoneref04_Check.j0.eq_2, if_neg (by decide), if_pos rfl, if_neg (by decide), if_neg (by decide), if_neg (by decide), hnil, keystoneref04_Check.j1.eq_2, if_neg (by decide), if_neg (by decide), hne, J2 _ _ _ (by decide)]
  · rw [keystoneref04_Check.f, if_neg (by decide), show decide ((2 : Int) > 4) = false by decide, keystoneref04_Check.j0.eq_2, if_neg (by decide), if_neg (by decide), if_pos rfl, if_pos rfl, if_neg (by decide), hnil, keystoneref04_Check.j1.eq_2, if_neg (by decide), if_neg (by decide), hne, J2 _ _ _ (by decide)]
  · rw [keystoneref04_Check.f, if_neg (by decide), show decide ((3 : Int) > 4) = false by decide, keystoneref04_Check.j0.eq_2, if_neg (by decide), if_neg (by decide), if_pos rfl, if_neg (by decide), if_neg (by decide), if_pos rfl, keystoneref04_Check.j1.eq_2, if_neg (by decide), if_neg (by decide), hne, J2 _ _ _ (by decide)]
def OKS (v : S36) : Prop := OKV v.f0 v.f1 v.f2 v.f3 ∧ v.f4 = ⟨0, 0⟩
theorem not_four {f0 f1 : Int} {f2 : Bool} {f3 : ByteArray} (h : OKV f0 f1 f2 f3) : f0 ≠ 4 := by
  rcases h with ⟨rfl, _⟩ | ⟨rfl, _⟩ | ⟨rfl, _⟩ <;> decide
theorem rd_at (l : List S36) (i : Nat) (h : i < l.length) : rd_T36 l (i : Int) = l[i] := by
  unfold rd_T36
  simp [h]
theorem key_loop (l : List S36) (hl : l.length ≤ 1048576) (ok : ∀ v ∈ l, OKS v) (n : Nat) : ∀ i, i + n = l.length → ∃ r, (∃ k, tuple_checkKey.l0 k l (l.length : Int) (i : Int) = some r) ∧ ∃ k, keystoneref04_CheckKey.l0 k l (i : Int) = some r := by
  induction n with
  | zero =>
    intro i h
    have c : ¬ (i : Int) < (l.length : Int) := by omega
    exact ⟨0, ⟨0 + 1, by rw [tuple_checkKey.l0.eq_2, if_neg c]⟩, ⟨0 + 1, by rw [keystoneref04_CheckKey.l0.eq_2, if_neg c]⟩⟩
  | succ n ih =>
    intro i h
    have hi : i < l.length := by omega
    have c : (i : Int) < (l.length : Int) := by omega
    obtain ⟨hv, h4⟩ := ok l[i] (List.getElem_mem _)
    have hrd := rd_at l i hi
    have cw : wrap64 ((i : Int) + 1) = ((i + 1 : Nat) : Int) := wadd i 1 (by omega) (by omega)
    have e1 := fun k => check_prog _ _ _ _ hv k
    have e2 := fun k => check_ref _ _ _ _ hv k
    obtain ⟨r, ⟨k1, p1⟩, k2, p2⟩ := ih (i + 1) (by omega)
    by_cases hbig : (l[i].f3.size : Int) > 4096
    · refine ⟨3, ⟨0 + 3 + 1, ?_⟩, ⟨0 + 3 + 1, ?_⟩⟩
      · rw [tuple_checkKey.l0.eq_2, if_pos c, if_pos (Int.natCast_nonneg _), if_pos c, hrd, h4, e1 0, if_pos hbig, Option.bind_some, if_neg (by decide)]
      · rw [keystoneref04_CheckKey.l0.eq_2, if_pos c, if_pos (Int.natCast_nonneg _), hrd, h4, e2 0, if_pos hbig, Option.bind_some, if_neg (by decide)]
    · have p1' := up_le (f := fun k => tuple_checkKey.l0 k l (l.length : Int) ((i + 1 : Nat) : Int)) (fun k => tuple_checkKey.mono_l k _ _ _) p1 3
      have p2' := up_le (f := fun k => keystoneref04_CheckKey.l0 k l ((i + 1 : Nat) : Int)) (fun k => keystoneref04_CheckKey.mono_l k _ _) p2 3
      refine ⟨r, ⟨k1 + 3 + 1, ?_⟩, ⟨k2 + 3 + 1, ?_⟩⟩
      · rw [tuple_checkKey.l0.eq_2, if_pos c, if_pos (Int.natCast_nonneg _), if_pos c, hrd, h4, e1 k1, if_neg hbig, Option.bind_some, if_pos rfl, if_neg (not_four hv), cw]
        exact p1'
      · rw [keystoneref04_CheckKey.l0.eq_2, if_pos c, if_pos (Int.natCast_nonneg _), hrd, h4, e2 k2, if_neg hbig, Option.bind_some, if_pos rfl, if_neg (not_four hv), cw]
        exact p2'
theorem key_both (l : List S36) (hl : l.length ≤ 1048576) (ok : ∀ v ∈ l, OKS v) : ∃ r, (∃ k, tuple_checkKey.f k l = some r) ∧ ∃ k, keystoneref04_CheckKey.f k l = some r := by
  by_cases h : (l.length : Int) > 16
  · exact ⟨3, ⟨0, by rw [tuple_checkKey.f, if_pos h]⟩, ⟨0, by rw [keystoneref04_CheckKey.f, if_pos h]⟩⟩
  · obtain ⟨r, ⟨k1, p1⟩, k2, p2⟩ := key_loop l hl ok l.length 0 (by omega)
    exact ⟨r, ⟨k1, by rw [tuple_checkKey.f, if_neg h]; exact p1⟩, ⟨k2, by rw [keystoneref04_CheckKey.f, if_neg h]; exact p2⟩⟩
theorem nil_iff (s : ByteArray) : s.toList = [] ↔ s.size = 0 := by
  rw [ByteArray.toList_eq]
  constructor
  · intro h
    have h2 := congrArg List.length h
    rw [Array.length_toList] at h2
    exact h2
  · intro h
    apply List.eq_nil_of_length_eq_zero
    rw [Array.length_toList]
    exact h
def mk (f0 f1 : Int) (f2 : Bool) (f3 : ByteArray) : S36 := ⟨f0, f1, f2, f3, ⟨0, 0⟩⟩
/-- One step of the program's loop. -/
theorem prog_step (s : ByteArray) (hs : s.size ≤ 1048576) (p e : Nat) (l : List S36) (hl : l.length ≤ p) (hp : p < s.size) (f0 f1 : Int) (f2 : Bool) (f3 : ByteArray) (he : p < e) (hes : e ≤ s.size) (k : Nat) (h : tuple_fromKey.f k (s.extract p s.size) = some (f0, f1, f2, f3, ⟨0, 0⟩, ((e - p : Nat) : Int), true)) :
    tuple_FromKey.l0 (k + 1) (s.extract p s.size) l = tuple_FromKey.l0 k (s.extract e s.size) (l ++ [mk f0 f1 f2 f3]) := by
  have hz := ext_size s p s.size (Nat.le_refl _)
  have hne : ¬ (s.extract p s.size).toList = ([] : List UInt8) := fun g => by
    rw [nil_iff] at g
    omega
  have c1 : l.length < 2513169434916 := by omega
  have c2 : ((e - p : Nat) : Int) ≤ ((s.extract p s.size).size : Int) := by omega
  rw [tuple_FromKey.l0.eq_2, if_neg hne, h, Option.bind_some]
  simp only [if_true]
  rw [if_pos c1, if_pos (Int.natCast_nonneg _), if_pos c2, Int.toNat_natCast, ext_tail s p (e - p) (by omega), show p + (e - p) = e by omega]
  rfl
theorem prog_stop (s : ByteArray) (p : Nat) (l : List S36) (hp : p < s.size) (k : Nat) (a0 a1 a2 a3 a4 a5) (h : tuple_fromKey.f k (s.extract p s.size) = some (a0, a1, a2, a3, a4, a5, false)) : tuple_FromKey.l0 (k + 1) (s.extract p s.size) l = some ([], 40) := by
  have hz := ext_size s p s.size (Nat.le_refl _)
  have hne : ¬ (s.extract p s.size).toList = ([] : List UInt8) := fun g => by
    rw [nil_iff] at g
    omega
  rw [tuple_FromKey.l0.eq_2, if_neg hne, h, Option.bind_some]
  rfl
theorem prog_end (s : ByteArray) (l : List S36) (k : Nat) (r : Int) (h : tuple_checkKey.f k l = some r) : tuple_FromKey.l0 (k + 1) (s.extract s.size s.size) l = some (if r = 0 then (l, 0) else ([], 40)) := by
  have hz := ext_size s s.size s.size (Nat.le_refl _)
  have hnil : (s.extract s.size s.size).toList = ([] : List UInt8) := (nil_iff _).2 (by omega)
  rw [tuple_FromKey.l0.eq_2, if_pos hnil, h, Option.bind_some]
  by_cases h0 : r = 0
  · rw [if_pos h0, if_pos h0]
  · rw [if_neg h0, if_neg h0]
theorem prog_over (s : ByteArray) (hs : s.size ≤ 1048576) (n : Nat) : ∀ (p : Nat) (l : List S36), s.size - p ≤ n → p ≤ s.size → l.length ≤ p → 16 < l.length → ∃ k, tuple_FromKey.l0 k (s.extract p s.size) l = some ([], 40) := by
  have stop : ∀ l : List S36, 16 < l.length → ∃ k, tuple_FromKey.l0 k (s.extract s.size s.size) l = some ([], 40) := fun l h16 => by
    have e : tuple_checkKey.f 0 l = some 3 := by rw [tuple_checkKey.f, if_pos (by omega)]
    exact ⟨0 + 1, (prog_end s l 0 3 e).trans rfl⟩
  induction n with
  | zero =>
    intro p l hn hp hl h16
    obtain rfl : p = s.size := by omega
    exact stop l h16
  | succ n ih =>
    intro p l hn hp hl h16
    by_cases hlt : p < s.size
    · rcases value_both s (by omega) p hlt with ⟨f0, f1, f2, f3, e, he, hes, _, ⟨k1, p1⟩, _⟩ | ⟨⟨k1, a0, a1, a2, a3, a4, a5, p1⟩, _⟩
      · obtain ⟨k2, p2⟩ := ih e (l ++ [mk f0 f1 f2 f3]) (by omega) hes (by rw [List.length_append]; simp only [List.length_cons, List.length_nil]; omega) (by rw [List.length_append]; omega)
        have q1 := up_le (f := fun k => tuple_fromKey.f k (s.extract p s.size)) (fun k => tuple_fromKey.mono _ k) p1 k2
        have q2 := up_le (f := fun k => tuple_FromKey.l0 k (s.extract e s.size) (l ++ [mk f0 f1 f2 f3])) (fun k => tuple_FromKey.mono_l k _ _) p2 k1
        refine ⟨k1 + k2 + 1, ?_⟩
        rw [prog_step s hs p e l hl hlt f0 f1 f2 f3 he hes _ q1, Nat.add_comm]
        exact q2
      · exact ⟨k1 + 1, prog_stop s p l hlt k1 a0 a1 a2 a3 a4 a5 p1⟩
    · obtain rfl : p = s.size := by omega
      exact stop l h16
theorem keys_both (s : ByteArray) (hs : s.size ≤ 1048576) (n : Nat) : ∀ (p : Nat) (l : List S36), s.size - p ≤ n → p ≤ s.size → l.length ≤ p → l.length ≤ 16 → (∀ v ∈ l, OKS v) →
    ∃ r : List S36 × Int, (∀ v ∈ r.1, OKS v) ∧ r.1.length ≤ 16 ∧ (∃ k, tuple_FromKey.l0 k (s.extract p s.size) l = some r) ∧ ∃ k, keystoneref04_FromKey.l0 k s l (p : Int) = some r := by
  have stop : ∀ l : List S36, l.length ≤ 16 → (∀ v ∈ l, OKS v) → ∃ r : List S36 × Int, (∀ v ∈ r.1, OKS v) ∧ r.1.length ≤ 16 ∧ (∃ k, tuple_FromKey.l0 k (s.extract s.size s.size) l = some r) ∧ ∃ k, keystoneref04_FromKey.l0 k s l ((s.size : Nat) : Int) = some r := fun l h16 ok => by
    obtain ⟨r, ⟨k1, p1⟩, k2, p2⟩ := key_both l (by omega) ok
    have e2 : keystoneref04_FromKey.l0 (k2 + 1) s l ((s.size : Nat) : Int) = some (if r = 0 then (l, 0) else ([], 40)) := by
      have c : ¬ ((s.size : Nat) : Int) < (s.size : Int) := by omega
      rw [keystoneref04_FromKey.l0.eq_2, if_neg c, p2, Option.bind_some]
      by_cases h0 : r = 0
      · rw [if_pos h0, if_pos h0]
      · rw [if_neg h0, if_neg h0]
    refine ⟨if r = 0 then (l, 0) else ([], 40), ?_, ?_, ⟨k1 + 1, prog_end s l k1 r p1⟩, ⟨k2 + 1, e2⟩⟩
    · by_cases h0 : r = 0
      · rw [if_pos h0]
        exact ok
      · rw [if_neg h0]
        simp
    · by_cases h0 : r = 0
      · rw [if_pos h0]
        exact h16
      · rw [if_neg h0]
        simp
  induction n with
  | zero =>
    intro p l hn hp hl h16 ok
    obtain rfl : p = s.size := by omega
    exact stop l h16 ok
  | succ n ih =>
    intro p l hn hp hl h16 ok
    by_cases hlt : p < s.size
    · have c : (p : Int) < (s.size : Int) := by omega
      rcases value_both s (by omega) p hlt with ⟨f0, f1, f2, f3, e, he, hes, hv, ⟨k1, p1⟩, k2, p2⟩ | ⟨⟨k1, a0, a1, a2, a3, a4, a5, p1⟩, k2, b0, b1, b2, b3, b4, p2⟩
      · have c0 : ¬ ((e : Nat) : Int) < 0 := by omega
        by_cases h17 : (l.length : Int) = 16
        · obtain ⟨k3, p3⟩ := prog_over s hs (s.size - e) e (l ++ [mk f0 f1 f2 f3]) (Nat.le_refl _) hes (by rw [List.length_append]; simp only [List.length_cons, List.length_nil]; omega) (by rw [List.length_append]; simp only [List.length_cons, List.length_nil]; omega)
          have q1 := up_le (f := fun k => tuple_fromKey.f k (s.extract p s.size)) (fun k => tuple_fromKey.mono _ k) p1 k3
          have q3 := up_le (f := fun k => tuple_FromKey.l0 k (s.extract e s.size) (l ++ [mk f0 f1 f2 f3])) (fun k => tuple_FromKey.mono_l k _ _) p3 k1
          refine ⟨([], 40), by simp, by simp, ⟨k1 + k3 + 1, ?_⟩, ⟨k2 + 1, ?_⟩⟩
          · rw [prog_step s hs p e l hl hlt f0 f1 f2 f3 he hes _ q1, Nat.add_comm]
            exact q3
          · rw [keystoneref04_FromKey.l0.eq_2, if_pos c, p2, Option.bind_some]
            simp only [if_neg c0, if_pos h17]
        · obtain ⟨r, r1, r2, ⟨k3, p3⟩, k4, p4⟩ := ih e (l ++ [mk f0 f1 f2 f3]) (by omega) hes (by rw [List.length_append]; simp only [List.length_cons, List.length_nil]; omega) (by rw [List.length_append]; simp only [List.length_cons, List.length_nil]; omega)
            (fun v hv2 => by
              rcases List.mem_append.1 hv2 with hv2 | hv2
              · exact ok v hv2
              · obtain rfl := List.mem_singleton.1 hv2
                exact ⟨hv, rfl⟩)
          have q1 := up_le (f := fun k => tuple_fromKey.f k (s.extract p s.size)) (fun k => tuple_fromKey.mono _ k) p1 k3
          have q3 := up_le (f := fun k => tuple_FromKey.l0 k (s.extract e s.size) (l ++ [mk f0 f1 f2 f3])) (fun k => tuple_FromKey.mono_l k _ _) p3 k1
          have q2 := up_le (f := fun k => keystoneref04_take.f k s (p : Int)) (fun k => keystoneref04_take.mono s (p : Int) k) p2 k4
          have q4 := up_le (f := fun k => keystoneref04_FromKey.l0 k s (l ++ [mk f0 f1 f2 f3]) (e : Int)) (fun k => keystoneref04_FromKey.mono_l k _ _ _) p4 k2
          have c3 : l.length < 2513169434916 := by omega
          refine ⟨r, r1, r2, ⟨k1 + k3 + 1, ?_⟩, ⟨k2 + k4 + 1, ?_⟩⟩
          · rw [prog_step s hs p e l hl hlt f0 f1 f2 f3 he hes _ q1, Nat.add_comm]
            exact q3
          · rw [keystoneref04_FromKey.l0.eq_2, if_pos c, q2, Option.bind_some]
            simp only [if_neg c0, if_neg h17, if_pos c3]
            rw [Nat.add_comm]
            exact q4
      · refine ⟨([], 40), by simp, by simp, ⟨k1 + 1, prog_stop s p l hlt k1 a0 a1 a2 a3 a4 a5 p1⟩, ⟨k2 + 1, ?_⟩⟩
        rw [keystoneref04_FromKey.l0.eq_2, if_pos c, p2, Option.bind_some]
        rfl
    · obtain rfl : p = s.size := by omega
      exact stop l h16 ok

/-! ### lists -/
theorem minus0 : keystonelaw04_minus.f 0 = some false := by decide +kernel
theorem bits_self (f0 f1 : Int) (f2 : Bool) (f3 : ByteArray) : keystonelaw04_bits.f f0 f1 f2 f3 ⟨0, 0⟩ f0 f1 f2 f3 ⟨0, 0⟩ = some true := by
  have hsv : keystoneref04_SameValue.f f0 f1 f2 f3 ⟨0, 0⟩ f0 f1 f2 f3 ⟨0, 0⟩ = some true := by
    unfold keystoneref04_SameValue.f
    rw [if_pos rfl, if_pos rfl, if_pos (beq_self_eq_true _), if_pos rfl]
    decide
  unfold keystonelaw04_bits.f
  rw [hsv, Option.bind_some, if_pos rfl]
  simp only [minus0, Option.bind_some]
  rfl
theorem lists_loop (l : List S36) (hl : l.length ≤ 16) (ok : ∀ v ∈ l, OKS v) (n : Nat) : ∀ i, i + n = l.length → keystonelaw04_lists.l0 (n + 1) l l (l.length : Int) (i : Int) = some true := by
  induction n with
  | zero =>
    intro i h
    rw [keystonelaw04_lists.l0.eq_2, if_neg (by omega)]
  | succ n ih =>
    intro i h
    have hi : i < l.length := by omega
    have cw : wrap64 ((i : Int) + 1) = ((i + 1 : Nat) : Int) := wadd i 1 (by omega) (by omega)
    rw [keystonelaw04_lists.l0.eq_2, if_pos (by omega), if_pos (Int.natCast_nonneg _), if_pos (by omega), if_pos (by omega), rd_at l i hi, (ok l[i] (List.getElem_mem _)).2, bits_self, Option.bind_some, if_pos rfl, cw, ih (i + 1) (by omega)]
theorem lists_self (l : List S36) (hl : l.length ≤ 16) (ok : ∀ v ∈ l, OKS v) : keystonelaw04_lists.f (l.length + 1) l l = some true := by
  unfold keystonelaw04_lists.f
  rw [if_pos rfl]
  exact lists_loop l hl ok l.length 0 (by omega)

/-! ### Above -/
theorem up_full (s : ByteArray) (i : Nat) (hf : full s i) : ∀ n, i + n ≤ s.size → upN s (i + n) = upN s i
  | 0, _ => rfl
  | n + 1, h => by
    have hb := hf (i + n) (by omega) (by omega)
    show (if bt s ((i + n : Nat) : Int) = 255 then upN s (i + n) else _) = _
    rw [if_pos hb]
    exact up_full s i hf n (by omega)
theorem above_same (s : ByteArray) (hs : s.size ≤ 140737488351232) : ∃ u ok, (∃ k, tuple_Above.f k s = some (u, ok)) ∧ ∃ v, keystoneref04_Above.f s = some (v, ok) ∧ u.toList = v.toList := by
  have hA : keystoneref04_Above.f s = some (upN s s.size) := by
    unfold keystoneref04_Above.f
    rw [if_pos hs]
  rcases above_loop s hs s.size (Nat.le_refl _) (fun j h1 h2 => absurd h1 (by omega)) with ⟨hf, k, p⟩ | ⟨i, h1, h2, h3, k, p⟩
  · have e := up_full s 0 hf s.size (by omega)
    rw [Nat.zero_add] at e
    exact ⟨⟨#[]⟩, false, ⟨k, p⟩, ⟨#[]⟩, by rw [hA, e]; rfl, rfl⟩
  · have e := up_full s (i + 1) h3 (s.size - (i + 1)) (by omega)
    rw [show i + 1 + (s.size - (i + 1)) = s.size by omega] at e
    have e2 : upN s (i + 1) = (strOfNums ((bytesOf (s.extract 0 (i + 1))).set i (bt s (i : Int) + 1)), true) := by
      show (if bt s (i : Int) = 255 then upN s i else _) = _
      rw [if_neg h2]
    refine ⟨_, true, ⟨k, p⟩, _, by rw [hA, e, e2], ?_⟩
    have hr := bt_range s (i : Int)
    rw [ByteArray.toList_eq, ByteArray.toList_eq, show (bt s (i : Int) + 1) % 256 = bt s (i : Int) + 1 by omega]
    have hdl : s.data.toList.length = s.size := by rw [Array.length_toList]; rfl
    have a1 : (s.extract 0 i).data.toList = s.data.toList.take i := by simp [ByteArray.data_extract]
    have a2 : (s.extract 0 (i + 1)).data.toList = s.data.toList.take (i + 1) := by simp [ByteArray.data_extract]
    rw [show (s.extract 0 i ++ strOfNums [bt s (i : Int) + 1]).data.toList = (s.extract 0 i).data.toList ++ (strOfNums [bt s (i : Int) + 1]).data.toList by simp [ByteArray.data_append], a1]
    unfold strOfNums bytesOf
    simp only []
    rw [a2, List.map_set, List.map_map]
    have hid : (s.data.toList.take (i + 1)).map ((fun n : Int => UInt8.ofNat n.toNat) ∘ fun b : UInt8 => (b.toNat : Int)) = s.data.toList.take (i + 1) := by
      refine (List.map_congr_left (fun b _ => ?_)).trans (List.map_id _)
      show UInt8.ofNat ((b.toNat : Int)).toNat = b
      rw [Int.toNat_natCast, UInt8.ofNat_toNat]
    rw [hid, List.take_succ_eq_append_getElem (by omega), List.set_append_right _ _ (by rw [List.length_take]; omega), List.length_take, show i - min i s.data.toList.length = 0 by omega]
    rfl
/-- The law's answer, for a text of at most 1048576 bytes. -/
theorem reads (s : ByteArray) (hs : s.size ≤ 1048576) : ∃ k, keystonelaw04_TupleReads.f k s = some true := by
  have hz : s.extract 0 s.size = s := by
    have h : (s.extract 0 s.size).data.toList = s.data.toList := by
      simp
    exact congrArg ByteArray.mk (Array.toList_inj.1 h)
  obtain ⟨r, r1, r2, ⟨k1, p1⟩, k2, p2⟩ := keys_both s hs s.size 0 [] (by omega) (by omega) (by simp) (by simp) (by simp)
  rw [hz] at p1
  obtain ⟨u, ok, ⟨k3, p3⟩, v, p4, p5⟩ := above_same s (by omega)
  have q1 := up_le (f := fun k => tuple_FromKey.f k s) (fun k => tuple_FromKey.mono s k) p1 (10 + k2 + k3 + 17)
  have q2 := up_le (f := fun k => keystoneref04_FromKey.f k s) (fun k => keystoneref04_FromKey.mono s k) p2 (10 + k1 + k3 + 17)
  have q3 := up_le (f := fun k => tuple_Above.f k s) (fun k => tuple_Above.mono s k) p3 (10 + k1 + k2 + 17)
  have q4 := up_le (f := fun k => keystonelaw04_lists.f k r.1 r.1) (fun k => keystonelaw04_lists.mono _ _ k) (lists_self r.1 r2 r1) (10 + k1 + k2 + k3 + (16 - r.1.length))
  refine ⟨10 + (k1 + k2 + k3 + 17), ?_⟩
  rw [show k1 + (10 + k2 + k3 + 17) = 10 + (k1 + k2 + k3 + 17) by omega] at q1
  rw [show k2 + (10 + k1 + k3 + 17) = 10 + (k1 + k2 + k3 + 17) by omega] at q2
  rw [show k3 + (10 + k1 + k2 + 17) = 10 + (k1 + k2 + k3 + 17) by omega] at q3
  rw [show r.1.length + 1 + (10 + k1 + k2 + k3 + (16 - r.1.length)) = 10 + (k1 + k2 + k3 + 17) by omega] at q4
  unfold keystonelaw04_TupleReads.f
  rw [q1, Option.bind_some, q2, Option.bind_some, q3, Option.bind_some, p4, Option.bind_some, begun_true, Option.bind_some, if_pos rfl, if_pos rfl, q4, Option.bind_some, if_pos rfl]
  simp only [p5, if_true]
  simp
end Go.Proofs.YtdonndklddjfiaaDoor.Pure.Rd
