/- The plain part of TupleAbove: what the walk computes is always true. Condition: none beyond the arguments' own ranges. -/
import Derived.Test.YtdonndklddjfiaaDoorKAx3
import Derived.Laws.Strings
import Derived.Lib.IndexBytes
import Derived.Lib.IndexLaws
namespace Go.Proofs.YtdonndklddjfiaaDoor.Pure
open Go.RowKit Go.Proofs.YtdonndklddjfiaaDoor.KA Go.Proofs.YtdonndklddjfiaaDoorW.PrintWords Go.Proofs.YtdonndklddjfiaaDoorW.PrintLast
set_option linter.unusedVariables false

theorem w64 (x : Int) (h0 : -9223372036854775808 ≤ x) (h1 : x < 9223372036854775808) : wrap64 x = x := by
  unfold wrap64
  omega
theorem wsucc (i : Nat) (h : i ≤ 140737488351232) : wrap64 ((i : Int) + 1) = ((i + 1 : Nat) : Int) := by rw [w64 _ (by omega) (by omega)]; omega
theorem up_le {α : Type} {f : Nat → Option α} (h : ∀ k, LeO (f k) (f (k + 1))) {m : Nat} {r : α} (e : f m = some r) : ∀ d, f (m + d) = some r
  | 0 => e
  | d + 1 => h (m + d) r (up_le h e d)
/-! ### the simplest answer -/
theorem seven : strconv_FormatInt_20.f (-7) 10 = some ⟨#[45, 55]⟩ := by
  unfold strconv_FormatInt_20.f
  rw [if_pos ⟨rfl, by decide, by decide⟩]
  have h : Lib.itoa (-7) = [45, 55] := by
    unfold Lib.itoa
    rw [if_pos (by decide)]
    unfold Lib.decDigits
    rw [dif_pos (by decide)]
    rfl
  rw [h]
theorem begun_true : ∀ d, keystonelaw04_begun.f (10 + d) = some true
  | 0 => by
    have c1 : tuple_Check.f 10 1 (-7) false ⟨#[]⟩ ⟨0, 0⟩ = some 0 := by decide +kernel
    have c2 : tuple_Check.f 10 2 0 true ⟨#[]⟩ ⟨0, 0⟩ = some 0 := by decide +kernel
    have c3 : tuple_Check.f 10 0 0 false ⟨#[]⟩ ⟨0, 0⟩ = some 5 := by decide +kernel
    have t : tuple_Text.f 10 1 (-7) false ⟨#[]⟩ ⟨0, 0⟩ = some (⟨#[45, 55]⟩, 0) := by
      unfold tuple_Text.f
      rw [c1, Option.bind_some, if_pos rfl, if_pos rfl, seven, Option.bind_some]
    show keystonelaw04_begun.f 10 = some true
    unfold keystonelaw04_begun.f
    rw [tuple_Int.f, Option.bind_some, t, Option.bind_some, if_pos (ByteArray.toList_mk [45, 55]), if_pos rfl, tuple_Bool.f, Option.bind_some, c2, Option.bind_some, if_pos rfl, c3, Option.bind_some]
    rfl
  | d + 1 => keystonelaw04_begun.mono (10 + d) true (begun_true d)

/-! ### the order of texts -/
theorem less_nil (x : List UInt8) : Op.bytesLess x [] = false := by cases x <;> rfl
theorem less_cons (a b : UInt8) (x y : List UInt8) : Op.bytesLess (a :: x) (b :: y) = true ↔ a < b ∨ (a = b ∧ Op.bytesLess x y = true) := by
  show (decide (a < b) || (a == b && Op.bytesLess x y)) = true ↔ _
  simp
theorem less_up (p x y : List UInt8) (h : Op.bytesLess x y = true) : Op.bytesLess (p ++ x) (p ++ y) = true := by
  induction p with
  | nil => exact h
  | cons a p ih => exact (less_cons a a _ _).2 (.inr ⟨rfl, ih⟩)
theorem less_own (s t : List UInt8) : Op.bytesLess (s ++ t) s = false := by
  induction s with
  | nil => exact less_nil _
  | cons a s ih =>
    cases h : Op.bytesLess (a :: s ++ t) (a :: s) with
    | false => rfl
    | true =>
      rcases (less_cons a a _ _).1 h with h | ⟨_, h⟩
      · exact absurd h (UInt8.lt_irrefl a)
      · have h2 : Op.bytesLess (s ++ t) s = true := h
        rw [ih] at h2
        cases h2
theorem lt_nat (a b : UInt8) : a < b ↔ a.toNat < b.toNat := UInt8.lt_iff_toNat_lt
theorem eq_nat (a b : UInt8) (h : a.toNat = b.toNat) : a = b := UInt8.toNat_inj.1 h
/-- Behind 255s nothing stands between. -/
theorem full_prefix : ∀ (r o : List UInt8), (∀ b ∈ r, b.toNat = 255) → Op.bytesLess o r = false → r <+: o
  | [], o, _, _ => List.nil_prefix
  | c :: r, [], h, hl => by cases hl
  | c :: r, d :: o, h, hl => by
    have hc := h c (List.mem_cons_self ..)
    have hd := d.toNat_lt
    have hn : ¬ (d < c ∨ (d = c ∧ Op.bytesLess o r = true)) := fun g => by
      rw [(less_cons d c o r).2 g] at hl
      cases hl
    have e : d = c := eq_nat d c (by
      have : ¬ d < c := fun g => hn (.inl g)
      rw [lt_nat] at this
      omega)
    subst e
    have hl2 : Op.bytesLess o r = false := by
      cases hh : Op.bytesLess o r with
      | false => rfl
      | true => exact absurd (.inr ⟨rfl, hh⟩) hn
    exact List.cons_prefix_cons.2 ⟨rfl, full_prefix r o (fun b hb => h b (List.mem_cons_of_mem _ hb)) hl2⟩
/-- Nothing lies between a text and the one above it but what begins with it. -/
theorem between (a a1 : UInt8) (ha : a1.toNat = a.toNat + 1) (r : List UInt8) (hr : ∀ b ∈ r, b.toNat = 255) : ∀ (p o : List UInt8), Op.bytesLess o (p ++ a :: r) = false → Op.bytesLess o (p ++ [a1]) = true → (p ++ a :: r) <+: o
  | [], [], h1, h2 => by cases h1
  | [], c :: o, h1, h2 => by
    have g2 := (less_cons c a1 o []).1 h2
    have hc : c.toNat ≤ a.toNat := by
      rcases g2 with g | ⟨_, g⟩
      · rw [lt_nat] at g
        omega
      · rw [less_nil] at g
        cases g
    have hn : ¬ (c < a ∨ (c = a ∧ Op.bytesLess o r = true)) := fun g => by
      have h1' : Op.bytesLess (c :: o) (a :: r) = false := h1
      rw [(less_cons c a o r).2 g] at h1'
      cases h1'
    have e : c = a := eq_nat c a (by
      have : ¬ c < a := fun g => hn (.inl g)
      rw [lt_nat] at this
      omega)
    subst e
    have hl : Op.bytesLess o r = false := by
      cases hh : Op.bytesLess o r with
      | false => rfl
      | true => exact absurd (.inr ⟨rfl, hh⟩) hn
    exact List.cons_prefix_cons.2 ⟨rfl, full_prefix r o hr hl⟩
  | q :: p, [], h1, h2 => by cases h1
  | q :: p, c :: o, h1, h2 => by
    have g2 := (less_cons c q o _).1 h2
    have hn : ¬ (c < q ∨ (c = q ∧ Op.bytesLess o (p ++ a :: r) = true)) := fun g => by
      have h1' : Op.bytesLess (c :: o) (q :: (p ++ a :: r)) = false := h1
      rw [(less_cons c q o _).2 g] at h1'
      cases h1'
    rcases g2 with g | ⟨rfl, g⟩
    · exact absurd (.inl g) hn
    · have hl : Op.bytesLess o (p ++ a :: r) = false := by
        cases hh : Op.bytesLess o (p ++ a :: r) with
        | false => rfl
        | true => exact absurd (.inr ⟨rfl, hh⟩) hn
      exact List.cons_prefix_cons.2 ⟨rfl, between a a1 ha r hr p o hl g⟩

/-! ### what the code computes -/
def full (s : ByteArray) (m : Nat) : Prop := ∀ j, m ≤ j → j < s.size → bt s (j : Int) = 255
theorem above_loop (s : ByteArray) (hs : s.size ≤ 140737488351232) : ∀ m, m ≤ s.size → full s m →
    (full s 0 ∧ ∃ k, tuple_Above.l0 k s (m : Int) = some (⟨#[]⟩, false)) ∨ ∃ i, i < s.size ∧ bt s (i : Int) ≠ 255 ∧ full s (i + 1) ∧ ∃ k, tuple_Above.l0 k s (m : Int) = some (s.extract 0 i ++ strOfNums [(bt s (i : Int) + 1) % 256], true)
  | 0, hm, hf => by
    refine .inl ⟨hf, 0 + 1, ?_⟩
    rw [tuple_Above.l0.eq_2, if_neg (by decide), if_pos (show ((0 : Nat) : Int) = 0 from rfl)]
  | m + 1, hm, hf => by
    have cw : wrap64 (((m + 1 : Nat) : Int) - 1) = (m : Int) := by rw [w64 _ (by omega) (by omega)]; omega
    by_cases h255 : bt s (m : Int) = 255
    · have hf2 : full s m := fun j h1 h2 => by
        rcases Nat.eq_or_lt_of_le h1 with rfl | h1
        · exact h255
        · exact hf j h1 h2
      rcases above_loop s hs m (by omega) hf2 with ⟨g, k, p⟩ | ⟨i, g1, g2, g3, k, p⟩
      · refine .inl ⟨g, k + 1, ?_⟩
        rw [tuple_Above.l0.eq_2, if_pos (by omega), cw, if_pos (Int.natCast_nonneg _), if_pos (by omega), if_pos h255, p]
      · refine .inr ⟨i, g1, g2, g3, k + 1, ?_⟩
        rw [tuple_Above.l0.eq_2, if_pos (by omega), cw, if_pos (Int.natCast_nonneg _), if_pos (by omega), if_pos h255, p]
    · refine .inr ⟨m, by omega, h255, hf, 0 + 1, ?_⟩
      have hz : (s.extract 0 m).size = m := by rw [ByteArray.size_extract]; omega
      have hz2 : (strOfNums [(bt s (m : Int) + 1) % 256]).size = 1 := rfl
      rw [tuple_Above.l0.eq_2, if_pos (by omega), cw, if_pos (Int.natCast_nonneg _), if_pos (by omega), if_neg h255, if_neg (by omega), if_pos (by omega), Option.bind_some, Int.toNat_natCast, hz, hz2, if_pos (by omega)]
/-- Behind the first loop. -/
def after (x0 x1 x2 x7 : ByteArray) (x8 x9 : Bool) : Option Bool := (if (x8 == x9) = true then (some false) else (if x8 = true then (if (x2.size : Int) ≥ (x0.size : Int) then (if 0 ≤ (x0.size : Int) then (if (x0.size : Int) ≤ (x2.size : Int) then (if (Op.bytesLess x0.toList x7.toList) = true then (if x0.size + x1.size ≤ 9223372036854775807 then (if (Op.bytesLess ((x0 ++ x1).toList) x7.toList) = true then (if ((Op.bytesLess x2.toList x0.toList) = true) then (some (false == ((x2.extract 0 ((x0.size : Int) : Int).toNat).toList == x0.toList))) else (some ((Op.bytesLess x2.toList x7.toList) == ((x2.extract 0 ((x0.size : Int) : Int).toNat).toList == x0.toList)))) else (some false)) else (none)) else (some false)) else (none)) else (none)) else (if (Op.bytesLess x0.toList x7.toList) = true then (if x0.size + x1.size ≤ 9223372036854775807 then (if (Op.bytesLess ((x0 ++ x1).toList) x7.toList) = true then (if ((Op.bytesLess x2.toList x0.toList) = true) then (some (false == false)) else (some ((Op.bytesLess x2.toList x7.toList) == false))) else (some false)) else (none)) else (some false))) else (some (x7.toList == ([] : List UInt8)))))
theorem full_loop (s x1 x2 u : ByteArray) (ok : Bool) (hs : s.size ≤ 140737488351232) : ∀ (n i : Nat) (b : Bool), i + n = s.size → (b = true ↔ ∀ j, j < i → bt s (j : Int) = 255) → ∃ b2 : Bool, (b2 = true ↔ full s 0) ∧ ∀ r, after s x1 x2 u ok b2 = some r → ∃ k, keystonelaw04_TupleAbove.l0 k s x1 x2 u ok b (s.size : Int) (i : Int) = some r
  | 0, i, b, h, hb => by
    refine ⟨b, ⟨fun h0 j _ hj => hb.1 h0 j (by omega), fun h0 => hb.2 (fun j hj => h0 j (Nat.zero_le _) (by omega))⟩, fun r hr => ⟨0 + 1, ?_⟩⟩
    rw [keystonelaw04_TupleAbove.l0.eq_2, if_neg (by omega)]
    exact hr
  | n + 1, i, b, h, hb => by
    have hi : i < s.size := by omega
    have key : ((b && (bt s (i : Int) == 255)) = true ↔ ∀ j, j < i + 1 → bt s (j : Int) = 255) := by
      rw [Bool.and_eq_true, hb, beq_iff_eq]
      constructor
      · rintro ⟨h1, h2⟩ j hj
        rcases Nat.lt_or_ge j i with hj2 | hj2
        · exact h1 j hj2
        · obtain rfl : j = i := by omega
          exact h2
      · intro h0
        exact ⟨fun j hj => h0 j (by omega), h0 i (by omega)⟩
    obtain ⟨b2, g1, g2⟩ := full_loop s x1 x2 u ok hs n (i + 1) (b && (bt s (i : Int) == 255)) (by omega) key
    refine ⟨b2, g1, fun r hr => ?_⟩
    obtain ⟨k, p⟩ := g2 r hr
    refine ⟨k + 1, ?_⟩
    rw [keystonelaw04_TupleAbove.l0.eq_2, if_pos (by omega), wsucc i (by omega)]
    cases b with
    | true =>
      rw [if_pos rfl, if_pos (Int.natCast_nonneg _), if_pos (by omega)]
      exact p
    | false =>
      rw [if_neg (by decide)]
      exact p
theorem TupleAbove : keystonelaw04_TupleAbove.Pure := by
  intro s more other hs hm ho
  have A := above_loop s hs s.size (Nat.le_refl _) (fun j h1 h2 => absurd h1 (by omega))
  -- the law's answer, once the parts are told
  have fin : ∀ (u : ByteArray) (ok : Bool), (∃ k, tuple_Above.f k s = some (u, ok)) → (∀ b2 : Bool, (b2 = true ↔ full s 0) → after s more other u ok b2 = some true) → ∃ k, keystonelaw04_TupleAbove.f k s more other = some true := by
    intro u ok ⟨k1, p1⟩ hall
    obtain ⟨b2, g1, g2⟩ := full_loop s more other u ok hs s.size 0 true (by omega) (by simp)
    obtain ⟨k2, p2⟩ := g2 true (hall b2 g1)
    refine ⟨10 + (k1 + k2), ?_⟩
    have q1 := up_le (f := fun k => tuple_Above.f k s) (fun k => tuple_Above.mono s k) p1 (10 + k2)
    have q2 := up_le (f := fun k => keystonelaw04_TupleAbove.l0 k s more other u ok true (s.size : Int) ((0 : Nat) : Int)) (fun k => keystonelaw04_TupleAbove.mono_l k _ _ _ _ _ _ _ _) p2 (10 + k1)
    rw [show k1 + (10 + k2) = 10 + (k1 + k2) by omega] at q1
    rw [show k2 + (10 + k1) = 10 + (k1 + k2) by omega] at q2
    unfold keystonelaw04_TupleAbove.f
    rw [begun_true, Option.bind_some, if_pos rfl, q1, Option.bind_some]
    exact q2
  rcases A with ⟨hf, k, p⟩ | ⟨i, h1, h2, h3, k, p⟩
  · refine fin ⟨#[]⟩ false ⟨k, p⟩ (fun b2 hb => ?_)
    rw [hb.2 hf]
    unfold after
    rw [if_neg (by decide), if_neg (by decide), show (⟨#[]⟩ : ByteArray).toList = [] from ByteArray.toList_mk []]
    rfl
  · refine fin _ true ⟨k, p⟩ (fun b2 hb => ?_)
    have hb2 : b2 = false := by
      cases b2 with
      | false => rfl
      | true => exact absurd (hb.1 rfl i (Nat.zero_le _) h1) h2
    subst hb2
    -- the bytes of both
    have hlen : s.data.toList.length = s.size := by rw [Array.length_toList]; rfl
    have hil : i < s.data.toList.length := by omega
    have hbt : bt s (i : Int) = ((s.data.toList[i]).toNat : Int) := by
      have hx : ∀ h : (i : Int).toNat < s.size, ((s[(i : Int).toNat]'h).toNat : Int) = bt s (i : Int) := bt_at s (i : Int)
      rw [← hx (by rw [Int.toNat_natCast]; exact h1)]
      simp only [Int.toNat_natCast]
      rfl
    generalize hp : s.data.toList.take i = p at *
    generalize hr : s.data.toList.drop (i + 1) = r at *
    generalize ha : s.data.toList[i] = a at *
    have hsl : s.data.toList = p ++ a :: r := by
      rw [← hp, ← hr, ← ha, ← List.drop_eq_getElem_cons hil, List.take_append_drop]
    have hr255 : ∀ b ∈ r, b.toNat = 255 := by
      intro b hb
      rw [← hr] at hb
      obtain ⟨j, hj, hjb⟩ := List.mem_iff_getElem.1 hb
      rw [List.length_drop] at hj
      rw [List.getElem_drop] at hjb
      have h4 := h3 (i + 1 + j) (by omega) (by omega)
      have hx : ∀ h : ((i + 1 + j : Nat) : Int).toNat < s.size, ((s[((i + 1 + j : Nat) : Int).toNat]'h).toNat : Int) = bt s ((i + 1 + j : Nat) : Int) := bt_at s ((i + 1 + j : Nat) : Int)
      rw [← hx (by rw [Int.toNat_natCast]; omega)] at h4
      simp only [Int.toNat_natCast] at h4
      have h5 : s[i + 1 + j] = b := hjb
      rw [h5] at h4
      omega
    have ha255 : a.toNat < 255 := by
      have := a.toNat_lt
      omega
    have hm1 : (bt s (i : Int) + 1) % 256 = ((a.toNat + 1 : Nat) : Int) := by omega
    have hu : (s.extract 0 i ++ strOfNums [(bt s (i : Int) + 1) % 256]).toList = p ++ [UInt8.ofNat (a.toNat + 1)] := by
      rw [ByteArray.toList_eq, hm1]
      have e1 : (s.extract 0 i).data.toList = p := by rw [← hp]; simp [ByteArray.data_extract]
      have e2 : (strOfNums [((a.toNat + 1 : Nat) : Int)]).data.toList = [UInt8.ofNat (a.toNat + 1)] := by
        unfold strOfNums
        rw [List.map_cons, List.map_nil, Int.toNat_natCast]
      rw [show (s.extract 0 i ++ strOfNums [((a.toNat + 1 : Nat) : Int)]).data.toList = (s.extract 0 i).data.toList ++ (strOfNums [((a.toNat + 1 : Nat) : Int)]).data.toList by simp [ByteArray.data_append], e1, e2]
    have ha1 : (UInt8.ofNat (a.toNat + 1)).toNat = a.toNat + 1 := by
      rw [UInt8.toNat_ofNat']
      omega
    have hsT : s.toList = p ++ a :: r := by rw [ByteArray.toList_eq]; exact hsl
    have hup : ∀ t : List UInt8, Op.bytesLess (p ++ a :: t) (p ++ [UInt8.ofNat (a.toNat + 1)]) = true := fun t => less_up p _ _ ((less_cons a _ t []).2 (.inl (by rw [lt_nat, ha1]; omega)))
    have hsm : (s ++ more).toList = p ++ a :: (r ++ more.data.toList) := by
      rw [ByteArray.toList_eq, show (s ++ more).data.toList = s.data.toList ++ more.data.toList by simp [ByteArray.data_append], hsl]
      simp
    have hext : (other.extract 0 s.size).toList = other.toList.take s.size := by
      rw [ByteArray.toList_eq, ByteArray.toList_eq]
      simp [ByteArray.data_extract]
    have hol : other.toList.length = other.size := by rw [ByteArray.toList_eq, Array.length_toList]; rfl
    have hsl2 : s.toList.length = s.size := by rw [ByteArray.toList_eq, Array.length_toList]; rfl
    unfold after
    rw [if_neg (by decide), if_pos rfl, hu, hsm]
    have hA : Op.bytesLess s.toList (p ++ [UInt8.ofNat (a.toNat + 1)]) = true := by rw [hsT]; exact hup r
    simp only [hA, hup, if_true]
    have B : ∀ P : Bool, (P = true ↔ s.toList <+: other.toList) → (if Op.bytesLess other.toList s.toList = true then some (false == P) else some (Op.bytesLess other.toList (p ++ [UInt8.ofNat (a.toNat + 1)]) == P)) = some true := by
      intro P hP
      by_cases hlt : Op.bytesLess other.toList s.toList = true
      · rw [if_pos hlt]
        have : P = false := by
          cases hPv : P with
          | false => rfl
          | true =>
            obtain ⟨t, ht⟩ := hP.1 hPv
            rw [← ht, less_own] at hlt
            cases hlt
        rw [this]
        rfl
      · rw [if_neg hlt]
        have hlt2 : Op.bytesLess other.toList s.toList = false := by simpa using hlt
        cases hPv : P with
        | true =>
          obtain ⟨t, ht⟩ := hP.1 hPv
          rw [← ht, hsT, List.append_assoc, List.cons_append, hup]
          rfl
        | false =>
          cases hlu : Op.bytesLess other.toList (p ++ [UInt8.ofNat (a.toNat + 1)]) with
          | false => rfl
          | true =>
            rw [hsT] at hlt2
            have := between a _ ha1 r hr255 p other.toList hlt2 hlu
            rw [← hsT] at this
            rw [hP.2 this] at hPv
            cases hPv
    by_cases hge : (other.size : Int) ≥ (s.size : Int)
    · rw [if_pos hge, if_pos (Int.natCast_nonneg _), if_pos (by omega), if_pos (by omega), Int.toNat_natCast, hext]
      refine B _ ?_
      rw [beq_iff_eq, List.prefix_iff_eq_take, hsl2]
      exact eq_comm
    · rw [if_neg hge, if_pos (by omega)]
      refine B false ⟨fun h => absurd h (by decide), fun h => ?_⟩
      have := h.length_le
      omega
end Go.Proofs.YtdonndklddjfiaaDoor.Pure
