/- The plain part of LexisPlaces: what the walk computes is always true. Condition: none beyond the arguments' own ranges. -/
import Derived.Test.YtmloklmcoedciaaDoorKAx15
import Derived.Test.YtmloklmcoedciaaDoorPureBegun
import Derived.Laws.Strings
namespace Go.Proofs.YtmloklmcoedciaaDoor.Pure
open Go.RowKit Go.Proofs.YtmloklmcoedciaaDoor.KA Go.Proofs.YtmloklmcoedciaaDoorW.PrintWords Go.Proofs.YtmloklmcoedciaaDoorW.PrintLast

theorem wrap64_id (x : Int) (h0 : -9223372036854775808 ≤ x) (h1 : x < 9223372036854775808) : wrap64 x = x := by
  unfold wrap64
  omega
/-- How many line ends stand among the first i bytes. -/
def cnt (x : ByteArray) (i : Nat) : Nat := (x.data.toList.take i).count 10
theorem cnt_zero (x : ByteArray) : cnt x 0 = 0 := rfl
theorem cnt_le (x : ByteArray) (i : Nat) : cnt x i ≤ i := Nat.le_trans List.count_le_length (by rw [List.length_take]; omega)
theorem byte_at (x : ByteArray) (i : Nat) (h : i < x.size) : ∃ b : UInt8, x.data.toList[i]? = some b ∧ x.data[i]! = b ∧ bt x (i : Int) = (b.toNat : Int) := by
  have h2 : i < x.data.size := h
  refine ⟨x.data[i], by simp, getElem!_pos x.data i h2, ?_⟩
  rw [Lx.bt_nat x i h]
  rfl
theorem cnt_succ (x : ByteArray) (i : Nat) (b : UInt8) (h : x.data.toList[i]? = some b) : cnt x (i + 1) = cnt x i + if b = 10 then 1 else 0 := by
  unfold cnt
  rw [List.take_add_one, h, List.count_append]
  by_cases hb : b = 10
  · subst hb
    rfl
  · rw [if_neg hb]
    simp [hb]
theorem last_bd (x : ByteArray) (i : Nat) : -1 ≤ Lib.lastIdx x 10 i ∧ Lib.lastIdx x 10 i < i := by
  rcases Lib.lastIdx_spec x 10 i with ⟨e, _⟩ | ⟨j, hj, e, _⟩ <;> omega
theorem ref_loop (x : ByteArray) (p : Nat) (hp : p ≤ x.size) (hs : x.size ≤ 140737488351232) : ∀ (n i k : Nat), i + n = p →
    keystoneref12_Place.l0 (n + 1 + k) x (p : Int) (1 + (cnt x i : Int)) ((i : Int) - Lib.lastIdx x 10 i) (i : Int) = some (1 + (cnt x p : Int), (p : Int) - Lib.lastIdx x 10 p, 0)
  | 0, i, k, h => by
    obtain rfl : i = p := by omega
    rw [show 0 + 1 + k = k + 1 by omega]
    simp only [keystoneref12_Place.l0]
    rw [if_neg (by omega)]
  | n + 1, i, k, h => by
    rw [show n + 1 + 1 + k = (n + 1 + k) + 1 by omega]
    simp only [keystoneref12_Place.l0]
    obtain ⟨b, h1, h2, h3⟩ := byte_at x i (by omega)
    have hc := cnt_succ x i b h1
    have hl := last_bd x i
    have hcl := cnt_le x i
    have ih := ref_loop x p hp hs n (i + 1) k (by omega)
    have hb : b.toNat < 256 := b.toNat_lt
    rw [if_pos (by omega), if_pos (by omega), if_pos (by omega), h3, wrap64_id ((i : Int) + 1) (by omega) (by omega)]
    have hlast : Lib.lastIdx x 10 (i + 1) = if ((x.data[i]!).toNat : Int) = 10 then (i : Int) else Lib.lastIdx x 10 i := rfl
    rw [h2] at hlast
    by_cases h10 : (b.toNat : Int) = 10
    · have hb10 : b = 10 := UInt8.toNat_inj.1 (by simpa using Int.ofNat.inj h10)
      rw [if_pos h10] at hlast ⊢
      rw [if_pos hb10] at hc
      rw [hlast, hc] at ih
      rw [wrap64_id _ (by omega) (by omega), ← ih]
      congr 1 <;> omega
    · have hb10 : ¬ b = 10 := fun e => h10 (by rw [e]; rfl)
      rw [if_neg h10] at hlast ⊢
      rw [if_neg hb10] at hc
      rw [hlast, hc] at ih
      rw [wrap64_id _ (by omega) (by omega), ← ih]
      congr 1 <;> omega
theorem last_cut (x : ByteArray) (p : Nat) (hp : p ≤ x.size) : ∀ i, i ≤ p → Lib.lastIdx (x.extract 0 p) 10 i = Lib.lastIdx x 10 i
  | 0, _ => rfl
  | i + 1, h => by
    have e : (x.extract 0 p).data[i]! = x.data[i]! := by
      have h1 : i < x.data.size := by have : x.data.size = x.size := rfl; omega
      have h2 : i < (x.extract 0 p).data.size := by
        have : (x.extract 0 p).data.size = (x.extract 0 p).size := rfl
        rw [this, ByteArray.size_extract]
        omega
      rw [getElem!_pos (x.extract 0 p).data i h2, getElem!_pos x.data i h1]
      simp [ByteArray.data_extract]
    show (if _ then _ else _) = (if _ then _ else _)
    rw [e, last_cut x p hp i (by omega)]
theorem place_same (x : ByteArray) (hs : x.size ≤ 140737488351232) (a : Int) (k : Nat) (hk : x.size + 10 ≤ k) : ∃ r, lexis_Place.f k x a = some r ∧ keystoneref12_Place.f k x a = some r := by
  obtain ⟨m, rfl⟩ : ∃ m, k = m + 1 := ⟨k - 1, by omega⟩
  unfold lexis_Place.f keystoneref12_Place.f
  by_cases h0 : a < 0
  · rw [if_pos h0, if_pos h0]
    exact ⟨_, rfl, rfl⟩
  · rw [if_neg h0, if_neg h0]
    simp only [lexis_Place.j0, keystoneref12_Place.j0]
    by_cases h1 : a > (x.size : Int)
    · rw [if_pos (decide_eq_true h1), if_pos (decide_eq_true h1)]
      exact ⟨_, rfl, rfl⟩
    · have hn : ¬ decide (a > (x.size : Int)) = true := by simpa using h1
      obtain ⟨p, rfl⟩ := Int.eq_ofNat_of_zero_le (show 0 ≤ a by omega)
      have hp : p ≤ x.size := by omega
      rw [if_neg hn, if_neg hn, if_pos (by omega), if_pos (by omega), Int.toNat_natCast]
      have hz : (x.extract 0 p).size = p := by rw [ByteArray.size_extract]; omega
      have hc : strings_Count.f (x.extract 0 p) ⟨#[10]⟩ = some (cnt x p : Int) := by
        unfold strings_Count.f
        rw [if_pos rfl]
        unfold Lib.countByte cnt
        congr 3
        simp [ByteArray.data_extract]
      have hl : strings_LastIndexByte.f (x.extract 0 p) 10 = some (Lib.lastIdx x 10 p) := by
        unfold strings_LastIndexByte.f
        rw [if_pos (by omega)]
        unfold Lib.lastIndexByte
        rw [hz, last_cut x p hp p (Nat.le_refl _)]
      have hr := ref_loop x p hp hs p 0 (m - p - 1) (by omega)
      rw [show p + 1 + (m - p - 1) = m by omega] at hr
      have hb := last_bd x p
      have hcl := cnt_le x p
      rw [hc, hl]
      simp only [Option.bind_some]
      rw [wrap64_id _ (by omega) (by omega), wrap64_id _ (by omega) (by omega)]
      exact ⟨_, rfl, hr⟩
theorem LexisPlaces : keystonelaw12_LexisPlaces.Pure := by
  intro a0 a1 h0 _
  obtain ⟨r, h1, h2⟩ := place_same a0 h0 a1 (100 + (a0.size + 10)) (by omega)
  refine ⟨100 + (a0.size + 10), ?_⟩
  unfold keystonelaw12_LexisPlaces.f
  rw [h1, h2, begun_true]
  simp
end Go.Proofs.YtmloklmcoedciaaDoor.Pure
