/- The plain part of LexisBack: what the walk computes is always true. Condition: none beyond the arguments' own ranges. -/
import Derived.Test.YtmloklmcoedciaaDoorKBx10
import Derived.Test.YtmloklmcoedciaaDoorPureSp5
namespace Go.Proofs.YtmloklmcoedciaaDoor.Pure.Sp
open Go.RowKit Go.Proofs.YtmloklmcoedciaaDoor.KB Go.Proofs.YtmloklmcoedciaaDoorW.PrintWords Go.Proofs.YtmloklmcoedciaaDoorW.PrintLast
set_option linter.unusedVariables false

set_option maxRecDepth 100000 in
theorem begun100 : keystonelaw12_begun.f 100 = some true := by decide +kernel
theorem begun_true : ∀ d, keystonelaw12_begun.f (100 + d) = some true
  | 0 => begun100
  | d + 1 => keystonelaw12_begun.mono (100 + d) true (begun_true d)
theorem rd_at (l : List S35) (i : Nat) (h : i < l.length) : rd_T35 l (i : Int) = l[i] := by
  unfold rd_T35
  simp [h]
theorem same_token (t : S35) (h : t.f2.f4 = ⟨0, 0⟩) : keystonelaw12_sameToken.f t.f0 t.f1 t.f2.f0 t.f2.f1 t.f2.f2 t.f2.f3 t.f2.f4 t.f3 t.f0 t.f1 t.f2.f0 t.f2.f1 t.f2.f2 t.f2.f3 t.f2.f4 t.f3 = some true := by
  unfold keystonelaw12_sameToken.f keystoneref04_SameValue.f
  rw [if_pos rfl, if_pos rfl, if_pos rfl, if_pos rfl, if_pos rfl, if_pos (beq_self_eq_true _), if_pos rfl, h]
  decide
theorem same_loop (l : List S35) (hl : l.length ≤ 140737488351232) (hp : ∀ t ∈ l, t.f2.f4 = ⟨0, 0⟩) : ∀ (n i : Nat), i + n = l.length → keystonelaw12_same.l0 (n + 1) l l (l.length : Int) (i : Int) = some true
  | 0, i, h => by
    rw [keystonelaw12_same.l0.eq_2, if_neg (by omega)]
  | n + 1, i, h => by
    have hi : i < l.length := by omega
    have hm : (rd_T35 l (i : Int)).f2.f4 = ⟨0, 0⟩ := by
      rw [rd_at l i hi]
      exact hp _ (List.getElem_mem _)
    rw [keystonelaw12_same.l0.eq_2, if_pos (by omega), if_pos (Int.natCast_nonneg _), if_pos (by omega), if_pos (by omega), same_token _ hm, Option.bind_some, if_pos rfl, wsucc i (by omega), same_loop l hl hp n (i + 1) (by omega)]
theorem same_self (l : List S35) (hl : l.length ≤ 140737488351232) (hp : ∀ t ∈ l, t.f2.f4 = ⟨0, 0⟩) : keystonelaw12_same.f (l.length + 1) l l = some true := by
  unfold keystonelaw12_same.f
  rw [if_pos rfl]
  exact same_loop l hl hp l.length 0 (by omega)
theorem toks_plain {s : ByteArray} {i : Nat} {l : List S35} (h : Toks s i l) : ∀ t ∈ l, t.f2.f4 = ⟨0, 0⟩ := by
  induction h with
  | nil i h => simp
  | cons i e t l h1 h2 ih =>
    intro u hu
    rcases List.mem_cons.1 hu with rfl | hu
    · exact (tok_plain h1).1
    · exact ih u hu

/-! ### what is quoted is read back -/
theorem at_whole (s : ByteArray) : At s 0 s.data.toList := ⟨[], [], by simp, rfl⟩
theorem unquote_of (b : ByteArray) (hb : b.size ≤ 4096) : ∃ k, lexis_Unquote.f k (strOfNums ([34] ++ (es (nums b 0) ++ [34]))) = some (b, 0) := by
  have hin := nums_in b 0
  have hlen := nums_len b
  have hel := es_len (nums b 0) hin
  generalize hq : strOfNums ([34] ++ (es (nums b 0) ++ [34])) = q
  have hat : At q 0 (([34] ++ (es (nums b 0) ++ [34])).map u8) := by
    have := at_whole q
    rw [← hq, str_data, hq] at this
    exact this
  have hz : q.size = 1 + (es (nums b 0)).length + 1 := by
    rw [← hq, str_size]
    simp only [List.length_append, List.length_cons, List.length_nil]
    omega
  rw [List.map_append] at hat
  have h0 := at_head hat
  have hrd := rd_of_at q (nums b 0) 1 hin (at_app hat)
  have ht := TokAt.text (s := q) (i := 0) (e := 1 + (es (nums b 0)).length + 1) (nums b 0) h0.1 h0.2 hrd (by omega)
  obtain ⟨k, p⟩ := next_of q (by omega) 0 _ _ ht
  have p' : lexis_reader_next.f k q 0 = some (3, ⟨#[]⟩, 3, 0, false, b, ⟨0, 0⟩, 0, 0, 0, q, (q.size : Int)) := by
    rw [hz]
    have := p
    rw [show (tok 3 ⟨#[]⟩ 3 0 (strOfNums (nums b 0)) ((0 : Nat) : Int)) = ⟨3, ⟨#[]⟩, ⟨3, 0, false, b, ⟨0, 0⟩⟩, 0⟩ by rw [str_nums]; rfl] at this
    exact this
  have hb0 : bt q 0 = 34 := h0.2
  have hne : ¬ q.toList = ([] : List UInt8) := fun h => by
    rw [nil_iff] at h
    omega
  have p2 := up_le (f := fun k => lexis_reader_next.f k q 0) (fun k => lexis_reader_next.mono q 0 k) p' 1
  refine ⟨k + 1 + 1, ?_⟩
  rw [lexis_Unquote.f, if_neg hne, if_pos (by omega), hb0, lexis_Unquote.j0.eq_2, if_neg (by decide), p2, Option.bind_some]
  show (if (0 : Int) = 3 then _ else lexis_Unquote.j1 (k + 1) q 0 false q (q.size : Int) 3 ⟨#[]⟩ 3 0 false b ⟨0, 0⟩ 0) = _
  rw [if_neg (by decide), lexis_Unquote.j1.eq_2, if_neg (by decide), if_pos rfl, if_pos rfl]

/-! ### the text that is written -/
theorem back_l1 (l m : List S35) (hl : l.length ≤ 140737488351232) (hm : m.map strip = l.map strip) (hp : ∀ t ∈ l, t.f2.f4 = ⟨0, 0⟩) : ∀ (n i : Nat), i + n = l.length → ∃ k, keystonelaw12_LexisBack.l1 k l (l.take i ++ m.drop i) (l.length : Int) (i : Int) = some true
  | 0, i, h => by
    have hlen : m.length = l.length := by have := congrArg List.length hm; simpa using this
    refine ⟨l.length + 1 + 1, ?_⟩
    rw [keystonelaw12_LexisBack.l1.eq_2, if_neg (by omega), List.take_of_length_le (by omega), List.drop_eq_nil_of_le (by omega), List.append_nil, same_self l hl hp, Option.bind_some]
  | n + 1, i, h => by
    have hlen : m.length = l.length := by have := congrArg List.length hm; simpa using this
    have hi : i < l.length := by omega
    have him : i < m.length := by omega
    obtain ⟨k, p⟩ := back_l1 l m hl hm hp n (i + 1) (by omega)
    have hs : strip m[i] = strip l[i] := by
      have h1 : (m.map strip)[i]? = (l.map strip)[i]? := by rw [hm]
      rw [List.getElem?_map, List.getElem?_map, List.getElem?_eq_getElem hi, List.getElem?_eq_getElem him] at h1
      exact Option.some.inj h1
    have hx : (l.take i ++ m.drop i).length = l.length := by
      rw [List.length_append, List.length_take, List.length_drop]
      omega
    have hrd : rd_T35 (l.take i ++ m.drop i) (i : Int) = m[i] := by
      rw [rd_at _ i (by omega)]
      rw [List.getElem_append_right (by rw [List.length_take]; omega)]
      simp only [List.getElem_drop, List.length_take]
      congr 1
      omega
    have hv : (⟨m[i].f0, m[i].f1, (⟨m[i].f2.f0, m[i].f2.f1, m[i].f2.f2, m[i].f2.f3, m[i].f2.f4⟩ : S33), l[i].f3⟩ : S35) = l[i] := by
      have e : ∀ a b : S35, strip a = strip b → (⟨a.f0, a.f1, (⟨a.f2.f0, a.f2.f1, a.f2.f2, a.f2.f3, a.f2.f4⟩ : S33), b.f3⟩ : S35) = b := by
        rintro ⟨a0, a1, ⟨a2, a3, a4, a5, a6⟩, a7⟩ ⟨b0, b1, ⟨b2, b3, b4, b5, b6⟩, b7⟩ h
        simp only [strip, S35.mk.injEq] at h
        obtain ⟨rfl, rfl, h, _⟩ := h
        rw [h]
      exact e _ _ hs
    refine ⟨k + 1, ?_⟩
    rw [keystonelaw12_LexisBack.l1.eq_2, if_pos (by omega), if_pos (Int.natCast_nonneg _), if_pos (by omega), if_pos (by rw [hx]; omega), hrd, rd_at l i hi, hv, wsucc i (by omega), Int.toNat_natCast]
    have hset : (l.take i ++ m.drop i).set i l[i] = l.take (i + 1) ++ m.drop (i + 1) := by
      rw [List.set_append_right _ _ (by rw [List.length_take]; omega), List.length_take, show i - min i l.length = 0 by omega, List.drop_eq_getElem_cons him, List.set_cons_zero, List.take_succ_eq_append_getElem hi, List.append_assoc]
      rfl
    rw [hset]
    exact p
/-- What stands behind the first loop. -/
def after (k : Nat) (l : List S35) (T : ByteArray) : Option Bool := if (T.size : Int) > 65536 then (some true) else ((lexis_Tokens.f k T).bind fun bt385 => (if bt385.2.2 = 0 then (keystonelaw12_LexisBack.j2 k l bt385.1 ((bt385.1.length : Int) != (l.length : Int))) else (keystonelaw12_LexisBack.j2 k l bt385.1 true)))
theorem back_l0 (l : List S35) (hl : l.length ≤ 65536) : ∀ (n i : Nat) (y : ByteArray) (x : List UInt8), i + n = l.length → Wrs (l.drop i) x → y.size ≤ 20001 * i →
    ∃ T : ByteArray, T.data.toList = y.data.toList ++ x ∧ ∀ r, (∃ k, after k l T = some r) → ∃ k, keystonelaw12_LexisBack.l0 k l y l (l.length : Int) (i : Int) = some r
  | 0, i, y, x, h, hw, hy => by
    rw [List.drop_eq_nil_of_le (by omega)] at hw
    cases hw
    refine ⟨y, by simp, fun r ⟨k, p⟩ => ⟨k + 1, ?_⟩⟩
    rw [keystonelaw12_LexisBack.l0.eq_2, if_neg (by omega)]
    exact p
  | n + 1, i, y, x, h, hw, hy => by
    have hi : i < l.length := by omega
    rw [List.drop_eq_getElem_cons hi] at hw
    generalize htl : l[i] = t at hw
    cases hw with
    | cons t w l' x' g1 g2 g3 g4 =>
      obtain ⟨k1, p1⟩ := g1
      have hz : (w ++ (⟨#[32]⟩ : ByteArray)).size = w.size + 1 := by rw [ByteArray.size_append]; rfl
      obtain ⟨T, hT, hr⟩ := back_l0 l hl n (i + 1) (y ++ (w ++ (⟨#[32]⟩ : ByteArray))) x' (by omega) g4 (by rw [ByteArray.size_append, hz]; omega)
      refine ⟨T, ?_, fun r hk => ?_⟩
      · rw [hT, data_app, data_app]
        simp
      · obtain ⟨k2, p2⟩ := hr r hk
        refine ⟨k1 + k2 + 1, ?_⟩
        rw [keystonelaw12_LexisBack.l0.eq_2, if_pos (by omega), if_pos (Int.natCast_nonneg _), if_pos (by omega), rd_at l i hi, htl,
          up_le (f := fun k => keystonelaw12_written.f k t.f0 t.f1 t.f2.f0 t.f2.f1 t.f2.f2 t.f2.f3 t.f2.f4 t.f3) (fun k => keystonelaw12_written.mono _ _ _ _ _ _ _ _ k) p1 k2, Option.bind_some]
        simp only [if_true]
        rw [if_pos (by omega), hz, if_pos (by omega), wsucc i (by omega), Nat.add_comm]
        exact up_le (f := fun k => keystonelaw12_LexisBack.l0 k l (y ++ (w ++ (⟨#[32]⟩ : ByteArray))) l (l.length : Int) ((i + 1 : Nat) : Int)) (fun k => (keystonelaw12_LexisBack.mono_l k).2.1 _ _ _ _ _) p2 k1
theorem back_j0 (s : ByteArray) (hs : s.size ≤ 140737488351232) : ∃ k, keystonelaw12_LexisBack.j0 k s = some true := by
  rcases Tokens_spec s hs with ⟨hsz, l, ht⟩ | ⟨pl, er, q1, q2, k, p⟩
  · have hlen := toks_len ht
    have hpl := toks_plain ht
    obtain ⟨k1, p1⟩ := Tokens_of s hsz l ht
    obtain ⟨x, hw⟩ := wrs_of ht
    obtain ⟨T, hT, hr⟩ := back_l0 l (by omega) l.length 0 ⟨#[]⟩ x (by omega) hw (by show 0 ≤ _; omega)
    have hT2 : T.data.toList = x := hT
    have hz : T.size = 0 + x.length := by rw [← hT2, data_size]; omega
    have haf : ∃ k, after k l T = some true := by
      by_cases hlong : (T.size : Int) > 65536
      · exact ⟨0, by unfold after; rw [if_pos hlong]⟩
      · obtain ⟨g1, m, g2, g3⟩ := retok hw T 0 (by rw [← hT2]; exact at_whole T) hz
        obtain ⟨k2, p2⟩ := Tokens_of T (by omega) m (by rw [g1]; exact g2)
        have hm : m.length = l.length := by have := congrArg List.length g3; simpa using this
        obtain ⟨k3, p3⟩ := back_l1 l m (by omega) g3 hpl l.length 0 (by omega)
        refine ⟨k2 + (k3 + 1), ?_⟩
        have e1 := up_le (f := fun k => lexis_Tokens.f k T) (fun k => lexis_Tokens.mono T k) p2 (k3 + 1)
        have p3' : keystonelaw12_LexisBack.l1 k3 l m (l.length : Int) 0 = some true := p3
        have e3 : keystonelaw12_LexisBack.j2 (k3 + 1) l m false = some true := by
          rw [keystonelaw12_LexisBack.j2.eq_2, if_neg (by decide)]
          exact p3'
        have e4 := up_le (f := fun k => keystonelaw12_LexisBack.j2 k l m false) (fun k => (keystonelaw12_LexisBack.mono_l k).2.2.1 _ _ _) e3 k2
        unfold after
        rw [if_neg hlong, e1, Option.bind_some]
        simp only [if_true]
        rw [hm, show ((l.length : Int) != (l.length : Int)) = false by simp, Nat.add_comm]
        exact e4
    obtain ⟨k4, p4⟩ := hr true haf
    refine ⟨k1 + k4 + 1, ?_⟩
    rw [keystonelaw12_LexisBack.j0.eq_2, up_le (f := fun k => lexis_Tokens.f k s) (fun k => lexis_Tokens.mono s k) p1 k4, Option.bind_some]
    simp only [if_true]
    rw [Nat.add_comm]
    exact up_le (f := fun k => keystonelaw12_LexisBack.l0 k l ⟨#[]⟩ l (l.length : Int) 0) (fun k => (keystonelaw12_LexisBack.mono_l k).2.1 _ _ _ _ _) p4 k1
  · refine ⟨k + 1, ?_⟩
    rw [keystonelaw12_LexisBack.j0.eq_2, p, Option.bind_some]
    simp only [if_neg q2]
theorem LexisBack : keystonelaw12_LexisBack.Pure := by
  intro b s hb hs
  obtain ⟨k1, p1⟩ := back_j0 s hs
  by_cases hlong : (b.size : Int) ≤ 4096
  · obtain ⟨k2, p2⟩ := quote_of b (by omega)
    obtain ⟨k3, p3⟩ := unquote_of b (by omega)
    have q1 := up_le (f := fun k => keystonelaw12_LexisBack.j0 k s) (fun k => (keystonelaw12_LexisBack.mono_l k).1 _) p1 (100 + k2 + k3)
    have q2 := up_le (f := fun k => lexis_Quote.f k b) (fun k => lexis_Quote.mono b k) p2 (100 + k1 + k3)
    have q3 := up_le (f := fun k => lexis_Unquote.f k (strOfNums ([34] ++ (es (nums b 0) ++ [34])))) (fun k => lexis_Unquote.mono _ k) p3 (100 + k1 + k2)
    refine ⟨100 + (k1 + k2 + k3), ?_⟩
    rw [show k1 + (100 + k2 + k3) = 100 + (k1 + k2 + k3) by omega] at q1
    rw [show k2 + (100 + k1 + k3) = 100 + (k1 + k2 + k3) by omega] at q2
    rw [show k3 + (100 + k1 + k2) = 100 + (k1 + k2 + k3) by omega] at q3
    unfold keystonelaw12_LexisBack.f
    rw [begun_true, Option.bind_some, if_pos rfl, q2, Option.bind_some, decide_eq_true hlong, if_neg (show ¬ ((((0 : Int) == 0) != true) = true) by decide)]
    simp only [if_true]
    rw [q3, Option.bind_some]
    simp only [if_true]
    exact q1
  · have q1 := up_le (f := fun k => keystonelaw12_LexisBack.j0 k s) (fun k => (keystonelaw12_LexisBack.mono_l k).1 _) p1 100
    refine ⟨100 + k1, ?_⟩
    rw [Nat.add_comm] at q1
    unfold keystonelaw12_LexisBack.f
    rw [begun_true, Option.bind_some, if_pos rfl, lexis_Quote.f, if_pos (by omega), Option.bind_some, decide_eq_false hlong, if_neg (by decide), if_neg (by decide)]
    exact q1
end Go.Proofs.YtmloklmcoedciaaDoor.Pure.Sp
namespace Go.Proofs.YtmloklmcoedciaaDoor.Pure
theorem LexisBack : Go.Proofs.YtmloklmcoedciaaDoor.KB.keystonelaw12_LexisBack.Pure := Sp.LexisBack
end Go.Proofs.YtmloklmcoedciaaDoor.Pure
