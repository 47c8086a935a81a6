/- The plain part of LexisCuts: what the walk computes is always true. Condition: none beyond the arguments' own ranges. -/
import Derived.Test.YtmloklmcoedciaaDoorKAx11
import Derived.Test.YtmloklmcoedciaaDoorPureBegun
import Derived.Test.YtmloklmcoedciaaDoorPureTok6
namespace Go.Proofs.YtmloklmcoedciaaDoor.Pure
open Go.RowKit Go.Proofs.YtmloklmcoedciaaDoor.KA Go.Proofs.YtmloklmcoedciaaDoorW.PrintWords Go.Proofs.YtmloklmcoedciaaDoorW.PrintLast
set_option linter.unusedVariables false
open Tok (Plain up_le tokens_both)

theorem same_token (t : S35) (h : Plain t) : keystonelaw12_sameToken.f t.f0 t.f1 t.f2.f0 t.f2.f1 t.f2.f2 t.f2.f3 t.f2.f4 t.f3 t.f0 t.f1 t.f2.f0 t.f2.f1 t.f2.f2 t.f2.f3 t.f2.f4 t.f3 = some true := by
  unfold keystonelaw12_sameToken.f keystoneref04_SameValue.f
  rw [if_pos rfl, if_pos rfl, if_pos rfl, if_pos rfl, if_pos rfl, if_pos (beq_self_eq_true _), if_pos rfl, h]
  decide
theorem same_loop (l : List S35) (hl : l.length ≤ 140737488351232) (hp : ∀ t ∈ l, Plain t) : ∀ (n i : Nat), i + n = l.length → keystonelaw12_same.l0 (n + 1) l l (l.length : Int) (i : Int) = some true
  | 0, i, h => by
    rw [keystonelaw12_same.l0.eq_2, if_neg (by omega)]
  | n + 1, i, h => by
    have hi : i < l.length := by omega
    have hm : Plain (rd_T35 l (i : Int)) := by
      refine hp _ ?_
      unfold rd_T35
      simp [hi]
    rw [keystonelaw12_same.l0.eq_2, if_pos (by omega), if_pos (Int.natCast_nonneg _), if_pos (by omega), if_pos (by omega), same_token _ hm, Option.bind_some, if_pos rfl, Tok.wsucc i (by omega), same_loop l hl hp n (i + 1) (by omega)]
theorem same_self (l : List S35) (hl : l.length ≤ 140737488351232) (hp : ∀ t ∈ l, Plain t) : keystonelaw12_same.f (l.length + 1) l l = some true := by
  unfold keystonelaw12_same.f
  rw [if_pos rfl]
  exact same_loop l hl hp l.length 0 (by omega)
theorem LexisCuts : keystonelaw12_LexisCuts.Pure := by
  intro s hs
  obtain ⟨r, hr, hlen, ⟨k1, p1⟩, k2, p2⟩ := tokens_both s hs
  refine ⟨100 + (k1 + (k2 + (r.1.length + 1))), ?_⟩
  have q1 := up_le (f := fun k => lexis_Tokens.f k s) (fun k => lexis_Tokens.mono s k) p1 (100 + (k2 + (r.1.length + 1)))
  have q2 := up_le (f := fun k => keystoneref12_Tokens.f k s) (fun k => keystoneref12_Tokens.mono s k) p2 (100 + (k1 + (r.1.length + 1)))
  have q3 := up_le (f := fun k => keystonelaw12_same.f k r.1 r.1) (fun k => keystonelaw12_same.mono r.1 r.1 k) (same_self r.1 hlen hr) (100 + (k1 + k2))
  rw [show k1 + (100 + (k2 + (r.1.length + 1))) = 100 + (k1 + (k2 + (r.1.length + 1))) by omega] at q1
  rw [show k2 + (100 + (k1 + (r.1.length + 1))) = 100 + (k1 + (k2 + (r.1.length + 1))) by omega] at q2
  rw [show r.1.length + 1 + (100 + (k1 + k2)) = 100 + (k1 + (k2 + (r.1.length + 1))) by omega] at q3
  unfold keystonelaw12_LexisCuts.f
  rw [q1, Option.bind_some, q2, Option.bind_some, begun_true, Option.bind_some, if_pos rfl, if_pos rfl, if_pos rfl, q3, Option.bind_some]
end Go.Proofs.YtmloklmcoedciaaDoor.Pure
