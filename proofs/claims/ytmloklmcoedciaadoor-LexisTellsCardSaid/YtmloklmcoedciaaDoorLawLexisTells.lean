/- What is proved: the law LexisTells of layer 12 returns true for every string and every int, never panics and leaves its arguments as they were; and the card that ties what it reads of package-level variables to the program's text. Conditions: those of the given row alone (the five listed variables read as the program's text lays them, which the card ties; a string of at most 2^47 - 4096 bytes). -/
import Derived.Test.YtmloklmcoedciaaDoorRows
import Derived.Test.YtmloklmcoedciaaDoorPureBegun
import Derived.Test.YtmloklmcoedciaaDoorPureTok6
import Derived.Test.YtmloklmcoedciaaDoorTellsWalk
import Derived.Test.YtmloklmcoedciaaDoorTie
import Derived.Test.YtmloklmcoedciaaDoorCards
import Derived.Test.YtmloklmcoedciaaDoorLaidFive
import Derived.SevenTiedAt
import Derived.WalkKit
import Derived.ProofKit
import Derived.OpenShut
import Derived.ShutString
import Derived.ChangeOld
import Derived.Below
import Derived.SizedLaws
namespace Go.Proofs.YtmloklmcoedciaaDoor.lexisTells
open Go.ChangeShapes Go.WideShapes Go.ChangeAt Go.RowKit
open Go.ChangeMaps (open_string shut_string)
set_option linter.unusedVariables false
open Pure.Tok (Plain up_le ahead_both)
/-- The program's and the document's tokens ahead of a fault are one list, each of whose tokens is like itself: the law's walk answers true. -/
theorem walk (s : ByteArray) (stop : Int) (w : World) (hs : s.size ≤ 140737488351232) (hGE : KA.GE w) :
    Calls Tryd.prog 6 #[.string s, .int .i64 stop] w fun e w' => e = .returned (.bool true) ∧ Below w.heap.size w w' := by
  obtain ⟨⟨L, r2, r3⟩, hr, hlen, ⟨k1, p1⟩, k2, p2⟩ := ahead_both s hs
  have q1 := up_le (f := fun k => KA.lexis_tokens.f k s) (fun k => KA.lexis_tokens.mono s k) p1 (100 + k2)
  have q2 := up_le (f := fun k => KA.keystoneref12_Ahead.f k s) (fun k => KA.keystoneref12_Ahead.mono s k) p2 (100 + k1)
  rw [show k1 + (100 + k2) = 100 + (k1 + k2) by omega] at q1
  rw [show k2 + (100 + k1) = 100 + (k1 + k2) by omega] at q2
  refine Iter.tells_calls (100 + (k1 + k2)) s stop L r2 r3 w hGE hlen (Pure.begun_true _) q2 q1 (fun t ht => ?_)
  have h : Plain t := hr t ht
  unfold KA.keystonelaw12_sameToken.f KA.keystoneref04_SameValue.f
  rw [if_pos rfl, if_pos rfl, if_pos rfl, if_pos rfl, if_pos rfl, if_pos (beq_self_eq_true _), if_pos rfl, h]
  decide
theorem own : ownKnob Tryd.prog.godebug = none := by kernel_rfl
set_option maxRecDepth 100000 in
theorem lifted (os : Os) (started : os.Started) (H : Type) (enc : TypeId × Value → H) :
    ReturnsInHanded {} Tryd.checked os 6 .any (fun w args => (Rows.lexisTellsSpec.pre enc Tryd.prog Tryd.f6 Rows.lexisTellsRow.domain false w args ∧ laidMetH Tryd.prog Rows.lexisTellsRow.laid w) ∧ sizedMet enc Tryd.prog Tryd.f6 (OpenSpec.ofChange Rows.lexisTellsSpec) false w args) (Rows.lexisTellsSpec.post enc Tryd.prog Tryd.f6 false true false false) := by
  refine returnsInHanded_of_change_and (C := Tryd.checked) (X := fun w _ => laidMetH Tryd.prog Rows.lexisTellsRow.laid w) (fun _ _ _ hh h => h.of_heap hh) own started (by kernel_rfl) Tryd.func6
    (laidFive.witnessRef (enc := enc) (C := Tryd.checked) (os := os) (X := fun w _ => laidMetH Tryd.prog Rows.lexisTellsRow.laid w) false (laidFive.laidWorld os) #[.string ByteArray.empty, .int .i64 0] 8 rfl (by kernel_rfl) (by kernel_rfl) (by kernel_rfl) (by kernel_rfl) (by kernel_rfl) (laidFive.laid_met os _)) ?_
  intro W base args ds gs before hval0 hW hcnd hsz0 hL _
  have hsz : (DataW.weightsEach Tryd.prog (Tryd.f6.params.toList ++ Rows.lexisTellsSpec.plain.varTypes Tryd.prog) (ds ++ gs)).all (· ≤ reachBytes) = true := hsz0
  have hval : ∀ (j : Nat) t v, Tryd.f6.params[j]? = some t → args[j]? = some v → Value.okWide Tryd.prog W .any base t v := hval0
  have hW' := hW
  obtain ⟨p, q, hA0, hV, rfl, hfz, hnd⟩ := hW
  have hA : DataW.TrodAll enc Tryd.prog W 0 (fun _ => true) true Tryd.f6.params.toList args.toList ds p := hA0
  rw [Tryd.params6] at hA hval hsz
  obtain ⟨v0, vs0, d0, ds0, p0, q0, hargs, rfl, rfl, h0, r0⟩ := trodAll_cons hA
  obtain ⟨v1, vs1, d1, ds1, p1, q1, rfl, rfl, rfl, h1, r1⟩ := trodAll_cons r0
  obtain ⟨rfl, rfl, rfl⟩ := trodAll_nil r1
  obtain rfl : args = #[v0, v1] := by cases args; simp_all
  obtain ⟨rfl, rfl⟩ := trodVars_none hV
  obtain ⟨a0, rfl, rfl, rfl, y0⟩ := open_string Tryd.underlying9 (hval 0 9 v0 rfl rfl) h0
  have w0 : a0.size ≤ 140737488351232 := by
    have z := sized_string hsz (j := 0) (t := 9) rfl rfl
    rw [Array.length_toList] at z
    exact z
  obtain ⟨a1, rfl, rfl, rfl, w1⟩ := open_int Tryd.underlying3 (hval 1 3 v1 rfl rfl) h1
  clear hA0 hval0 hsz0 hsz
  refine (walk a0 a1 W w0 (laidFive.gE W hL)).mono fun e W' ⟨he, bel⟩ => ?_
  subst he
  exact ⟨_, rfl, _, _, _, [], _, [], hW', trodAll_mk1 (shut_bool Tryd.underlying4 _), (trodAll_cons_mk (shut_string Tryd.underlying9 y0) (trodAll_cons_mk (shut_int Tryd.underlying3 w1) trodAll_mk0)), rfl, bel.frame _, fun h => by cases h⟩
theorem over : Rows.lexisTellsRow.holds Tryd.pinned (OpenSpec.ofChange Rows.lexisTellsSpec) :=
  OpenClaim.holds_of_wide 6 Tryd.f6 rfl rfl rfl rfl rfl rfl rfl ⟨rfl, rfl, rfl, rfl, rfl⟩ rfl rfl rfl rfl rfl (by kernel_rfl) Tryd.func6 (by kernel_rfl)
    (of_decide_eq_true (by kernel_rfl)) (by unfold Func.isWrapper; first | (rw [if_pos (by decide +kernel)]; kernel_rfl) | (rw [if_neg (by decide +kernel)]; exact ⟨rfl, rfl⟩))
    (fun os started H enc _ => lifted os started H enc)
theorem proved : Rows.LexisTellsSaid := over
theorem card : Rows.LexisTellsCardSaid :=
  Claim7.holds_tied_plain_at .later [] [.data, .data, .data, .sentinel, .sentinel] true (true, "9a9adee1e22c2bbc83d0720b91b8036e31d4c2c787cc9886e03a831e601f8c11") true
    proved (fun _ h => by cases h) (by kernel_rfl) (fun _ h => by cases h) lexisTells_row_tie rfl ⟨rfl, rfl⟩ (by kernel_rfl) rfl
    (fun f fn hf hfn => by
      obtain rfl : f = 6 := Option.some.inj ((show Tryd.prog.funcNamed "keystone/keystonelaw12.LexisTells" = some 6 by kernel_rfl).symm.trans hf) |>.symm
      obtain rfl : fn = Tryd.f6 := (Option.some.inj (Tryd.func6.symm.trans hfn)).symm
      exact ⟨by kernel_rfl, fun j t ht => by
        rw [Tryd.params6] at ht
        have h3 : t = 3 ∨ t = 9 := by
          rcases j with _ | _ | j
          · exact .inr ((by simpa using ht.symm))
          · exact .inl (by simpa using ht.symm)
          · simp at ht
        rcases h3 with rfl | rfl
        · exact (show Tryd.prog.wantsStandIn 3 = false by kernel_rfl)
        · exact (show Tryd.prog.wantsStandIn 9 = false by kernel_rfl)⟩)
    (by kernel_rfl)
#print axioms card
end Go.Proofs.YtmloklmcoedciaaDoor.lexisTells
namespace Go.Proofs.YtmloklmcoedciaaDoor
/-- The card, under a short name, for the claim. -/
theorem lexisTells_card : Rows.LexisTellsCardSaid := lexisTells.card
end Go.Proofs.YtmloklmcoedciaaDoor
