/- What is proved: what lexis.All hands back: a closure over a box that holds the tokens ahead of a fault. Condition: the listed error values stand as laid. -/
import Derived.Test.YtmloklmcoedciaaDoorKAx0
import Derived.Test.YtmloklmcoedciaaDoorKAx1
import Derived.Test.YtmloklmcoedciaaDoorKAx6
namespace Go.Proofs.YtmloklmcoedciaaDoor.Iter
open Go.RowKit Go.Proofs.YtmloklmcoedciaaDoor.KA Go.Proofs.YtmloklmcoedciaaDoorW.PrintWords Go.Proofs.YtmloklmcoedciaaDoorW.PrintLast Go.Proofs.YtmloklmcoedciaaDoorW.PrintMore
attribute [local go_sem] max2_int min2_int max_two min_two max_three min_three max_four min_four   -- for this text's walks alone
set_option linter.unusedVariables false
set_option linter.unusedSimpArgs false
set_option maxHeartbeats 4000000 in
set_option maxRecDepth 100000 in
theorem all_calls (k : Nat) (a0 : ByteArray) (r1 : List S35) (r2 r3 : Int) (w : World) (hGE : GE w) (h : lexis_tokens.f k a0 = some (r1, r2, r3)) :
    Calls Tryd.prog 20 #[.string a0] w fun e w' => ∃ (A : Option Addr) (cap : Nat) (w0 : World), e = .returned (.func (.func 36) #[] #[.pointer (some ⟨w0.heap.size, 0, none⟩)]) ∧
      Kd.C k35 w0 A r1.length r1 ∧ Below w.heap.size w w0 ∧ w' = w0.alloc (.cells #[.slice A r1.length cap] 25) := by
  have HB := Aside0.mk (Below.refl w.heap.size w)
  have HGE := Aside0.mk hGE
  clear hGE
  have A2 := Aside0.mk h
  clear h
  go_enter Tryd.func20, Tryd.ntmps20
  go_wp2_with (first | ((with_reducible refine gate_callee (f := 33) rfl ?_); refine goesL_ (some 8) rfl rfl Tryd.func33 (by kernel_rfl) rfl #[.string a0] rfl (by (try simp only [List.map_toArray, List.map_cons, List.map_nil]); first | done | rfl | (simp only [List.length_drop, List.length_take]; rfl)) ?_; (with_reducible refine (lexis_tokens.calls k a0 r1 r2 r3 _ ?side1 A2.out).mono ?_); (case side1 => exact HGE.out); rintro e w4 ⟨v206, rfl, ho0, hb⟩; refine ⟨_, rfl, ?_⟩; obtain ⟨A, c, rfl, hl, hC⟩ := Kd.R_reads ho0; clear ho0))
  go_ret
  exact ⟨_, _, _, by first | rfl | (simp; done) | (simp [*]; done), hC, hb, by first | rfl | (simp; done)⟩
end Go.Proofs.YtmloklmcoedciaaDoor.Iter
