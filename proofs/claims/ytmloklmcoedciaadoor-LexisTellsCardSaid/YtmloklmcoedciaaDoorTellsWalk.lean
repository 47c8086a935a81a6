/- What is proved: the law LexisTells of layer 12 answers true where the program's and the document's tokens ahead of a fault are one list whose tokens are each like themselves. Conditions: those two answers, the simplest call's, and the listed error values as laid. -/
import Derived.RangeFuncNested
import Derived.RangeFuncBound
import Derived.RangeFuncCalls
import Derived.RangeFuncLeaves
import Derived.Shelf.Abstract
import Derived.Shelf.RegionOpen
import Derived.WalkKit
import Derived.OwnWalkIn
import Derived.TacticsInMore
import Derived.LoopNIn
import Derived.LoopIn
import Derived.Test.YtmloklmcoedciaaDoorKAx10
import Derived.Test.YtmloklmcoedciaaDoorIterAll
import Derived.Test.YtmloklmcoedciaaDoorAllCalls
namespace Go.Proofs.YtmloklmcoedciaaDoor.Iter
open Go.RowKit Go.Shelf Go.Proofs.YtmloklmcoedciaaDoor.KA Go.Proofs.YtmloklmcoedciaaDoorW.PrintWords Go.Proofs.YtmloklmcoedciaaDoorW.PrintLast Go.Proofs.YtmloklmcoedciaaDoorW.PrintMore
attribute [local go_sem] Oper.semAt_some
set_option linter.unusedVariables false
set_option linter.unusedSimpArgs false
/-- The box of a loop's token holds its eight cells. -/
def TBox (W : World) (B : Nat) (x : S35) : Prop := W.heap[B]? = some (.cells #[.int .i64 x.f0, .string x.f1, .int .i64 x.f2.f0, .int .i64 x.f2.f1, .bool x.f2.f2, .string x.f2.f3, .complex .f64 x.f2.f4.re x.f2.f4.im, .int .i64 x.f3] 35 (0, 0))
theorem TBox.cells {W : World} {B : Nat} {x : S35} (h : TBox W B x) : W.cell? ⟨B, 0, none⟩ = some (.int .i64 x.f0) ∧ W.cell? ⟨B, 1, none⟩ = some (.string x.f1) ∧ W.cell? ⟨B, 2, none⟩ = some (.int .i64 x.f2.f0) ∧ W.cell? ⟨B, 3, none⟩ = some (.int .i64 x.f2.f1) ∧
    W.cell? ⟨B, 4, none⟩ = some (.bool x.f2.f2) ∧ W.cell? ⟨B, 5, none⟩ = some (.string x.f2.f3) ∧ W.cell? ⟨B, 6, none⟩ = some (.complex .f64 x.f2.f4.re x.f2.f4.im) ∧ W.cell? ⟨B, 7, none⟩ = some (.int .i64 x.f3) := by
  refine ⟨?_, ?_, ?_, ?_, ?_, ?_, ?_, ?_⟩ <;> simp [World.cell?, show W.heap[B]? = _ from h]
theorem Boxed.under {W W' : World} {B n : Nat} {t : TypeId} {v : Value} (h : Boxed W B t v) (hb : Below n W W') (hn : B < n) : Boxed W' B t v := (hb.block B hn).trans h
theorem results_cell1 {fn : Func} {p : Tmp} {ty : TypeId} (h : fn.results = #[.cell p ty]) (tmps : Array Value) (P : Program) (w : World) :
    (results fn tmps).run P w = ((asAddr (tmps.getD p undef)).run P w).andThen fun a w₁ => (loadVar ty a).run P w₁ := by
  simp only [results, h]
  simp [Sem.run_bind, Result.andThen]
theorem keeps_below {W W' : World} (hb : Below W.heap.size W W') : KeepsOthers W W' := ⟨hb.size, fun k o hk _ => (hb.block k (Array.getElem?_eq_some_iff.1 hk).1).trans hk⟩
/-- A region inside a round at the wide fence: the walk of its orders outside a round serves. -/
theorem opsIn_of {l n : Nat} {P : Program} {ops : Array Oper} {Q : Exit → Act → World → Prop} (hL : ¬ LetsOut Q) (hd : (ops.all fun o => match o.op with | .defer _ => false | _ => true) = true) :
    ∀ (is : List Nat) (a : Act) (w : World), wpOps P ops Q is a w → wpOpsIn (Fence.wide.inRound l) n P ops Q is a w
  | [], a, w, h => h
  | i :: rest, a, w, h => by
    unfold wpOps at h
    unfold wpOpsIn
    cases ho : ops[i]? with
    | none =>
      simp only [ho] at h ⊢
      exact opsIn_of hL hd rest a w h
    | some o =>
      simp only [ho] at h ⊢
      split
      · rename_i hw
        rw [if_pos hw] at h
        rcases h with h | ⟨_, h⟩
        · refine ⟨fun _ _ => trivial, ?_⟩
          have hnd : ∀ c, o.op ≠ .defer c := fun c hc => by
            obtain ⟨hi, e⟩ := Array.getElem?_eq_some_iff.1 ho
            have := Array.all_eq_true.1 hd i hi
            rw [e, hc] at this
            cases this
          rw [Oper.semAt_eq _ _ _ hnd]
          unfold Oper.wp at h
          generalize (execOp a.eval o).run P w = r at h ⊢
          cases r with
          | ok x w' =>
            cases x with
            | value v => exact opsIn_of hL hd rest _ _ h
            | skip => exact opsIn_of hL hd rest _ _ h
            | defer d => exact opsIn_of hL hd rest _ _ h
            | enter f args =>
              refine ⟨fun h => (by cases h), CallsIn.inRound l (callsIn_wide.2 (Calls.mono h fun e w'' he => ?_))⟩
              cases e with
              | returned v => exact opsIn_of hL hd rest _ _ he
              | panicked c => exact he
              | outgrown => exact he
            | row row args =>
              refine ⟨fun h => (by cases h), fun c cs _ => ?_⟩
              obtain ⟨v, w'', hr, hs⟩ := h c cs
              exact ⟨v, w'', opsIn_of hL hd rest _ _ hr, stepsIn_wide.2 hs⟩
            | _ => exact h.elim
          | halt x w' => cases x <;> exact h
        · exact absurd h hL
      · rename_i hw
        rw [if_neg hw] at h
        exact ⟨fun _ _ => trivial, opsIn_of hL hd rest _ _ h⟩
theorem startR_ {l m : Nat} {P : Program} {ops : Array Oper} {Q : Exit → Act → World → Prop} {S : World → Prop} {ds : List Nat} {id n : Nat} {a : Act} {w : World} (ls : Array Bool) (hm : P.follows .mixedOrders = true) (hn : ops.size = n) (hl : Array.replicate n false = ls)
    (hL : ¬ LetsOut Q) (hd : (ops.all fun o => match o.op with | .defer _ => false | _ => true) = true) (hS : S w.drew)
    (h : S w.drew → wpAnyLast P .any ops Q S ds n ls a w.drew) : (Code.region id ops true).wpIn (Fence.wide.inRound l) m P Q a w := by
  subst hn
  subst hl
  refine wpIn_region_draw fun t => ?_
  simp only [Region.schedule, hm, Bool.true_or, if_true]
  exact opsIn_of hL hd _ _ _ (wpAny_sound ops.size t _ a _ (wpAny_of_last _ _ _ _ (h hS)))
/-- The law of a range over the closure of All, where the second loop variable is boxed. -/
theorem tok_range {F : Fence} {n : Nat} {P : Program} {assign body : Code} {Q : Exit → Act → World → Prop} {a : Act} {w : World} {g : Operand}
    (hro : F.round = none) (h1 : 1 ≤ n) {gf : Nat} {lb : Array Value} (hg : a.eval g = .func (.func gf) #[] lb) (hFg : F.fn gf) (eg : ∀ args w, (callFunc gf args).run P w = .ok (.enter gf args) w)
    {Kp : World → World → Prop} {S Sp : List (Nat × S35) → Prop} {N : Nat} (hseq : SeqStopsK F (n - 1) P gf lb enc Kp S Sp N w)
    (hKt : ∀ {A B C : World}, Kp A B → Kp B C → Kp A C) (hKb : ∀ (W : World) (l : Nat) (o o' : Obj), w.heap.size ≤ l → W.heap[l]? = some o → o.isCells = false → o.isWalk = false → Kp W (W.putObj l o'))
    (I : List (Nat × S35) → World → Prop) (Ix : Code → List (Nat × S35) → World → Prop) (hI : OwnFrom w.heap.size I) (hIx : ∀ c, OwnFrom w.heap.size (Ix c)) (h0 : I [] w)
    (hassign : ∀ (l : Nat) (pre : List (Nat × S35)) (x : Nat × S35) (W : World) (K : Act → World → Prop), I pre W → (∀ Bx W', KeepsFrom w.heap.size W W' → Kp W W' → I pre W' → w.heap.size ≤ Bx → TBox W' Bx x.2 →
        K { tmps := (((a.tmps.setIfInBounds 27 (.int .i64 x.1)).setIfInBounds 28 (tokV x.2)).setIfInBounds 11 (.int .i64 x.1)).setIfInBounds 12 (.pointer (some ⟨Bx, 0, none⟩)), defers := [] } W') →
      assign.wpIn (F.inRound l) (n - 1 - 1) P (Exit.then K (fun _ _ _ => False)) { tmps := (a.tmps.setIfInBounds 27 (.int .i64 x.1)).setIfInBounds 28 (tokV x.2), defers := [] } W)
    (hbody : ∀ (l : Nat) (pre : List (Nat × S35)) (x : Nat × S35) (Bx : Nat) (W : World), w.heap.size ≤ Bx → I pre W → TBox W Bx x.2 → pre.length < N → body.wpIn (F.inRound l) (n - 1 - 1) P (ownPostG w.heap.size Kp I Ix (pre ++ [x]) W)
      { tmps := (((a.tmps.setIfInBounds 27 (.int .i64 x.1)).setIfInBounds 28 (tokV x.2)).setIfInBounds 11 (.int .i64 x.1)).setIfInBounds 12 (.pointer (some ⟨Bx, 0, none⟩)), defers := [] } W)
    (hdone : ∀ (D : Nat) (xs : List (Nat × S35)) (W : World), w.heap.size ≤ D → S xs → I xs W → W.heap[D]? = some (.deferred (some [])) → Q .normal { a with defers := { target := .collected D, args := #[] } :: a.defers } W)
    (hstop : ∀ (D : Nat) (c : Code) (pre : List (Nat × S35)) (W : World), w.heap.size ≤ D → Sp pre → Ix c pre W → W.heap[D]? = some (.deferred (some [])) → c.wpIn F n P Q { a with defers := { target := .collected D, args := #[] } :: a.defers } W) :
    (Code.rangeFunc g #[27, 28] assign body).wpIn F n P Q a w := by
  refine wpIn_rangeFunc_ownH hro h1 hg hFg eg hseq (fun h k => hKt h k) hKb (Below.refl _ _) (fun _ => rfl) I Ix hI hIx h0
    (fun x a' W => ∃ Bx, w.heap.size ≤ Bx ∧ TBox W Bx x.2 ∧ a' = { tmps := (((a.tmps.setIfInBounds 27 (.int .i64 x.1)).setIfInBounds 28 (tokV x.2)).setIfInBounds 11 (.int .i64 x.1)).setIfInBounds 12 (.pointer (some ⟨Bx, 0, none⟩)), defers := [] })
    (fun x a' _ X Y row hs hg hr => by
      obtain ⟨Bx, h1, h2, h3⟩ := hs
      refine ⟨Bx, h1, ?_, h3⟩
      exact (hg.block Bx (Array.getElem?_eq_some_iff.1 h2).1 (fun e => by
        obtain ⟨_, o, ho, hc⟩ := hr Bx e.symm
        rw [show X.heap[Bx]? = _ from h2] at ho
        cases ho
        cases hc)).trans h2)
    ?_ ?_ hdone hstop
  · intro l pre x W K hi hK
    have e : (Array.zip (#[27, 28] : Array Tmp) (enc x)).foldl (fun t (p, v) => t.setIfInBounds p v) a.tmps = (a.tmps.setIfInBounds 27 (.int .i64 x.1)).setIfInBounds 28 (tokV x.2) := by simp [enc]
    rw [e]
    exact hassign l pre x W K hi (fun Bx W' h1 h2 h3 h4 h5 => hK _ W' h1 h2 h3 ⟨Bx, h4, h5, rfl⟩)
  · rintro l pre x a' W _ _ hi ⟨Bx, hB, hT, rfl⟩ hlt
    exact hbody l pre x Bx W hB hi hT hlt
/-- The same, where a round leaves by the jump out of block 2 alone, or never. -/
theorem tok_range2 {F : Fence} {n : Nat} {P : Program} {assign body : Code} {Q : Exit → Act → World → Prop} {a : Act} {w : World} {g : Operand}
    (hro : F.round = none) (h1 : 1 ≤ n) {gf : Nat} {lb : Array Value} (hg : a.eval g = .func (.func gf) #[] lb) (hFg : F.fn gf) (eg : ∀ args w, (callFunc gf args).run P w = .ok (.enter gf args) w)
    {Kp : World → World → Prop} {L : List S35} (hseq : SeqStopsK F (n - 1) P gf lb enc Kp (fun ys => ys = upto L L.length) (fun pre => ∃ k, k ≤ L.length ∧ pre = upto L k) L.length w)
    (hKt : ∀ {A B C : World}, Kp A B → Kp B C → Kp A C) (hKb : ∀ (W : World) (l : Nat) (o o' : Obj), w.heap.size ≤ l → W.heap[l]? = some o → o.isCells = false → o.isWalk = false → Kp W (W.putObj l o'))
    (J : Nat → World → Prop) (E : Nat → Prop) (hJ : OwnFrom w.heap.size J) (h0 : J 0 w)
    (hassign : ∀ (l : Nat) (pre : List (Nat × S35)) (x : Nat × S35) (W : World) (K : Act → World → Prop), J pre.length W → (∀ Bx W', KeepsFrom w.heap.size W W' → Kp W W' → J pre.length W' → w.heap.size ≤ Bx → TBox W' Bx x.2 →
        K { tmps := (((a.tmps.setIfInBounds 27 (.int .i64 x.1)).setIfInBounds 28 (tokV x.2)).setIfInBounds 11 (.int .i64 x.1)).setIfInBounds 12 (.pointer (some ⟨Bx, 0, none⟩)), defers := [] } W') →
      assign.wpIn (F.inRound l) (n - 1 - 1) P (Exit.then K (fun _ _ _ => False)) { tmps := (a.tmps.setIfInBounds 27 (.int .i64 x.1)).setIfInBounds 28 (tokV x.2), defers := [] } W)
    (hbody : ∀ (l : Nat) (pre : List (Nat × S35)) (x : Nat × S35) (Bx : Nat) (W : World), w.heap.size ≤ Bx → J pre.length W → TBox W Bx x.2 → pre.length < L.length → body.wpIn (F.inRound l) (n - 1 - 1) P
      (ownPostG w.heap.size Kp (fun q W => J q.length W) (fun c q W => (c = .ret ∧ q ≠ upto L q.length) ∨ (c = .exit 2 ∧ E q.length ∧ J q.length W)) (pre ++ [x]) W)
      { tmps := (((a.tmps.setIfInBounds 27 (.int .i64 x.1)).setIfInBounds 28 (tokV x.2)).setIfInBounds 11 (.int .i64 x.1)).setIfInBounds 12 (.pointer (some ⟨Bx, 0, none⟩)), defers := [] } W)
    (hq : ∀ a w, Q .normal a w → Q (.exit 2) a w)
    (hfin : ∀ (D m : Nat) (W : World), w.heap.size ≤ D → (m = L.length ∨ E m) → m ≤ L.length → J m W → W.heap[D]? = some (.deferred (some [])) → Q .normal { a with defers := { target := .collected D, args := #[] } :: a.defers } W) :
    (Code.rangeFunc g #[27, 28] assign body).wpIn F n P Q a w := by
  refine tok_range hro h1 hg hFg eg hseq (fun h k => hKt h k) hKb (fun q W => J q.length W) (fun c q W => (c = .ret ∧ q ≠ upto L q.length) ∨ (c = .exit 2 ∧ E q.length ∧ J q.length W))
    (fun q X Y row hs hg hr => hJ q.length X Y row hs hg hr) (fun c q X Y row hs hg hr => hs.elim .inl (fun h => .inr ⟨h.1, h.2.1, hJ q.length X Y row h.2.2 hg hr⟩)) h0 hassign hbody ?_ ?_
  · rintro D zs W hD rfl hI hK
    rw [upto_length] at hI
    exact hfin D L.length W hD (.inl rfl) (Nat.le_refl _) hI hK
  · rintro D c pre W hD ⟨k, hk, rfl⟩ hx hK
    rw [upto_length] at hx
    rcases hx with ⟨_, h⟩ | ⟨rfl, hE, hI⟩
    · exact absurd rfl h
    · exact wpIn_exit (hq _ _ (hfin D k W hD (.inr hE) hk hI hK))
theorem same_some (a b : S35) : ∃ r, keystonelaw12_sameToken.f a.f0 a.f1 a.f2.f0 a.f2.f1 a.f2.f2 a.f2.f3 a.f2.f4 a.f3 b.f0 b.f1 b.f2.f0 b.f2.f1 b.f2.f2 b.f2.f3 b.f2.f4 b.f3 = some r := by
  unfold keystonelaw12_sameToken.f keystoneref04_SameValue.f
  repeat (first | exact ⟨_, rfl⟩ | split)
theorem pre_snoc (L : List S35) (pre : List (Nat × S35)) (x : Nat × S35) (h : pre ++ [x] = upto L (pre ++ [x]).length) : x = (pre.length, rd_T35 L (pre.length : Int)) := by
  rw [List.length_append, List.length_singleton, upto_succ] at h
  exact (List.cons.inj (List.append_inj_right' h rfl)).1
set_option maxHeartbeats 4000000 in
set_option maxRecDepth 100000 in
theorem tells_calls (k : Nat) (s : ByteArray) (stop : Int) (L : List S35) (r2 r3 : Int) (w : World) (hGE : GE w) (hlen : L.length ≤ 140737488351232)
    (hb : keystonelaw12_begun.f k = some true) (ha : keystoneref12_Ahead.f k s = some (L, r2, r3)) (ht : lexis_tokens.f k s = some (L, r2, r3))
    (hsame : ∀ t ∈ L, keystonelaw12_sameToken.f t.f0 t.f1 t.f2.f0 t.f2.f1 t.f2.f2 t.f2.f3 t.f2.f4 t.f3 t.f0 t.f1 t.f2.f0 t.f2.f1 t.f2.f2 t.f2.f3 t.f2.f4 t.f3 = some true) :
    Calls Tryd.prog 6 #[.string s, .int .i64 stop] w fun e w' => e = .returned (.bool true) ∧ Below w.heap.size w w' := by
  have HB := Aside0.mk (Below.refl w.heap.size w)
  have HGE := Aside0.mk hGE
  clear hGE
  refine (callsIn_wide (n := 9)).1 ?_
  refine callsIn_of_wp_marks Tryd.func6 rfl trivial ?_ rfl
  simp only [Tryd.ntmps6, List.size_toArray, List.length_cons, List.length_nil, Nat.reduceAdd, Nat.reduceSub, Array.replicate_succ, Array.replicate_zero, List.push_toArray, List.append_toArray, List.nil_append, List.cons_append]
  gi_wp2_with (first
    | (refine ⟨trivial, ?_⟩; gi_at_call 15; refine (callsIn_wide.2 (keystonelaw12_begun.calls k true _ ?side1 hb)).mono ?_; (case side1 => exact GE_below HGE.out (by repeat (first | (with_reducible first | exact HB.out | apply below_alloc | apply pw_below_drewN | apply below_drew1) | exact HB.out))); rintro e w1 ⟨rfl, hb1⟩; have HB9 := Aside0.mk (below_step (by repeat (first | (with_reducible first | exact HB.out | apply below_alloc | apply pw_below_drewN | apply below_drew1) | exact HB.out)) hb1); clear HB; have HB := HB9; clear HB9; have hb1 := Aside0.mk hb1)
    | (refine ⟨trivial, ?_⟩; gi_at_call 19; refine (callsIn_wide.2 (keystoneref12_Ahead.calls k s L r2 r3 _ ha)).mono ?_; rintro e w2 ⟨v0, rfl, hR, hb2⟩; have HB9 := Aside0.mk (below_step (by repeat (first | (with_reducible first | exact HB.out | apply below_alloc | apply pw_below_drewN | apply below_drew1) | exact HB.out)) hb2); clear HB; have HB := HB9; clear HB9; have hb2 := Aside0.mk hb2; obtain ⟨Aw, cw, rfl, hlw, hCw⟩ := Kd.R_reads hR; clear hR)
    | (refine ⟨trivial, ?_⟩; gi_at_call 20; refine (callsIn_wide.2 (all_calls k s L r2 r3 _ ?side2 ht)).mono ?_; (case side2 => exact GE_below HGE.out (by repeat (first | (with_reducible first | exact HB.out | apply below_alloc | apply pw_below_drewN | apply below_drew1) | exact HB.out))); rintro e w3 ⟨A, cap, w0, rfl, hC, hb3, rfl⟩; have HB9 := Aside0.mk (below_step (by repeat (first | (with_reducible first | exact HB.out | apply below_alloc | apply pw_below_drewN | apply below_drew1) | exact HB.out)) hb3); clear HB; have HB := HB9; clear HB9; have hb3 := Aside0.mk hb3))
  have hbZ := hb3.out
  have hbY := hb2.out
  have hbX := hb1.out
  have hBw0 := HB.out
  clear HB hb1 hb2 hb3
  have s1 : w.heap.size + 2 ≤ w1.heap.size := by have := hbX.size; simp at this; omega
  have s2 : w1.heap.size ≤ w2.heap.size := hbY.size
  have s3 : w2.heap.size + 1 ≤ w0.heap.size := by have := hbZ.size; simp at this; omega
  have q3 : Boxed w0 w.heap.size 3 (.int .i64 stop) := Boxed.under (Boxed.alloc (Boxed.under (Boxed.under ((Boxed.new w 3 (.int .i64 stop)).alloc (.cells #[.bool false] 4)) hbX (by simp; omega)) hbY (by omega)) (.cells #[.slice Aw L.length cw] 25)) hbZ (by simp; omega)
  have q4 : Boxed w0 (w.heap.size + 1) 4 (.bool false) := Boxed.under (Boxed.alloc (Boxed.under (Boxed.under (by have := Boxed.new (w.alloc (.cells #[.int .i64 stop] 3)) 4 (.bool false); rwa [World.size_alloc] at this) hbX (by simp)) hbY (by omega)) (.cells #[.slice Aw L.length cw] 25)) hbZ (by simp; omega)
  have q5 : Boxed w0 w2.heap.size 25 (.slice Aw L.length cw) := Boxed.under (Boxed.new w2 25 _) hbZ (by simp)
  have hCw0 : Kd.C k35 w0 Aw L.length L := Kd.C_below hCw (((Below.refl _ w2).alloc (Nat.le_refl _) (.cells #[.slice Aw L.length cw] 25)).trans (hbZ.mono (by simp)))
  obtain ⟨V, hVd⟩ : ∃ V, w0.alloc (.cells #[.slice A L.length cap] 25) = V := ⟨_, rfl⟩
  have hV : Below w0.heap.size w0 V := by rw [← hVd]; exact (Below.refl _ w0).alloc (Nat.le_refl _) _
  have q8 : Boxed V w0.heap.size 25 (.slice A L.length cap) := by rw [← hVd]; exact Boxed.new w0 25 _
  have s8 : w0.heap.size < V.heap.size := q8.lt
  rw [hVd]
  clear hVd hbX hbY hbZ hCw HGE
  have hmx : Tryd.prog.follows .mixedOrders = true := by kernel_rfl
  refine wpIn_loop_rounds 3 ?_
  rw [roundsIn_succ]
  gi_wp2
  obtain ⟨Ws, hWs⟩ : ∃ Ws, (V.alloc (.cells #[.int .i64 0] 3)).alloc (.cells #[.int .i64 0] 3) = Ws := ⟨_, rfl⟩
  have bB9 : Boxed Ws V.heap.size 3 (.int .i64 0) := by rw [← hWs]; exact (Boxed.new V 3 _).alloc _
  have bB10 : Boxed Ws (V.heap.size + 1) 3 (.int .i64 0) := by rw [← hWs]; have := Boxed.new (V.alloc (.cells #[.int .i64 0] 3)) 3 (.int .i64 0); rwa [World.size_alloc] at this
  have hWV : Below V.heap.size V Ws := by rw [← hWs]; exact ((Below.refl _ V).alloc (Nat.le_refl _) _).alloc (by simp) _
  have sWs : Ws.heap.size = V.heap.size + 2 := by rw [← hWs]; simp
  rw [hWs]
  clear hWs
  have hI0 : OwnFrom Ws.heap.size (fun (m : Nat) W => (Boxed W V.heap.size 3 (.int .i64 0) ∧ Boxed W (V.heap.size + 1) 3 (.int .i64 (m : Int))) ∧ Below V.heap.size V W) :=
    OwnFrom.and (OwnFrom.and (Own.from (boxed_own _ _ (fun (_ : Nat) => Value.int .i64 0)) _) (Own.from (boxed_own _ _ (fun (m : Nat) => Value.int .i64 (m : Int))) _)) (ownFrom_below (Nat.le_refl _) (by omega))
  refine tok_range2 (F := Fence.wide) rfl (by omega) (gf := 36) (lb := #[.pointer (some ⟨w0.heap.size, 0, none⟩)]) rfl trivial (enters_of Tryd.func36 (by kernel_rfl) rfl)
    (all_stops Fence.wide _ trivial rfl (by omega) w0.heap.size A cap L hlen w0 Ws hC (hV.trans (hWV.mono hV.size)) (by omega) (Boxed.under q8 hWV s8).cell) belowK_t (belowK_b (by omega))
    (fun m W => (Boxed W V.heap.size 3 (.int .i64 0) ∧ Boxed W (V.heap.size + 1) 3 (.int .i64 (m : Int))) ∧ Below V.heap.size V W)
    (fun m => 0 = (0 : Int) ∧ stop = (m : Int))
    hI0 ⟨⟨bB9, bB10⟩, hWV⟩ ?assign0 ?body0 (fun _ _ h => h) ?fin0
  case assign0 =>
    rintro l pre x W K ⟨⟨b9, b10⟩, hB1⟩ hK
    have hxv : tokV x.2 = .agg #[.int .i64 x.2.f0, .string x.2.f1, .int .i64 x.2.f2.f0, .int .i64 x.2.f2.f1, .bool x.2.f2.f2, .string x.2.f2.f3, .complex .f64 x.2.f2.f4.re x.2.f2.f4.im, .int .i64 x.2.f3] := rfl
    rw [hxv] at hK ⊢
    gi_wp2
    exact hK W.heap.size _ ((KeepsOthers.alloc _ _).from _) ((Below.refl _ W).alloc (Nat.le_trans hV.size hB1.size) _) ⟨⟨b9.alloc _, b10.alloc _⟩, hB1.alloc hB1.size _⟩ (by have := b10.lt; omega) (World.alloc_heap_new W _)
  case body0 =>
    rintro l pre x Bx W hBx ⟨⟨b9, b10⟩, hB1⟩ bX hlt
    have hV0 : Below w0.heap.size w0 W := hV.trans (hB1.mono hV.size)
    have c9 := b9.cell
    have c10 := b10.cell
    have f10 := b10.frozen
    have c3 := (Boxed.under q3 hV0 (by omega)).cell
    have b4 := Boxed.under q4 hV0 (by omega)
    have c4 := b4.cell
    have f4 := b4.frozen
    have c5 := (Boxed.under q5 hV0 (by omega)).cell
    obtain ⟨x0, x1, x2, x3, x4, x5, x6, x7⟩ := bX.cells
    obtain ⟨r, hr⟩ := same_some x.2 (rd_T35 L (pre.length : Int))
    obtain ⟨ad, rfl, y0, y1, y2, y3, y4, y5, y6, y7⟩ := at_T35 (Kd.C_below hCw0 hV0) (pre.length : Int) (by omega) (by omega)
    rw [Int.toNat_natCast] at y0 y1 y2 y3 y4 y5 y6 y7
    have hxp := pre_snoc L pre x
    obtain ⟨xi, ⟨x20, x21, ⟨u0, u1, u2, u3, u4⟩, x27⟩⟩ := x
    generalize ht : rd_T35 L (pre.length : Int) = t at hr y0 y1 y2 y3 y4 y5 y6 y7 hxp
    obtain ⟨t0, t1, ⟨v0, v1, v2, v3, v4⟩, t7⟩ := t
    dsimp only at x0 x1 x2 x3 x4 x5 x6 x7 y0 y1 y2 y3 y4 y5 y6 y7 hr
    dsimp only [tokV]
    have hd : 1 ≤ 9 - 1 - 1 := by omega
    by_cases hi : (xi : Int) = (pre.length : Int)
    · obtain rfl : xi = pre.length := by omega
      have hge : (L.length ≤ pre.length) = False := eq_false (by omega)
      have hz : (0 ≤ (pre.length : Int)) = True := eq_true (by omega)
      have hlt' : ((pre.length : Int) < (L.length : Int)) = True := eq_true (by omega)
      gi_wp2
      refine startR_ (n := 18) (S := fun w' => w'.cell? ⟨V.heap.size + 1, 0, none⟩ = some (.int .i64 (pre.length : Int)) ∧ w'.cell? ⟨w2.heap.size, 0, none⟩ = some (.slice (some ad) L.length cw) ∧ w'.cell? ⟨Bx, 0, none⟩ = some (.int .i64 x20) ∧ w'.cell? ⟨Bx, 1, none⟩ = some (.string x21) ∧ w'.cell? ⟨Bx, 2, none⟩ = some (.int .i64 u0) ∧ w'.cell? ⟨Bx, 3, none⟩ = some (.int .i64 u1) ∧ w'.cell? ⟨Bx, 4, none⟩ = some (.bool u2) ∧ w'.cell? ⟨Bx, 5, none⟩ = some (.string u3) ∧ w'.cell? ⟨Bx, 6, none⟩ = some (.complex .f64 u4.re u4.im) ∧ w'.cell? ⟨Bx, 7, none⟩ = some (.int .i64 x27) ∧ w'.cell? (ad.add (pre.length * 8)) = some (.int .i64 t0) ∧ w'.cell? ⟨(ad.add (pre.length * 8)).block, (ad.add (pre.length * 8)).off + 1, none⟩ = some (.string t1) ∧ w'.cell? ⟨(ad.add (pre.length * 8)).block, (ad.add (pre.length * 8)).off + 2, none⟩ = some (.int .i64 v0) ∧ w'.cell? ⟨(ad.add (pre.length * 8)).block, (ad.add (pre.length * 8)).off + 3, none⟩ = some (.int .i64 v1) ∧ w'.cell? ⟨(ad.add (pre.length * 8)).block, (ad.add (pre.length * 8)).off + 4, none⟩ = some (.bool v2) ∧ w'.cell? ⟨(ad.add (pre.length * 8)).block, (ad.add (pre.length * 8)).off + 5, none⟩ = some (.string v3) ∧ w'.cell? ⟨(ad.add (pre.length * 8)).block, (ad.add (pre.length * 8)).off + 6, none⟩ = some (.complex .f64 v4.re v4.im) ∧ w'.cell? ⟨(ad.add (pre.length * 8)).block, (ad.add (pre.length * 8)).off + 7, none⟩ = some (.int .i64 t7)) (ds := []) #[false, false, false, false, false, false, false, false, false, false, false, false, false, false, false, false, false, false] hmx rfl rfl (by rintro ⟨a, w, h⟩; exact h) (by kernel_rfl) ⟨c10, c5, x0, x1, x2, x3, x4, x5, x6, x7, y0, y1, y2, y3, y4, y5, y6, y7⟩ (fun hHeld => ?_)
      refine pure_ (i := 0) (N := some 29) (v := ?_) (a' := ?_) #[true, false, false, false, false, false, false, false, false, false, false, false, false, false, false, false, false, false] rfl rfl (by kernel_rfl) (fun _ _ _ h => h) (Or.inl ⟨by rfl, ?_⟩) ?_ ?_
      rotate_left
      · intro w'
        go_simp
        with_reducible rfl
      rotate_left
      · simp only [Act.put, List.setIfInBounds_toArray, List.set_cons_zero, List.set_cons_succ, i64_w, i32_w]
        rfl
      refine take_ (i := 1) (N := some 30) (v := ?_) (a' := ?_) #[true, true, false, false, false, false, false, false, false, false, false, false, false, false, false, false, false, false] rfl rfl (by kernel_rfl) (fun _ _ _ h => h) (Or.inl ⟨by rfl, ?_⟩) hHeld ?_ ?_
      rotate_left
      · rintro w' ⟨s0, s1, s2, s3, s4, s5, s6, s7, s8, s9, s10, s11, s12, s13, s14, s15, s16, s17⟩
        go_simp
        with_reducible rfl
      rotate_left
      · simp only [Act.put, List.setIfInBounds_toArray, List.set_cons_zero, List.set_cons_succ, i64_w, i32_w]
        rfl
      refine pure_ (i := 2) (N := some 31) (v := ?_) (a' := ?_) #[true, true, true, false, false, false, false, false, false, false, false, false, false, false, false, false, false, false] rfl rfl (by kernel_rfl) (fun _ _ _ h => h) (Or.inl ⟨by rfl, ?_⟩) ?_ ?_
      rotate_left
      · intro w'
        go_simp
        with_reducible rfl
      rotate_left
      · simp only [Act.put, List.setIfInBounds_toArray, List.set_cons_zero, List.set_cons_succ, i64_w, i32_w]
        rfl
      refine pure_ (i := 3) (N := some 32) (v := ?_) (a' := ?_) #[true, true, true, true, false, false, false, false, false, false, false, false, false, false, false, false, false, false] rfl rfl (by kernel_rfl) (fun _ _ _ h => h) (Or.inl ⟨by rfl, ?_⟩) ?_ ?_
      rotate_left
      · intro w'
        go_simp
        with_reducible rfl
      rotate_left
      · simp only [Act.put, List.setIfInBounds_toArray, List.set_cons_zero, List.set_cons_succ, i64_w, i32_w]
        rfl
      refine take_ (i := 4) (N := some 33) (v := ?_) (a' := ?_) #[true, true, true, true, true, false, false, false, false, false, false, false, false, false, false, false, false, false] rfl rfl (by kernel_rfl) (fun _ _ _ h => h) (Or.inl ⟨by rfl, ?_⟩) hHeld ?_ ?_
      rotate_left
      · rintro w' ⟨s0, s1, s2, s3, s4, s5, s6, s7, s8, s9, s10, s11, s12, s13, s14, s15, s16, s17⟩
        go_simp
        with_reducible rfl
      rotate_left
      · simp only [Act.put, List.setIfInBounds_toArray, List.set_cons_zero, List.set_cons_succ, i64_w, i32_w]
        rfl
      refine take_ (i := 5) (N := some 34) (v := ?_) (a' := ?_) #[true, true, true, true, true, true, false, false, false, false, false, false, false, false, false, false, false, false] rfl rfl (by kernel_rfl) (fun _ _ _ h => h) (Or.inl ⟨by rfl, ?_⟩) hHeld ?_ ?_
      rotate_left
      · rintro w' ⟨s0, s1, s2, s3, s4, s5, s6, s7, s8, s9, s10, s11, s12, s13, s14, s15, s16, s17⟩
        go_simp
        with_reducible rfl
      rotate_left
      · simp only [Act.put, List.setIfInBounds_toArray, List.set_cons_zero, List.set_cons_succ, i64_w, i32_w]
        rfl
      refine pure_ (i := 6) (N := some 35) (v := ?_) (a' := ?_) #[true, true, true, true, true, true, true, false, false, false, false, false, false, false, false, false, false, false] rfl rfl (by kernel_rfl) (fun _ _ _ h => h) (Or.inl ⟨by rfl, ?_⟩) ?_ ?_
      rotate_left
      · intro w'
        go_simp
        with_reducible rfl
      rotate_left
      · simp only [Act.put, List.setIfInBounds_toArray, List.set_cons_zero, List.set_cons_succ, i64_w, i32_w]
        rfl
      refine pure_ (i := 7) (N := some 36) (v := ?_) (a' := ?_) #[true, true, true, true, true, true, true, true, false, false, false, false, false, false, false, false, false, false] rfl rfl (by kernel_rfl) (fun _ _ _ h => h) (Or.inl ⟨by rfl, ?_⟩) ?_ ?_
      rotate_left
      · intro w'
        go_simp
        with_reducible rfl
      rotate_left
      · simp only [Act.put, List.setIfInBounds_toArray, List.set_cons_zero, List.set_cons_succ, i64_w, i32_w]
        rfl
      refine pure_ (i := 8) (N := some 37) (v := ?_) (a' := ?_) #[true, true, true, true, true, true, true, true, true, false, false, false, false, false, false, false, false, false] rfl rfl (by kernel_rfl) (fun _ _ _ h => h) (Or.inl ⟨by rfl, ?_⟩) ?_ ?_
      rotate_left
      · intro w'
        go_simp
        with_reducible rfl
      rotate_left
      · simp only [Act.put, List.setIfInBounds_toArray, List.set_cons_zero, List.set_cons_succ, i64_w, i32_w]
        rfl
      refine pure_ (i := 9) (N := some 38) (v := ?_) (a' := ?_) #[true, true, true, true, true, true, true, true, true, true, false, false, false, false, false, false, false, false] rfl rfl (by kernel_rfl) (fun _ _ _ h => h) (Or.inl ⟨by rfl, ?_⟩) ?_ ?_
      rotate_left
      · intro w'
        go_simp
        with_reducible rfl
      rotate_left
      · simp only [Act.put, List.setIfInBounds_toArray, List.set_cons_zero, List.set_cons_succ, i64_w, i32_w]
        rfl
      refine take_ (i := 10) (N := some 39) (v := ?_) (a' := ?_) #[true, true, true, true, true, true, true, true, true, true, true, false, false, false, false, false, false, false] rfl rfl (by kernel_rfl) (fun _ _ _ h => h) (Or.inl ⟨by rfl, ?_⟩) hHeld ?_ ?_
      rotate_left
      · rintro w' ⟨s0, s1, s2, s3, s4, s5, s6, s7, s8, s9, s10, s11, s12, s13, s14, s15, s16, s17⟩
        go_simp
        with_reducible rfl
      rotate_left
      · simp only [Act.put, List.setIfInBounds_toArray, List.set_cons_zero, List.set_cons_succ, i64_w, i32_w]
        rfl
      refine take_ (i := 11) (N := some 40) (v := ?_) (a' := ?_) #[true, true, true, true, true, true, true, true, true, true, true, true, false, false, false, false, false, false] rfl rfl (by kernel_rfl) (fun _ _ _ h => h) (Or.inl ⟨by rfl, ?_⟩) hHeld ?_ ?_
      rotate_left
      · rintro w' ⟨s0, s1, s2, s3, s4, s5, s6, s7, s8, s9, s10, s11, s12, s13, s14, s15, s16, s17⟩
        go_simp
        with_reducible rfl
      rotate_left
      · simp only [Act.put, List.setIfInBounds_toArray, List.set_cons_zero, List.set_cons_succ, i64_w, i32_w]
        rfl
      refine take_ (i := 12) (N := some 41) (v := ?_) (a' := ?_) #[true, true, true, true, true, true, true, true, true, true, true, true, true, false, false, false, false, false] rfl rfl (by kernel_rfl) (fun _ _ _ h => h) (Or.inl ⟨by rfl, ?_⟩) hHeld ?_ ?_
      rotate_left
      · rintro w' ⟨s0, s1, s2, s3, s4, s5, s6, s7, s8, s9, s10, s11, s12, s13, s14, s15, s16, s17⟩
        go_simp
        with_reducible rfl
      rotate_left
      · simp only [Act.put, List.setIfInBounds_toArray, List.set_cons_zero, List.set_cons_succ, i64_w, i32_w]
        rfl
      refine pure_ (i := 13) (N := some 42) (v := ?_) (a' := ?_) #[true, true, true, true, true, true, true, true, true, true, true, true, true, true, false, false, false, false] rfl rfl (by kernel_rfl) (fun _ _ _ h => h) (Or.inl ⟨by rfl, ?_⟩) ?_ ?_
      rotate_left
      · intro w'
        go_simp
        with_reducible rfl
      rotate_left
      · simp only [Act.put, List.setIfInBounds_toArray, List.set_cons_zero, List.set_cons_succ, i64_w, i32_w]
        rfl
      refine take_ (i := 14) (N := some 43) (v := ?_) (a' := ?_) #[true, true, true, true, true, true, true, true, true, true, true, true, true, true, true, false, false, false] rfl rfl (by kernel_rfl) (fun _ _ _ h => h) (Or.inl ⟨by rfl, ?_⟩) hHeld ?_ ?_
      rotate_left
      · rintro w' ⟨s0, s1, s2, s3, s4, s5, s6, s7, s8, s9, s10, s11, s12, s13, s14, s15, s16, s17⟩
        go_simp
        with_reducible rfl
      rotate_left
      · simp only [Act.put, List.setIfInBounds_toArray, List.set_cons_zero, List.set_cons_succ, i64_w, i32_w]
        rfl
      refine one_ (i := 15) (N := some 44) #[true, true, true, true, true, true, true, true, true, true, true, true, true, true, true, true, false, false] rfl rfl (by kernel_rfl) (by decide) (fun K hK => ?_)
      refine goes_ Tryd.func21 (by kernel_rfl) rfl #[.agg #[.int .i64 x20, .string x21, .int .i64 u0, .int .i64 u1, .bool u2, .string u3, .complex .f64 u4.re u4.im, .int .i64 x27], .agg #[.int .i64 t0, .string t1, .int .i64 v0, .int .i64 v1, .bool v2, .string v3, .complex .f64 v4.re v4.im, .int .i64 t7]] (by rfl) rfl rfl (by (try simp only [List.map_toArray, List.map_cons, List.map_nil]); first | done | rfl) ?_
      with_reducible refine (keystonelaw12_sameToken.calls x20 x21 u0 u1 u2 u3 u4 x27 t0 t1 v0 v1 v2 v3 v4 t7 r _ hr).mono ?_
      rintro e w4 ⟨rfl, hb4⟩
      refine ⟨_, rfl, ?_⟩
      have hd4 : Below W.heap.size W w4 := ((Below.refl W.heap.size W).drew).trans hb4
      have c10' := (hd4.cell (World.block_lt_of_cell? W _ c10)).trans c10
      have c5' := (hd4.cell (World.block_lt_of_cell? W _ c5)).trans c5
      have x0' := (hd4.cell (World.block_lt_of_cell? W _ x0)).trans x0
      have x1' := (hd4.cell (World.block_lt_of_cell? W _ x1)).trans x1
      have x2' := (hd4.cell (World.block_lt_of_cell? W _ x2)).trans x2
      have x3' := (hd4.cell (World.block_lt_of_cell? W _ x3)).trans x3
      have x4' := (hd4.cell (World.block_lt_of_cell? W _ x4)).trans x4
      have x5' := (hd4.cell (World.block_lt_of_cell? W _ x5)).trans x5
      have x6' := (hd4.cell (World.block_lt_of_cell? W _ x6)).trans x6
      have x7' := (hd4.cell (World.block_lt_of_cell? W _ x7)).trans x7
      have y0' := (hd4.cell (World.block_lt_of_cell? W _ y0)).trans y0
      have y1' := (hd4.cell (World.block_lt_of_cell? W _ y1)).trans y1
      have y2' := (hd4.cell (World.block_lt_of_cell? W _ y2)).trans y2
      have y3' := (hd4.cell (World.block_lt_of_cell? W _ y3)).trans y3
      have y4' := (hd4.cell (World.block_lt_of_cell? W _ y4)).trans y4
      have y5' := (hd4.cell (World.block_lt_of_cell? W _ y5)).trans y5
      have y6' := (hd4.cell (World.block_lt_of_cell? W _ y6)).trans y6
      have y7' := (hd4.cell (World.block_lt_of_cell? W _ y7)).trans y7
      refine hK.out _ _ ⟨c10', c5', x0', x1', x2', x3', x4', x5', x6', x7', y0', y1', y2', y3', y4', y5', y6', y7'⟩ (fun hHeld => ?_)
      clear hK K
      refine norm_ (a' := ?_) ?_ ?_
      rotate_left
      · show Act.put _ (some 44) _ = _
        simp only [Act.put, List.setIfInBounds_toArray, List.set_cons_zero, List.set_cons_succ, i64_w, i32_w]
        rfl
      refine pure_ (i := 16) (N := some 45) (v := ?_) (a' := ?_) #[true, true, true, true, true, true, true, true, true, true, true, true, true, true, true, true, true, false] rfl rfl (by kernel_rfl) (fun _ _ _ h => h) (Or.inl ⟨by rfl, ?_⟩) ?_ ?_
      rotate_left
      · intro w'
        go_simp
        with_reducible rfl
      rotate_left
      · simp only [Act.put, List.setIfInBounds_toArray, List.set_cons_zero, List.set_cons_succ, i64_w, i32_w]
        rfl
      refine pure_ (i := 17) (N := some 46) (v := ?_) (a' := ?_) #[true, true, true, true, true, true, true, true, true, true, true, true, true, true, true, true, true, true] rfl rfl (by kernel_rfl) (fun _ _ _ h => h) (Or.inl ⟨by rfl, ?_⟩) ?_ ?_
      rotate_left
      · intro w'
        go_simp
        with_reducible rfl
      rotate_left
      · simp only [Act.put, List.setIfInBounds_toArray, List.set_cons_zero, List.set_cons_succ, i64_w, i32_w]
        rfl
      refine done_ (by kernel_rfl) ?_
      have g10 := Boxed.under b10 hd4 b10.lt
      have g9 := Boxed.under b9 hd4 b9.lt
      have g4 := Boxed.under b4 hd4 b4.lt
      have d9 := g9.cell
      have d10 := g10.cell
      have e10 := g10.frozen
      have e4 := g4.frozen
      have d4 := g4.cell
      have d3 := (Boxed.under (Boxed.under q3 hV0 (by omega)) hd4 (by have := b10.lt; omega)).cell
      have hkw := keeps_below hd4
      have hd0 : Below w0.heap.size W w4 := hd4.mono (by have := hV0.size; omega)
      have hdV : Below V.heap.size W w4 := hd4.mono hB1.size
      clear y0 y1 y2 y3 y4 y5 y6 y7 x0 x1 x2 x3 x4 x5 x6 x7 hHeld y0' y1' y2' y3' y4' y5' y6' y7' x0' x1' x2' x3' x4' x5' x6' x7' c3 c4 c5 c5' c9 c10 c10' f4 f10
      cases r with
      | false =>
        gi_wp2
        refine ⟨(hkw.trans (KeepsOthers.setCell _ _ _)).from _, .inl ⟨rfl, fun h => ?_⟩⟩
        have h9 := congrArg Prod.snd (hxp h)
        dsimp only at h9
        injection h9 with i0 i1 i2 i3
        injection i2 with i20 i21 i22 i23 i24
        subst i0 i1 i3 i20 i21 i22 i23 i24
        have h8 := hsame (rd_T35 L (pre.length : Int)) (by unfold rd_T35; simp [hlt])
        rw [ht] at h8
        dsimp only at h8
        rw [hr] at h8
        cases h8
      | true =>
        have hlen1 : ∀ z : Nat × S35, ((pre ++ [z]).length : Int) = (pre.length : Int) + 1 := fun z => by simp
        by_cases hst : (pre.length : Int) + 1 = stop
        · gi_wp2
          exact ⟨(hkw.trans (KeepsOthers.setCell _ _ _)).from _, .inr ⟨rfl, by rw [hlen1]; exact hst.symm, ⟨⟨g9.other (by omega) _, by rw [hlen1, hst]; exact g10.set _⟩, (hB1.trans hdV).setCell (p := ⟨V.heap.size + 1, 0, none⟩) (by simp) _⟩⟩⟩
        · gi_wp2
          exact ⟨(hkw.trans (KeepsOthers.setCell _ _ _)).from _, hd0.setCell (p := ⟨V.heap.size + 1, 0, none⟩) (by simp; omega) _, ⟨g9.other (by omega) _, by rw [hlen1]; exact g10.set _⟩, (hB1.trans hdV).setCell (p := ⟨V.heap.size + 1, 0, none⟩) (by simp) _⟩
    · have hi1 : ((xi : Int) != (pre.length : Int)) = true := bne_iff_ne.mpr hi
      gi_wp2
      refine startR_ (n := 18) (S := fun w' => w'.cell? ⟨V.heap.size + 1, 0, none⟩ = some (.int .i64 (pre.length : Int))) (ds := []) #[false, false, false, false, false, false, false, false, false, false, false, false, false, false, false, false, false, false] hmx rfl rfl (by rintro ⟨a, w, h⟩; exact h) (by kernel_rfl) c10 (fun hHeld => ?_)
      refine pure_ (i := 0) (N := some 29) (v := ?_) (a' := ?_) #[true, false, false, false, false, false, false, false, false, false, false, false, false, false, false, false, false, false] rfl rfl (by kernel_rfl) (fun _ _ _ h => h) (Or.inl ⟨by rfl, ?_⟩) ?_ ?_
      rotate_left
      · intro w'
        go_simp
        with_reducible rfl
      rotate_left
      · simp only [Act.put, List.setIfInBounds_toArray, List.set_cons_zero, List.set_cons_succ, i64_w, i32_w]
        rfl
      refine take_ (i := 1) (N := some 30) (v := ?_) (a' := ?_) #[true, true, false, false, false, false, false, false, false, false, false, false, false, false, false, false, false, false] rfl rfl (by kernel_rfl) (fun _ _ _ h => h) (Or.inl ⟨by rfl, ?_⟩) hHeld ?_ ?_
      rotate_left
      · rintro w' s0
        go_simp
        with_reducible rfl
      rotate_left
      · simp only [Act.put, List.setIfInBounds_toArray, List.set_cons_zero, List.set_cons_succ, i64_w, i32_w]
        rfl
      refine pure_ (i := 2) (N := some 31) (v := ?_) (a' := ?_) #[true, true, true, false, false, false, false, false, false, false, false, false, false, false, false, false, false, false] rfl rfl (by kernel_rfl) (fun _ _ _ h => h) (Or.inl ⟨by rfl, ?_⟩) ?_ ?_
      rotate_left
      · intro w'
        go_simp
        with_reducible rfl
      rotate_left
      · simp only [Act.put, List.setIfInBounds_toArray, List.set_cons_zero, List.set_cons_succ, i64_w, i32_w]
        rfl
      refine pure_ (i := 3) (N := some 32) (v := ?_) (a' := ?_) #[true, true, true, true, false, false, false, false, false, false, false, false, false, false, false, false, false, false] rfl rfl (by kernel_rfl) (fun _ _ _ h => h) (Or.inl ⟨by rfl, ?_⟩) ?_ ?_
      rotate_left
      · intro w'
        go_simp
        with_reducible rfl
      rotate_left
      · simp only [Act.put, List.setIfInBounds_toArray, List.set_cons_zero, List.set_cons_succ, i64_w, i32_w]
        rfl
      refine pure_ (i := 4) (N := some 33) (v := undef) (a' := ?_) #[true, true, true, true, true, false, false, false, false, false, false, false, false, false, false, false, false, false] rfl rfl (by kernel_rfl) (fun _ _ _ h => h) (Or.inr ⟨by rfl, rfl⟩) ?_ ?_
      rotate_left
      · simp only [Act.put, List.setIfInBounds_toArray, List.set_cons_zero, List.set_cons_succ, i64_w, i32_w]
        rfl
      refine pure_ (i := 5) (N := some 34) (v := undef) (a' := ?_) #[true, true, true, true, true, true, false, false, false, false, false, false, false, false, false, false, false, false] rfl rfl (by kernel_rfl) (fun _ _ _ h => h) (Or.inr ⟨by rfl, rfl⟩) ?_ ?_
      rotate_left
      · simp only [Act.put, List.setIfInBounds_toArray, List.set_cons_zero, List.set_cons_succ, i64_w, i32_w]
        rfl
      refine pure_ (i := 6) (N := some 35) (v := undef) (a' := ?_) #[true, true, true, true, true, true, true, false, false, false, false, false, false, false, false, false, false, false] rfl rfl (by kernel_rfl) (fun _ _ _ h => h) (Or.inr ⟨by rfl, rfl⟩) ?_ ?_
      rotate_left
      · simp only [Act.put, List.setIfInBounds_toArray, List.set_cons_zero, List.set_cons_succ, i64_w, i32_w]
        rfl
      refine pure_ (i := 7) (N := some 36) (v := undef) (a' := ?_) #[true, true, true, true, true, true, true, true, false, false, false, false, false, false, false, false, false, false] rfl rfl (by kernel_rfl) (fun _ _ _ h => h) (Or.inr ⟨by rfl, rfl⟩) ?_ ?_
      rotate_left
      · simp only [Act.put, List.setIfInBounds_toArray, List.set_cons_zero, List.set_cons_succ, i64_w, i32_w]
        rfl
      refine pure_ (i := 8) (N := some 37) (v := ?_) (a' := ?_) #[true, true, true, true, true, true, true, true, true, false, false, false, false, false, false, false, false, false] rfl rfl (by kernel_rfl) (fun _ _ _ h => h) (Or.inl ⟨by rfl, ?_⟩) ?_ ?_
      rotate_left
      · intro w'
        go_simp
        with_reducible rfl
      rotate_left
      · simp only [Act.put, List.setIfInBounds_toArray, List.set_cons_zero, List.set_cons_succ, i64_w, i32_w]
        rfl
      refine pure_ (i := 9) (N := some 38) (v := ?_) (a' := ?_) #[true, true, true, true, true, true, true, true, true, true, false, false, false, false, false, false, false, false] rfl rfl (by kernel_rfl) (fun _ _ _ h => h) (Or.inl ⟨by rfl, ?_⟩) ?_ ?_
      rotate_left
      · intro w'
        go_simp
        with_reducible rfl
      rotate_left
      · simp only [Act.put, List.setIfInBounds_toArray, List.set_cons_zero, List.set_cons_succ, i64_w, i32_w]
        rfl
      refine pure_ (i := 10) (N := some 39) (v := undef) (a' := ?_) #[true, true, true, true, true, true, true, true, true, true, true, false, false, false, false, false, false, false] rfl rfl (by kernel_rfl) (fun _ _ _ h => h) (Or.inr ⟨by rfl, rfl⟩) ?_ ?_
      rotate_left
      · simp only [Act.put, List.setIfInBounds_toArray, List.set_cons_zero, List.set_cons_succ, i64_w, i32_w]
        rfl
      refine pure_ (i := 11) (N := some 40) (v := undef) (a' := ?_) #[true, true, true, true, true, true, true, true, true, true, true, true, false, false, false, false, false, false] rfl rfl (by kernel_rfl) (fun _ _ _ h => h) (Or.inr ⟨by rfl, rfl⟩) ?_ ?_
      rotate_left
      · simp only [Act.put, List.setIfInBounds_toArray, List.set_cons_zero, List.set_cons_succ, i64_w, i32_w]
        rfl
      refine pure_ (i := 12) (N := some 41) (v := undef) (a' := ?_) #[true, true, true, true, true, true, true, true, true, true, true, true, true, false, false, false, false, false] rfl rfl (by kernel_rfl) (fun _ _ _ h => h) (Or.inr ⟨by rfl, rfl⟩) ?_ ?_
      rotate_left
      · simp only [Act.put, List.setIfInBounds_toArray, List.set_cons_zero, List.set_cons_succ, i64_w, i32_w]
        rfl
      refine pure_ (i := 13) (N := some 42) (v := undef) (a' := ?_) #[true, true, true, true, true, true, true, true, true, true, true, true, true, true, false, false, false, false] rfl rfl (by kernel_rfl) (fun _ _ _ h => h) (Or.inr ⟨by rfl, rfl⟩) ?_ ?_
      rotate_left
      · simp only [Act.put, List.setIfInBounds_toArray, List.set_cons_zero, List.set_cons_succ, i64_w, i32_w]
        rfl
      refine pure_ (i := 14) (N := some 43) (v := undef) (a' := ?_) #[true, true, true, true, true, true, true, true, true, true, true, true, true, true, true, false, false, false] rfl rfl (by kernel_rfl) (fun _ _ _ h => h) (Or.inr ⟨by rfl, rfl⟩) ?_ ?_
      rotate_left
      · simp only [Act.put, List.setIfInBounds_toArray, List.set_cons_zero, List.set_cons_succ, i64_w, i32_w]
        rfl
      refine pure_ (i := 15) (N := some 44) (v := undef) (a' := ?_) #[true, true, true, true, true, true, true, true, true, true, true, true, true, true, true, true, false, false] rfl rfl (by kernel_rfl) (fun _ _ _ h => h) (Or.inr ⟨by rfl, rfl⟩) ?_ ?_
      rotate_left
      · simp only [Act.put, List.setIfInBounds_toArray, List.set_cons_zero, List.set_cons_succ, i64_w, i32_w]
        rfl
      refine pure_ (i := 16) (N := some 45) (v := undef) (a' := ?_) #[true, true, true, true, true, true, true, true, true, true, true, true, true, true, true, true, true, false] rfl rfl (by kernel_rfl) (fun _ _ _ h => h) (Or.inr ⟨by rfl, rfl⟩) ?_ ?_
      rotate_left
      · simp only [Act.put, List.setIfInBounds_toArray, List.set_cons_zero, List.set_cons_succ, i64_w, i32_w]
        rfl
      refine pure_ (i := 17) (N := some 46) (v := ?_) (a' := ?_) #[true, true, true, true, true, true, true, true, true, true, true, true, true, true, true, true, true, true] rfl rfl (by kernel_rfl) (fun _ _ _ h => h) (Or.inl ⟨by rfl, ?_⟩) ?_ ?_
      rotate_left
      · intro w'
        go_simp
        with_reducible rfl
      rotate_left
      · simp only [Act.put, List.setIfInBounds_toArray, List.set_cons_zero, List.set_cons_succ, i64_w, i32_w]
        rfl
      refine done_ (by kernel_rfl) ?_
      gi_wp2
      refine ⟨((KeepsOthers.drew W).trans (KeepsOthers.setCell _ _ _)).from _, .inl ⟨rfl, fun h => hi ?_⟩⟩
      have h9 := congrArg Prod.fst (hxp h)
      exact congrArg Nat.cast h9
  case fin0 =>
    rintro D m W hD hm hmL ⟨⟨b9, b10⟩, hB1⟩ hK
    have hVV1 : Below w0.heap.size w0 W := hV.trans (hB1.mono hV.size)
    have c9 := b9.cell
    have c10 := b10.cell
    have c3 := (Boxed.under q3 hVV1 (by omega)).cell
    have c5 := (Boxed.under q5 hVV1 (by omega)).cell
    have q8V1 := Boxed.under q8 hB1 s8
    have s8V1 := q8V1.lt
    have hDW : D < W.heap.size := (Array.getElem?_eq_some_iff.1 hK).1
    have hDV : w0.heap.size ≤ D := by omega
    clear hI0 bB9 bB10 hWV sWs
    obtain ⟨V1, rfl⟩ : ∃ V1, V1 = W := ⟨_, rfl⟩
    by_cases hmLL : m = L.length
    · subst hmLL
      gi_wp2
      rw [roundsIn_succ]
      clear c3 c5 c9 c10 b9 b10
      gi_wp2
      obtain ⟨Ws, hWs⟩ : ∃ Ws, (V1.alloc (.cells #[.int .i64 1] 3)).alloc (.cells #[.int .i64 0] 3) = Ws := ⟨_, rfl⟩
      have bB9 : Boxed Ws V1.heap.size 3 (.int .i64 1) := by rw [← hWs]; exact (Boxed.new V1 3 _).alloc _
      have bB10 : Boxed Ws (V1.heap.size + 1) 3 (.int .i64 0) := by rw [← hWs]; have := Boxed.new (V1.alloc (.cells #[.int .i64 1] 3)) 3 (.int .i64 0); rwa [World.size_alloc] at this
      have hWV : Below V1.heap.size V1 Ws := by rw [← hWs]; exact ((Below.refl _ V1).alloc (Nat.le_refl _) _).alloc (by simp) _
      have sWs : Ws.heap.size = V1.heap.size + 2 := by rw [← hWs]; simp
      rw [hWs]
      clear hWs
      have hI0 : OwnFrom Ws.heap.size (fun (m : Nat) W => (Boxed W V1.heap.size 3 (.int .i64 1) ∧ Boxed W (V1.heap.size + 1) 3 (.int .i64 (m : Int))) ∧ Below V1.heap.size V1 W) :=
        OwnFrom.and (OwnFrom.and (Own.from (boxed_own _ _ (fun (_ : Nat) => Value.int .i64 1)) _) (Own.from (boxed_own _ _ (fun (m : Nat) => Value.int .i64 (m : Int))) _)) (ownFrom_below (Nat.le_refl _) (by omega))
      refine tok_range2 (F := Fence.wide) rfl (by omega) (gf := 36) (lb := #[.pointer (some ⟨w0.heap.size, 0, none⟩)]) rfl trivial (enters_of Tryd.func36 (by kernel_rfl) rfl)
        (all_stops Fence.wide _ trivial rfl (by omega) w0.heap.size A cap L hlen w0 Ws hC (hVV1.trans (hWV.mono hVV1.size)) (by omega) (Boxed.under q8V1 hWV s8V1).cell) belowK_t (belowK_b (by omega))
        (fun m W => (Boxed W V1.heap.size 3 (.int .i64 1) ∧ Boxed W (V1.heap.size + 1) 3 (.int .i64 (m : Int))) ∧ Below V1.heap.size V1 W)
        (fun m => 1 = (0 : Int) ∧ stop = (m : Int))
        hI0 ⟨⟨bB9, bB10⟩, hWV⟩ ?assign1 ?body1 (fun _ _ h => h) ?fin1
      case assign1 =>
        rintro l pre x W K ⟨⟨b9, b10⟩, hB1⟩ hK
        have hxv : tokV x.2 = .agg #[.int .i64 x.2.f0, .string x.2.f1, .int .i64 x.2.f2.f0, .int .i64 x.2.f2.f1, .bool x.2.f2.f2, .string x.2.f2.f3, .complex .f64 x.2.f2.f4.re x.2.f2.f4.im, .int .i64 x.2.f3] := rfl
        rw [hxv] at hK ⊢
        gi_wp2
        exact hK W.heap.size _ ((KeepsOthers.alloc _ _).from _) ((Below.refl _ W).alloc (Nat.le_trans hVV1.size hB1.size) _) ⟨⟨b9.alloc _, b10.alloc _⟩, hB1.alloc hB1.size _⟩ (by have := b10.lt; omega) (World.alloc_heap_new W _)
      case body1 =>
        rintro l pre x Bx W hBx ⟨⟨b9, b10⟩, hB1⟩ bX hlt
        have hV0 : Below w0.heap.size w0 W := hVV1.trans (hB1.mono hVV1.size)
        have c9 := b9.cell
        have c10 := b10.cell
        have f10 := b10.frozen
        have c3 := (Boxed.under q3 hV0 (by omega)).cell
        have b4 := Boxed.under q4 hV0 (by omega)
        have c4 := b4.cell
        have f4 := b4.frozen
        have c5 := (Boxed.under q5 hV0 (by omega)).cell
        obtain ⟨x0, x1, x2, x3, x4, x5, x6, x7⟩ := bX.cells
        obtain ⟨r, hr⟩ := same_some x.2 (rd_T35 L (pre.length : Int))
        obtain ⟨ad, rfl, y0, y1, y2, y3, y4, y5, y6, y7⟩ := at_T35 (Kd.C_below hCw0 hV0) (pre.length : Int) (by omega) (by omega)
        rw [Int.toNat_natCast] at y0 y1 y2 y3 y4 y5 y6 y7
        have hxp := pre_snoc L pre x
        obtain ⟨xi, ⟨x20, x21, ⟨u0, u1, u2, u3, u4⟩, x27⟩⟩ := x
        generalize ht : rd_T35 L (pre.length : Int) = t at hr y0 y1 y2 y3 y4 y5 y6 y7 hxp
        obtain ⟨t0, t1, ⟨v0, v1, v2, v3, v4⟩, t7⟩ := t
        dsimp only at x0 x1 x2 x3 x4 x5 x6 x7 y0 y1 y2 y3 y4 y5 y6 y7 hr
        dsimp only [tokV]
        have hd : 1 ≤ 9 - 1 - 1 := by omega
        by_cases hi : (xi : Int) = (pre.length : Int)
        · obtain rfl : xi = pre.length := by omega
          have hge : (L.length ≤ pre.length) = False := eq_false (by omega)
          have hz : (0 ≤ (pre.length : Int)) = True := eq_true (by omega)
          have hlt' : ((pre.length : Int) < (L.length : Int)) = True := eq_true (by omega)
          gi_wp2
          refine startR_ (n := 18) (S := fun w' => w'.cell? ⟨V1.heap.size + 1, 0, none⟩ = some (.int .i64 (pre.length : Int)) ∧ w'.cell? ⟨w2.heap.size, 0, none⟩ = some (.slice (some ad) L.length cw) ∧ w'.cell? ⟨Bx, 0, none⟩ = some (.int .i64 x20) ∧ w'.cell? ⟨Bx, 1, none⟩ = some (.string x21) ∧ w'.cell? ⟨Bx, 2, none⟩ = some (.int .i64 u0) ∧ w'.cell? ⟨Bx, 3, none⟩ = some (.int .i64 u1) ∧ w'.cell? ⟨Bx, 4, none⟩ = some (.bool u2) ∧ w'.cell? ⟨Bx, 5, none⟩ = some (.string u3) ∧ w'.cell? ⟨Bx, 6, none⟩ = some (.complex .f64 u4.re u4.im) ∧ w'.cell? ⟨Bx, 7, none⟩ = some (.int .i64 x27) ∧ w'.cell? (ad.add (pre.length * 8)) = some (.int .i64 t0) ∧ w'.cell? ⟨(ad.add (pre.length * 8)).block, (ad.add (pre.length * 8)).off + 1, none⟩ = some (.string t1) ∧ w'.cell? ⟨(ad.add (pre.length * 8)).block, (ad.add (pre.length * 8)).off + 2, none⟩ = some (.int .i64 v0) ∧ w'.cell? ⟨(ad.add (pre.length * 8)).block, (ad.add (pre.length * 8)).off + 3, none⟩ = some (.int .i64 v1) ∧ w'.cell? ⟨(ad.add (pre.length * 8)).block, (ad.add (pre.length * 8)).off + 4, none⟩ = some (.bool v2) ∧ w'.cell? ⟨(ad.add (pre.length * 8)).block, (ad.add (pre.length * 8)).off + 5, none⟩ = some (.string v3) ∧ w'.cell? ⟨(ad.add (pre.length * 8)).block, (ad.add (pre.length * 8)).off + 6, none⟩ = some (.complex .f64 v4.re v4.im) ∧ w'.cell? ⟨(ad.add (pre.length * 8)).block, (ad.add (pre.length * 8)).off + 7, none⟩ = some (.int .i64 t7)) (ds := []) #[false, false, false, false, false, false, false, false, false, false, false, false, false, false, false, false, false, false] hmx rfl rfl (by rintro ⟨a, w, h⟩; exact h) (by kernel_rfl) ⟨c10, c5, x0, x1, x2, x3, x4, x5, x6, x7, y0, y1, y2, y3, y4, y5, y6, y7⟩ (fun hHeld => ?_)
          refine pure_ (i := 0) (N := some 29) (v := ?_) (a' := ?_) #[true, false, false, false, false, false, false, false, false, false, false, false, false, false, false, false, false, false] rfl rfl (by kernel_rfl) (fun _ _ _ h => h) (Or.inl ⟨by rfl, ?_⟩) ?_ ?_
          rotate_left
          · intro w'
            go_simp
            with_reducible rfl
          rotate_left
          · simp only [Act.put, List.setIfInBounds_toArray, List.set_cons_zero, List.set_cons_succ, i64_w, i32_w]
            rfl
          refine take_ (i := 1) (N := some 30) (v := ?_) (a' := ?_) #[true, true, false, false, false, false, false, false, false, false, false, false, false, false, false, false, false, false] rfl rfl (by kernel_rfl) (fun _ _ _ h => h) (Or.inl ⟨by rfl, ?_⟩) hHeld ?_ ?_
          rotate_left
          · rintro w' ⟨s0, s1, s2, s3, s4, s5, s6, s7, s8V1, s9, s10, s11, s12, s13, s14, s15, s16, s17⟩
            go_simp
            with_reducible rfl
          rotate_left
          · simp only [Act.put, List.setIfInBounds_toArray, List.set_cons_zero, List.set_cons_succ, i64_w, i32_w]
            rfl
          refine pure_ (i := 2) (N := some 31) (v := ?_) (a' := ?_) #[true, true, true, false, false, false, false, false, false, false, false, false, false, false, false, false, false, false] rfl rfl (by kernel_rfl) (fun _ _ _ h => h) (Or.inl ⟨by rfl, ?_⟩) ?_ ?_
          rotate_left
          · intro w'
            go_simp
            with_reducible rfl
          rotate_left
          · simp only [Act.put, List.setIfInBounds_toArray, List.set_cons_zero, List.set_cons_succ, i64_w, i32_w]
            rfl
          refine pure_ (i := 3) (N := some 32) (v := ?_) (a' := ?_) #[true, true, true, true, false, false, false, false, false, false, false, false, false, false, false, false, false, false] rfl rfl (by kernel_rfl) (fun _ _ _ h => h) (Or.inl ⟨by rfl, ?_⟩) ?_ ?_
          rotate_left
          · intro w'
            go_simp
            with_reducible rfl
          rotate_left
          · simp only [Act.put, List.setIfInBounds_toArray, List.set_cons_zero, List.set_cons_succ, i64_w, i32_w]
            rfl
          refine take_ (i := 4) (N := some 33) (v := ?_) (a' := ?_) #[true, true, true, true, true, false, false, false, false, false, false, false, false, false, false, false, false, false] rfl rfl (by kernel_rfl) (fun _ _ _ h => h) (Or.inl ⟨by rfl, ?_⟩) hHeld ?_ ?_
          rotate_left
          · rintro w' ⟨s0, s1, s2, s3, s4, s5, s6, s7, s8V1, s9, s10, s11, s12, s13, s14, s15, s16, s17⟩
            go_simp
            with_reducible rfl
          rotate_left
          · simp only [Act.put, List.setIfInBounds_toArray, List.set_cons_zero, List.set_cons_succ, i64_w, i32_w]
            rfl
          refine take_ (i := 5) (N := some 34) (v := ?_) (a' := ?_) #[true, true, true, true, true, true, false, false, false, false, false, false, false, false, false, false, false, false] rfl rfl (by kernel_rfl) (fun _ _ _ h => h) (Or.inl ⟨by rfl, ?_⟩) hHeld ?_ ?_
          rotate_left
          · rintro w' ⟨s0, s1, s2, s3, s4, s5, s6, s7, s8V1, s9, s10, s11, s12, s13, s14, s15, s16, s17⟩
            go_simp
            with_reducible rfl
          rotate_left
          · simp only [Act.put, List.setIfInBounds_toArray, List.set_cons_zero, List.set_cons_succ, i64_w, i32_w]
            rfl
          refine pure_ (i := 6) (N := some 35) (v := ?_) (a' := ?_) #[true, true, true, true, true, true, true, false, false, false, false, false, false, false, false, false, false, false] rfl rfl (by kernel_rfl) (fun _ _ _ h => h) (Or.inl ⟨by rfl, ?_⟩) ?_ ?_
          rotate_left
          · intro w'
            go_simp
            with_reducible rfl
          rotate_left
          · simp only [Act.put, List.setIfInBounds_toArray, List.set_cons_zero, List.set_cons_succ, i64_w, i32_w]
            rfl
          refine pure_ (i := 7) (N := some 36) (v := ?_) (a' := ?_) #[true, true, true, true, true, true, true, true, false, false, false, false, false, false, false, false, false, false] rfl rfl (by kernel_rfl) (fun _ _ _ h => h) (Or.inl ⟨by rfl, ?_⟩) ?_ ?_
          rotate_left
          · intro w'
            go_simp
            with_reducible rfl
          rotate_left
          · simp only [Act.put, List.setIfInBounds_toArray, List.set_cons_zero, List.set_cons_succ, i64_w, i32_w]
            rfl
          refine pure_ (i := 8) (N := some 37) (v := ?_) (a' := ?_) #[true, true, true, true, true, true, true, true, true, false, false, false, false, false, false, false, false, false] rfl rfl (by kernel_rfl) (fun _ _ _ h => h) (Or.inl ⟨by rfl, ?_⟩) ?_ ?_
          rotate_left
          · intro w'
            go_simp
            with_reducible rfl
          rotate_left
          · simp only [Act.put, List.setIfInBounds_toArray, List.set_cons_zero, List.set_cons_succ, i64_w, i32_w]
            rfl
          refine pure_ (i := 9) (N := some 38) (v := ?_) (a' := ?_) #[true, true, true, true, true, true, true, true, true, true, false, false, false, false, false, false, false, false] rfl rfl (by kernel_rfl) (fun _ _ _ h => h) (Or.inl ⟨by rfl, ?_⟩) ?_ ?_
          rotate_left
          · intro w'
            go_simp
            with_reducible rfl
          rotate_left
          · simp only [Act.put, List.setIfInBounds_toArray, List.set_cons_zero, List.set_cons_succ, i64_w, i32_w]
            rfl
          refine take_ (i := 10) (N := some 39) (v := ?_) (a' := ?_) #[true, true, true, true, true, true, true, true, true, true, true, false, false, false, false, false, false, false] rfl rfl (by kernel_rfl) (fun _ _ _ h => h) (Or.inl ⟨by rfl, ?_⟩) hHeld ?_ ?_
          rotate_left
          · rintro w' ⟨s0, s1, s2, s3, s4, s5, s6, s7, s8V1, s9, s10, s11, s12, s13, s14, s15, s16, s17⟩
            go_simp
            with_reducible rfl
          rotate_left
          · simp only [Act.put, List.setIfInBounds_toArray, List.set_cons_zero, List.set_cons_succ, i64_w, i32_w]
            rfl
          refine take_ (i := 11) (N := some 40) (v := ?_) (a' := ?_) #[true, true, true, true, true, true, true, true, true, true, true, true, false, false, false, false, false, false] rfl rfl (by kernel_rfl) (fun _ _ _ h => h) (Or.inl ⟨by rfl, ?_⟩) hHeld ?_ ?_
          rotate_left
          · rintro w' ⟨s0, s1, s2, s3, s4, s5, s6, s7, s8V1, s9, s10, s11, s12, s13, s14, s15, s16, s17⟩
            go_simp
            with_reducible rfl
          rotate_left
          · simp only [Act.put, List.setIfInBounds_toArray, List.set_cons_zero, List.set_cons_succ, i64_w, i32_w]
            rfl
          refine take_ (i := 12) (N := some 41) (v := ?_) (a' := ?_) #[true, true, true, true, true, true, true, true, true, true, true, true, true, false, false, false, false, false] rfl rfl (by kernel_rfl) (fun _ _ _ h => h) (Or.inl ⟨by rfl, ?_⟩) hHeld ?_ ?_
          rotate_left
          · rintro w' ⟨s0, s1, s2, s3, s4, s5, s6, s7, s8V1, s9, s10, s11, s12, s13, s14, s15, s16, s17⟩
            go_simp
            with_reducible rfl
          rotate_left
          · simp only [Act.put, List.setIfInBounds_toArray, List.set_cons_zero, List.set_cons_succ, i64_w, i32_w]
            rfl
          refine pure_ (i := 13) (N := some 42) (v := ?_) (a' := ?_) #[true, true, true, true, true, true, true, true, true, true, true, true, true, true, false, false, false, false] rfl rfl (by kernel_rfl) (fun _ _ _ h => h) (Or.inl ⟨by rfl, ?_⟩) ?_ ?_
          rotate_left
          · intro w'
            go_simp
            with_reducible rfl
          rotate_left
          · simp only [Act.put, List.setIfInBounds_toArray, List.set_cons_zero, List.set_cons_succ, i64_w, i32_w]
            rfl
          refine take_ (i := 14) (N := some 43) (v := ?_) (a' := ?_) #[true, true, true, true, true, true, true, true, true, true, true, true, true, true, true, false, false, false] rfl rfl (by kernel_rfl) (fun _ _ _ h => h) (Or.inl ⟨by rfl, ?_⟩) hHeld ?_ ?_
          rotate_left
          · rintro w' ⟨s0, s1, s2, s3, s4, s5, s6, s7, s8V1, s9, s10, s11, s12, s13, s14, s15, s16, s17⟩
            go_simp
            with_reducible rfl
          rotate_left
          · simp only [Act.put, List.setIfInBounds_toArray, List.set_cons_zero, List.set_cons_succ, i64_w, i32_w]
            rfl
          refine one_ (i := 15) (N := some 44) #[true, true, true, true, true, true, true, true, true, true, true, true, true, true, true, true, false, false] rfl rfl (by kernel_rfl) (by decide) (fun K hK => ?_)
          refine goes_ Tryd.func21 (by kernel_rfl) rfl #[.agg #[.int .i64 x20, .string x21, .int .i64 u0, .int .i64 u1, .bool u2, .string u3, .complex .f64 u4.re u4.im, .int .i64 x27], .agg #[.int .i64 t0, .string t1, .int .i64 v0, .int .i64 v1, .bool v2, .string v3, .complex .f64 v4.re v4.im, .int .i64 t7]] (by rfl) rfl rfl (by (try simp only [List.map_toArray, List.map_cons, List.map_nil]); first | done | rfl) ?_
          with_reducible refine (keystonelaw12_sameToken.calls x20 x21 u0 u1 u2 u3 u4 x27 t0 t1 v0 v1 v2 v3 v4 t7 r _ hr).mono ?_
          rintro e w4 ⟨rfl, hb4⟩
          refine ⟨_, rfl, ?_⟩
          have hd4 : Below W.heap.size W w4 := ((Below.refl W.heap.size W).drew).trans hb4
          have c10' := (hd4.cell (World.block_lt_of_cell? W _ c10)).trans c10
          have c5' := (hd4.cell (World.block_lt_of_cell? W _ c5)).trans c5
          have x0' := (hd4.cell (World.block_lt_of_cell? W _ x0)).trans x0
          have x1' := (hd4.cell (World.block_lt_of_cell? W _ x1)).trans x1
          have x2' := (hd4.cell (World.block_lt_of_cell? W _ x2)).trans x2
          have x3' := (hd4.cell (World.block_lt_of_cell? W _ x3)).trans x3
          have x4' := (hd4.cell (World.block_lt_of_cell? W _ x4)).trans x4
          have x5' := (hd4.cell (World.block_lt_of_cell? W _ x5)).trans x5
          have x6' := (hd4.cell (World.block_lt_of_cell? W _ x6)).trans x6
          have x7' := (hd4.cell (World.block_lt_of_cell? W _ x7)).trans x7
          have y0' := (hd4.cell (World.block_lt_of_cell? W _ y0)).trans y0
          have y1' := (hd4.cell (World.block_lt_of_cell? W _ y1)).trans y1
          have y2' := (hd4.cell (World.block_lt_of_cell? W _ y2)).trans y2
          have y3' := (hd4.cell (World.block_lt_of_cell? W _ y3)).trans y3
          have y4' := (hd4.cell (World.block_lt_of_cell? W _ y4)).trans y4
          have y5' := (hd4.cell (World.block_lt_of_cell? W _ y5)).trans y5
          have y6' := (hd4.cell (World.block_lt_of_cell? W _ y6)).trans y6
          have y7' := (hd4.cell (World.block_lt_of_cell? W _ y7)).trans y7
          refine hK.out _ _ ⟨c10', c5', x0', x1', x2', x3', x4', x5', x6', x7', y0', y1', y2', y3', y4', y5', y6', y7'⟩ (fun hHeld => ?_)
          clear hK K
          refine norm_ (a' := ?_) ?_ ?_
          rotate_left
          · show Act.put _ (some 44) _ = _
            simp only [Act.put, List.setIfInBounds_toArray, List.set_cons_zero, List.set_cons_succ, i64_w, i32_w]
            rfl
          refine pure_ (i := 16) (N := some 45) (v := ?_) (a' := ?_) #[true, true, true, true, true, true, true, true, true, true, true, true, true, true, true, true, true, false] rfl rfl (by kernel_rfl) (fun _ _ _ h => h) (Or.inl ⟨by rfl, ?_⟩) ?_ ?_
          rotate_left
          · intro w'
            go_simp
            with_reducible rfl
          rotate_left
          · simp only [Act.put, List.setIfInBounds_toArray, List.set_cons_zero, List.set_cons_succ, i64_w, i32_w]
            rfl
          refine pure_ (i := 17) (N := some 46) (v := ?_) (a' := ?_) #[true, true, true, true, true, true, true, true, true, true, true, true, true, true, true, true, true, true] rfl rfl (by kernel_rfl) (fun _ _ _ h => h) (Or.inl ⟨by rfl, ?_⟩) ?_ ?_
          rotate_left
          · intro w'
            go_simp
            with_reducible rfl
          rotate_left
          · simp only [Act.put, List.setIfInBounds_toArray, List.set_cons_zero, List.set_cons_succ, i64_w, i32_w]
            rfl
          refine done_ (by kernel_rfl) ?_
          have g10 := Boxed.under b10 hd4 b10.lt
          have g9 := Boxed.under b9 hd4 b9.lt
          have g4 := Boxed.under b4 hd4 b4.lt
          have d9 := g9.cell
          have d10 := g10.cell
          have e10 := g10.frozen
          have e4 := g4.frozen
          have d4 := g4.cell
          have d3 := (Boxed.under (Boxed.under q3 hV0 (by omega)) hd4 (by have := b10.lt; omega)).cell
          have hkw := keeps_below hd4
          have hd0 : Below w0.heap.size W w4 := hd4.mono (by have := hV0.size; omega)
          have hdV : Below V1.heap.size W w4 := hd4.mono hB1.size
          clear y0 y1 y2 y3 y4 y5 y6 y7 x0 x1 x2 x3 x4 x5 x6 x7 hHeld y0' y1' y2' y3' y4' y5' y6' y7' x0' x1' x2' x3' x4' x5' x6' x7' c3 c4 c5 c5' c9 c10 c10' f4 f10
          cases r with
          | false =>
            gi_wp2
            refine ⟨(hkw.trans (KeepsOthers.setCell _ _ _)).from _, .inl ⟨rfl, fun h => ?_⟩⟩
            have h9 := congrArg Prod.snd (hxp h)
            dsimp only at h9
            injection h9 with i0 i1 i2 i3
            injection i2 with i20 i21 i22 i23 i24
            subst i0 i1 i3 i20 i21 i22 i23 i24
            have h8 := hsame (rd_T35 L (pre.length : Int)) (by unfold rd_T35; simp [hlt])
            rw [ht] at h8
            dsimp only at h8
            rw [hr] at h8
            cases h8
          | true =>
            have hlen1 : ∀ z : Nat × S35, ((pre ++ [z]).length : Int) = (pre.length : Int) + 1 := fun z => by simp
            gi_wp2
            exact ⟨(hkw.trans (KeepsOthers.setCell _ _ _)).from _, hd0.setCell (p := ⟨V1.heap.size + 1, 0, none⟩) (by simp; omega) _, ⟨g9.other (by omega) _, by rw [hlen1]; exact g10.set _⟩, (hB1.trans hdV).setCell (p := ⟨V1.heap.size + 1, 0, none⟩) (by simp) _⟩
        · have hi1 : ((xi : Int) != (pre.length : Int)) = true := bne_iff_ne.mpr hi
          gi_wp2
          refine startR_ (n := 18) (S := fun w' => w'.cell? ⟨V1.heap.size + 1, 0, none⟩ = some (.int .i64 (pre.length : Int))) (ds := []) #[false, false, false, false, false, false, false, false, false, false, false, false, false, false, false, false, false, false] hmx rfl rfl (by rintro ⟨a, w, h⟩; exact h) (by kernel_rfl) c10 (fun hHeld => ?_)
          refine pure_ (i := 0) (N := some 29) (v := ?_) (a' := ?_) #[true, false, false, false, false, false, false, false, false, false, false, false, false, false, false, false, false, false] rfl rfl (by kernel_rfl) (fun _ _ _ h => h) (Or.inl ⟨by rfl, ?_⟩) ?_ ?_
          rotate_left
          · intro w'
            go_simp
            with_reducible rfl
          rotate_left
          · simp only [Act.put, List.setIfInBounds_toArray, List.set_cons_zero, List.set_cons_succ, i64_w, i32_w]
            rfl
          refine take_ (i := 1) (N := some 30) (v := ?_) (a' := ?_) #[true, true, false, false, false, false, false, false, false, false, false, false, false, false, false, false, false, false] rfl rfl (by kernel_rfl) (fun _ _ _ h => h) (Or.inl ⟨by rfl, ?_⟩) hHeld ?_ ?_
          rotate_left
          · rintro w' s0
            go_simp
            with_reducible rfl
          rotate_left
          · simp only [Act.put, List.setIfInBounds_toArray, List.set_cons_zero, List.set_cons_succ, i64_w, i32_w]
            rfl
          refine pure_ (i := 2) (N := some 31) (v := ?_) (a' := ?_) #[true, true, true, false, false, false, false, false, false, false, false, false, false, false, false, false, false, false] rfl rfl (by kernel_rfl) (fun _ _ _ h => h) (Or.inl ⟨by rfl, ?_⟩) ?_ ?_
          rotate_left
          · intro w'
            go_simp
            with_reducible rfl
          rotate_left
          · simp only [Act.put, List.setIfInBounds_toArray, List.set_cons_zero, List.set_cons_succ, i64_w, i32_w]
            rfl
          refine pure_ (i := 3) (N := some 32) (v := ?_) (a' := ?_) #[true, true, true, true, false, false, false, false, false, false, false, false, false, false, false, false, false, false] rfl rfl (by kernel_rfl) (fun _ _ _ h => h) (Or.inl ⟨by rfl, ?_⟩) ?_ ?_
          rotate_left
          · intro w'
            go_simp
            with_reducible rfl
          rotate_left
          · simp only [Act.put, List.setIfInBounds_toArray, List.set_cons_zero, List.set_cons_succ, i64_w, i32_w]
            rfl
          refine pure_ (i := 4) (N := some 33) (v := undef) (a' := ?_) #[true, true, true, true, true, false, false, false, false, false, false, false, false, false, false, false, false, false] rfl rfl (by kernel_rfl) (fun _ _ _ h => h) (Or.inr ⟨by rfl, rfl⟩) ?_ ?_
          rotate_left
          · simp only [Act.put, List.setIfInBounds_toArray, List.set_cons_zero, List.set_cons_succ, i64_w, i32_w]
            rfl
          refine pure_ (i := 5) (N := some 34) (v := undef) (a' := ?_) #[true, true, true, true, true, true, false, false, false, false, false, false, false, false, false, false, false, false] rfl rfl (by kernel_rfl) (fun _ _ _ h => h) (Or.inr ⟨by rfl, rfl⟩) ?_ ?_
          rotate_left
          · simp only [Act.put, List.setIfInBounds_toArray, List.set_cons_zero, List.set_cons_succ, i64_w, i32_w]
            rfl
          refine pure_ (i := 6) (N := some 35) (v := undef) (a' := ?_) #[true, true, true, true, true, true, true, false, false, false, false, false, false, false, false, false, false, false] rfl rfl (by kernel_rfl) (fun _ _ _ h => h) (Or.inr ⟨by rfl, rfl⟩) ?_ ?_
          rotate_left
          · simp only [Act.put, List.setIfInBounds_toArray, List.set_cons_zero, List.set_cons_succ, i64_w, i32_w]
            rfl
          refine pure_ (i := 7) (N := some 36) (v := undef) (a' := ?_) #[true, true, true, true, true, true, true, true, false, false, false, false, false, false, false, false, false, false] rfl rfl (by kernel_rfl) (fun _ _ _ h => h) (Or.inr ⟨by rfl, rfl⟩) ?_ ?_
          rotate_left
          · simp only [Act.put, List.setIfInBounds_toArray, List.set_cons_zero, List.set_cons_succ, i64_w, i32_w]
            rfl
          refine pure_ (i := 8) (N := some 37) (v := ?_) (a' := ?_) #[true, true, true, true, true, true, true, true, true, false, false, false, false, false, false, false, false, false] rfl rfl (by kernel_rfl) (fun _ _ _ h => h) (Or.inl ⟨by rfl, ?_⟩) ?_ ?_
          rotate_left
          · intro w'
            go_simp
            with_reducible rfl
          rotate_left
          · simp only [Act.put, List.setIfInBounds_toArray, List.set_cons_zero, List.set_cons_succ, i64_w, i32_w]
            rfl
          refine pure_ (i := 9) (N := some 38) (v := ?_) (a' := ?_) #[true, true, true, true, true, true, true, true, true, true, false, false, false, false, false, false, false, false] rfl rfl (by kernel_rfl) (fun _ _ _ h => h) (Or.inl ⟨by rfl, ?_⟩) ?_ ?_
          rotate_left
          · intro w'
            go_simp
            with_reducible rfl
          rotate_left
          · simp only [Act.put, List.setIfInBounds_toArray, List.set_cons_zero, List.set_cons_succ, i64_w, i32_w]
            rfl
          refine pure_ (i := 10) (N := some 39) (v := undef) (a' := ?_) #[true, true, true, true, true, true, true, true, true, true, true, false, false, false, false, false, false, false] rfl rfl (by kernel_rfl) (fun _ _ _ h => h) (Or.inr ⟨by rfl, rfl⟩) ?_ ?_
          rotate_left
          · simp only [Act.put, List.setIfInBounds_toArray, List.set_cons_zero, List.set_cons_succ, i64_w, i32_w]
            rfl
          refine pure_ (i := 11) (N := some 40) (v := undef) (a' := ?_) #[true, true, true, true, true, true, true, true, true, true, true, true, false, false, false, false, false, false] rfl rfl (by kernel_rfl) (fun _ _ _ h => h) (Or.inr ⟨by rfl, rfl⟩) ?_ ?_
          rotate_left
          · simp only [Act.put, List.setIfInBounds_toArray, List.set_cons_zero, List.set_cons_succ, i64_w, i32_w]
            rfl
          refine pure_ (i := 12) (N := some 41) (v := undef) (a' := ?_) #[true, true, true, true, true, true, true, true, true, true, true, true, true, false, false, false, false, false] rfl rfl (by kernel_rfl) (fun _ _ _ h => h) (Or.inr ⟨by rfl, rfl⟩) ?_ ?_
          rotate_left
          · simp only [Act.put, List.setIfInBounds_toArray, List.set_cons_zero, List.set_cons_succ, i64_w, i32_w]
            rfl
          refine pure_ (i := 13) (N := some 42) (v := undef) (a' := ?_) #[true, true, true, true, true, true, true, true, true, true, true, true, true, true, false, false, false, false] rfl rfl (by kernel_rfl) (fun _ _ _ h => h) (Or.inr ⟨by rfl, rfl⟩) ?_ ?_
          rotate_left
          · simp only [Act.put, List.setIfInBounds_toArray, List.set_cons_zero, List.set_cons_succ, i64_w, i32_w]
            rfl
          refine pure_ (i := 14) (N := some 43) (v := undef) (a' := ?_) #[true, true, true, true, true, true, true, true, true, true, true, true, true, true, true, false, false, false] rfl rfl (by kernel_rfl) (fun _ _ _ h => h) (Or.inr ⟨by rfl, rfl⟩) ?_ ?_
          rotate_left
          · simp only [Act.put, List.setIfInBounds_toArray, List.set_cons_zero, List.set_cons_succ, i64_w, i32_w]
            rfl
          refine pure_ (i := 15) (N := some 44) (v := undef) (a' := ?_) #[true, true, true, true, true, true, true, true, true, true, true, true, true, true, true, true, false, false] rfl rfl (by kernel_rfl) (fun _ _ _ h => h) (Or.inr ⟨by rfl, rfl⟩) ?_ ?_
          rotate_left
          · simp only [Act.put, List.setIfInBounds_toArray, List.set_cons_zero, List.set_cons_succ, i64_w, i32_w]
            rfl
          refine pure_ (i := 16) (N := some 45) (v := undef) (a' := ?_) #[true, true, true, true, true, true, true, true, true, true, true, true, true, true, true, true, true, false] rfl rfl (by kernel_rfl) (fun _ _ _ h => h) (Or.inr ⟨by rfl, rfl⟩) ?_ ?_
          rotate_left
          · simp only [Act.put, List.setIfInBounds_toArray, List.set_cons_zero, List.set_cons_succ, i64_w, i32_w]
            rfl
          refine pure_ (i := 17) (N := some 46) (v := ?_) (a' := ?_) #[true, true, true, true, true, true, true, true, true, true, true, true, true, true, true, true, true, true] rfl rfl (by kernel_rfl) (fun _ _ _ h => h) (Or.inl ⟨by rfl, ?_⟩) ?_ ?_
          rotate_left
          · intro w'
            go_simp
            with_reducible rfl
          rotate_left
          · simp only [Act.put, List.setIfInBounds_toArray, List.set_cons_zero, List.set_cons_succ, i64_w, i32_w]
            rfl
          refine done_ (by kernel_rfl) ?_
          gi_wp2
          refine ⟨((KeepsOthers.drew W).trans (KeepsOthers.setCell _ _ _)).from _, .inl ⟨rfl, fun h => hi ?_⟩⟩
          have h9 := congrArg Prod.fst (hxp h)
          exact congrArg Nat.cast h9
      case fin1 =>
        rintro D1 m1 W hD1 hm1 hmL1 ⟨⟨b9, b10⟩, hB2⟩ hK1
        obtain rfl : m1 = L.length := hm1.resolve_right (fun h => absurd h.1 (by decide))
        have hVV2 : Below w0.heap.size w0 W := hVV1.trans (hB2.mono hVV1.size)
        have c9 := b9.cell
        have c10 := b10.cell
        have c5 := (Boxed.under q5 hVV2 (by omega)).cell
        have b4 := Boxed.under q4 hVV2 (by omega)
        have c4 := b4.cell
        have f4 := b4.frozen
        have hK0 : W.heap[D]? = some (.deferred (some [])) := (hB2.block D hDW).trans hK
        gi_wp2
        rw [roundsIn_succ]
        gi_wp2
        have hDD : D ≠ D1 := by omega
        have e1 := (KeepsOthers.setCell W ⟨w.heap.size + 1, 0, none⟩ (.bool true)).same D1 _ hK1 rfl
        have e0 := (KeepsOthers.setCell W ⟨w.heap.size + 1, 0, none⟩ (.bool true)).same D _ hK0 rfl
        have eb := b4.set (.bool true)
        have hBW : Below w.heap.size w (W.setCell ⟨w.heap.size + 1, 0, none⟩ (.bool true)) := (hBw0.trans (hVV2.mono hBw0.size)).setCell (p := ⟨w.heap.size + 1, 0, none⟩) (by simp) _
        generalize W.setCell ⟨w.heap.size + 1, 0, none⟩ (.bool true) = W1 at e1 e0 eb hBW ⊢
        have e0' : (W1.putObj D1 (.deferred none)).heap[D]? = some (.deferred (some [])) := (World.putObj_heap_other hDD).trans e0
        refine ⟨by simp, .inl ⟨D1, _, rfl, run_takeDeferred e1, ?_⟩⟩
        refine ⟨by simp, .inl ⟨D, _, rfl, run_takeDeferred e0', ?_⟩⟩
        have eb1 : Boxed (W1.putObj D1 (.deferred none)) (w.heap.size + 1) 4 (.bool true) := eb.kept (grownBy_putObj' W1 D1 _) (fun e => by cases e; omega)
        have eb2 : Boxed ((W1.putObj D1 (.deferred none)).putObj D (.deferred none)) (w.heap.size + 1) 4 (.bool true) := eb1.kept (grownBy_putObj' _ D _) (fun e => by cases e; omega)
        have hBe : Below w.heap.size w ((W1.putObj D1 (.deferred none)).putObj D (.deferred none)) := (hBW.trans (belowK_b (w := w0) hBw0.size W1 D1 _ _ (by omega) e1 rfl rfl)).trans (belowK_b (w := w0) hBw0.size _ D _ _ hDV e0' rfl rfl)
        have eb3 := eb2.cell
        refine ⟨_, ?_, rfl, hBe⟩
        rw [results_cell1 rfl]
        have hu4 := Tryd.underlying4
        go_simp
    · have hst : stop = (m : Int) := (hm.resolve_left hmLL).2
      have hmL2 : (m = L.length) = False := eq_false hmLL
      rw [hst] at c3
      gi_wp2
      rw [roundsIn_succ]
      clear c3 c5 c9 c10 b9 b10
      gi_wp2
      obtain ⟨Ws, hWs⟩ : ∃ Ws, (V1.alloc (.cells #[.int .i64 1] 3)).alloc (.cells #[.int .i64 0] 3) = Ws := ⟨_, rfl⟩
      have bB9 : Boxed Ws V1.heap.size 3 (.int .i64 1) := by rw [← hWs]; exact (Boxed.new V1 3 _).alloc _
      have bB10 : Boxed Ws (V1.heap.size + 1) 3 (.int .i64 0) := by rw [← hWs]; have := Boxed.new (V1.alloc (.cells #[.int .i64 1] 3)) 3 (.int .i64 0); rwa [World.size_alloc] at this
      have hWV : Below V1.heap.size V1 Ws := by rw [← hWs]; exact ((Below.refl _ V1).alloc (Nat.le_refl _) _).alloc (by simp) _
      have sWs : Ws.heap.size = V1.heap.size + 2 := by rw [← hWs]; simp
      rw [hWs]
      clear hWs
      have hI0 : OwnFrom Ws.heap.size (fun (m : Nat) W => (Boxed W V1.heap.size 3 (.int .i64 1) ∧ Boxed W (V1.heap.size + 1) 3 (.int .i64 (m : Int))) ∧ Below V1.heap.size V1 W) :=
        OwnFrom.and (OwnFrom.and (Own.from (boxed_own _ _ (fun (_ : Nat) => Value.int .i64 1)) _) (Own.from (boxed_own _ _ (fun (m : Nat) => Value.int .i64 (m : Int))) _)) (ownFrom_below (Nat.le_refl _) (by omega))
      refine tok_range2 (F := Fence.wide) rfl (by omega) (gf := 36) (lb := #[.pointer (some ⟨w0.heap.size, 0, none⟩)]) rfl trivial (enters_of Tryd.func36 (by kernel_rfl) rfl)
        (all_stops Fence.wide _ trivial rfl (by omega) w0.heap.size A cap L hlen w0 Ws hC (hVV1.trans (hWV.mono hVV1.size)) (by omega) (Boxed.under q8V1 hWV s8V1).cell) belowK_t (belowK_b (by omega))
        (fun m W => (Boxed W V1.heap.size 3 (.int .i64 1) ∧ Boxed W (V1.heap.size + 1) 3 (.int .i64 (m : Int))) ∧ Below V1.heap.size V1 W)
        (fun m => 1 = (0 : Int) ∧ stop = (m : Int))
        hI0 ⟨⟨bB9, bB10⟩, hWV⟩ ?assign1 ?body1 (fun _ _ h => h) ?fin1
      case assign1 =>
        rintro l pre x W K ⟨⟨b9, b10⟩, hB1⟩ hK
        have hxv : tokV x.2 = .agg #[.int .i64 x.2.f0, .string x.2.f1, .int .i64 x.2.f2.f0, .int .i64 x.2.f2.f1, .bool x.2.f2.f2, .string x.2.f2.f3, .complex .f64 x.2.f2.f4.re x.2.f2.f4.im, .int .i64 x.2.f3] := rfl
        rw [hxv] at hK ⊢
        gi_wp2
        exact hK W.heap.size _ ((KeepsOthers.alloc _ _).from _) ((Below.refl _ W).alloc (Nat.le_trans hVV1.size hB1.size) _) ⟨⟨b9.alloc _, b10.alloc _⟩, hB1.alloc hB1.size _⟩ (by have := b10.lt; omega) (World.alloc_heap_new W _)
      case body1 =>
        rintro l pre x Bx W hBx ⟨⟨b9, b10⟩, hB1⟩ bX hlt
        have hV0 : Below w0.heap.size w0 W := hVV1.trans (hB1.mono hVV1.size)
        have c9 := b9.cell
        have c10 := b10.cell
        have f10 := b10.frozen
        have c3 := (Boxed.under q3 hV0 (by omega)).cell
        have b4 := Boxed.under q4 hV0 (by omega)
        have c4 := b4.cell
        have f4 := b4.frozen
        have c5 := (Boxed.under q5 hV0 (by omega)).cell
        obtain ⟨x0, x1, x2, x3, x4, x5, x6, x7⟩ := bX.cells
        obtain ⟨r, hr⟩ := same_some x.2 (rd_T35 L (pre.length : Int))
        obtain ⟨ad, rfl, y0, y1, y2, y3, y4, y5, y6, y7⟩ := at_T35 (Kd.C_below hCw0 hV0) (pre.length : Int) (by omega) (by omega)
        rw [Int.toNat_natCast] at y0 y1 y2 y3 y4 y5 y6 y7
        have hxp := pre_snoc L pre x
        obtain ⟨xi, ⟨x20, x21, ⟨u0, u1, u2, u3, u4⟩, x27⟩⟩ := x
        generalize ht : rd_T35 L (pre.length : Int) = t at hr y0 y1 y2 y3 y4 y5 y6 y7 hxp
        obtain ⟨t0, t1, ⟨v0, v1, v2, v3, v4⟩, t7⟩ := t
        dsimp only at x0 x1 x2 x3 x4 x5 x6 x7 y0 y1 y2 y3 y4 y5 y6 y7 hr
        dsimp only [tokV]
        have hd : 1 ≤ 9 - 1 - 1 := by omega
        by_cases hi : (xi : Int) = (pre.length : Int)
        · obtain rfl : xi = pre.length := by omega
          have hge : (L.length ≤ pre.length) = False := eq_false (by omega)
          have hz : (0 ≤ (pre.length : Int)) = True := eq_true (by omega)
          have hlt' : ((pre.length : Int) < (L.length : Int)) = True := eq_true (by omega)
          gi_wp2
          refine startR_ (n := 18) (S := fun w' => w'.cell? ⟨V1.heap.size + 1, 0, none⟩ = some (.int .i64 (pre.length : Int)) ∧ w'.cell? ⟨w2.heap.size, 0, none⟩ = some (.slice (some ad) L.length cw) ∧ w'.cell? ⟨Bx, 0, none⟩ = some (.int .i64 x20) ∧ w'.cell? ⟨Bx, 1, none⟩ = some (.string x21) ∧ w'.cell? ⟨Bx, 2, none⟩ = some (.int .i64 u0) ∧ w'.cell? ⟨Bx, 3, none⟩ = some (.int .i64 u1) ∧ w'.cell? ⟨Bx, 4, none⟩ = some (.bool u2) ∧ w'.cell? ⟨Bx, 5, none⟩ = some (.string u3) ∧ w'.cell? ⟨Bx, 6, none⟩ = some (.complex .f64 u4.re u4.im) ∧ w'.cell? ⟨Bx, 7, none⟩ = some (.int .i64 x27) ∧ w'.cell? (ad.add (pre.length * 8)) = some (.int .i64 t0) ∧ w'.cell? ⟨(ad.add (pre.length * 8)).block, (ad.add (pre.length * 8)).off + 1, none⟩ = some (.string t1) ∧ w'.cell? ⟨(ad.add (pre.length * 8)).block, (ad.add (pre.length * 8)).off + 2, none⟩ = some (.int .i64 v0) ∧ w'.cell? ⟨(ad.add (pre.length * 8)).block, (ad.add (pre.length * 8)).off + 3, none⟩ = some (.int .i64 v1) ∧ w'.cell? ⟨(ad.add (pre.length * 8)).block, (ad.add (pre.length * 8)).off + 4, none⟩ = some (.bool v2) ∧ w'.cell? ⟨(ad.add (pre.length * 8)).block, (ad.add (pre.length * 8)).off + 5, none⟩ = some (.string v3) ∧ w'.cell? ⟨(ad.add (pre.length * 8)).block, (ad.add (pre.length * 8)).off + 6, none⟩ = some (.complex .f64 v4.re v4.im) ∧ w'.cell? ⟨(ad.add (pre.length * 8)).block, (ad.add (pre.length * 8)).off + 7, none⟩ = some (.int .i64 t7)) (ds := []) #[false, false, false, false, false, false, false, false, false, false, false, false, false, false, false, false, false, false] hmx rfl rfl (by rintro ⟨a, w, h⟩; exact h) (by kernel_rfl) ⟨c10, c5, x0, x1, x2, x3, x4, x5, x6, x7, y0, y1, y2, y3, y4, y5, y6, y7⟩ (fun hHeld => ?_)
          refine pure_ (i := 0) (N := some 29) (v := ?_) (a' := ?_) #[true, false, false, false, false, false, false, false, false, false, false, false, false, false, false, false, false, false] rfl rfl (by kernel_rfl) (fun _ _ _ h => h) (Or.inl ⟨by rfl, ?_⟩) ?_ ?_
          rotate_left
          · intro w'
            go_simp
            with_reducible rfl
          rotate_left
          · simp only [Act.put, List.setIfInBounds_toArray, List.set_cons_zero, List.set_cons_succ, i64_w, i32_w]
            rfl
          refine take_ (i := 1) (N := some 30) (v := ?_) (a' := ?_) #[true, true, false, false, false, false, false, false, false, false, false, false, false, false, false, false, false, false] rfl rfl (by kernel_rfl) (fun _ _ _ h => h) (Or.inl ⟨by rfl, ?_⟩) hHeld ?_ ?_
          rotate_left
          · rintro w' ⟨s0, s1, s2, s3, s4, s5, s6, s7, s8V1, s9, s10, s11, s12, s13, s14, s15, s16, s17⟩
            go_simp
            with_reducible rfl
          rotate_left
          · simp only [Act.put, List.setIfInBounds_toArray, List.set_cons_zero, List.set_cons_succ, i64_w, i32_w]
            rfl
          refine pure_ (i := 2) (N := some 31) (v := ?_) (a' := ?_) #[true, true, true, false, false, false, false, false, false, false, false, false, false, false, false, false, false, false] rfl rfl (by kernel_rfl) (fun _ _ _ h => h) (Or.inl ⟨by rfl, ?_⟩) ?_ ?_
          rotate_left
          · intro w'
            go_simp
            with_reducible rfl
          rotate_left
          · simp only [Act.put, List.setIfInBounds_toArray, List.set_cons_zero, List.set_cons_succ, i64_w, i32_w]
            rfl
          refine pure_ (i := 3) (N := some 32) (v := ?_) (a' := ?_) #[true, true, true, true, false, false, false, false, false, false, false, false, false, false, false, false, false, false] rfl rfl (by kernel_rfl) (fun _ _ _ h => h) (Or.inl ⟨by rfl, ?_⟩) ?_ ?_
          rotate_left
          · intro w'
            go_simp
            with_reducible rfl
          rotate_left
          · simp only [Act.put, List.setIfInBounds_toArray, List.set_cons_zero, List.set_cons_succ, i64_w, i32_w]
            rfl
          refine take_ (i := 4) (N := some 33) (v := ?_) (a' := ?_) #[true, true, true, true, true, false, false, false, false, false, false, false, false, false, false, false, false, false] rfl rfl (by kernel_rfl) (fun _ _ _ h => h) (Or.inl ⟨by rfl, ?_⟩) hHeld ?_ ?_
          rotate_left
          · rintro w' ⟨s0, s1, s2, s3, s4, s5, s6, s7, s8V1, s9, s10, s11, s12, s13, s14, s15, s16, s17⟩
            go_simp
            with_reducible rfl
          rotate_left
          · simp only [Act.put, List.setIfInBounds_toArray, List.set_cons_zero, List.set_cons_succ, i64_w, i32_w]
            rfl
          refine take_ (i := 5) (N := some 34) (v := ?_) (a' := ?_) #[true, true, true, true, true, true, false, false, false, false, false, false, false, false, false, false, false, false] rfl rfl (by kernel_rfl) (fun _ _ _ h => h) (Or.inl ⟨by rfl, ?_⟩) hHeld ?_ ?_
          rotate_left
          · rintro w' ⟨s0, s1, s2, s3, s4, s5, s6, s7, s8V1, s9, s10, s11, s12, s13, s14, s15, s16, s17⟩
            go_simp
            with_reducible rfl
          rotate_left
          · simp only [Act.put, List.setIfInBounds_toArray, List.set_cons_zero, List.set_cons_succ, i64_w, i32_w]
            rfl
          refine pure_ (i := 6) (N := some 35) (v := ?_) (a' := ?_) #[true, true, true, true, true, true, true, false, false, false, false, false, false, false, false, false, false, false] rfl rfl (by kernel_rfl) (fun _ _ _ h => h) (Or.inl ⟨by rfl, ?_⟩) ?_ ?_
          rotate_left
          · intro w'
            go_simp
            with_reducible rfl
          rotate_left
          · simp only [Act.put, List.setIfInBounds_toArray, List.set_cons_zero, List.set_cons_succ, i64_w, i32_w]
            rfl
          refine pure_ (i := 7) (N := some 36) (v := ?_) (a' := ?_) #[true, true, true, true, true, true, true, true, false, false, false, false, false, false, false, false, false, false] rfl rfl (by kernel_rfl) (fun _ _ _ h => h) (Or.inl ⟨by rfl, ?_⟩) ?_ ?_
          rotate_left
          · intro w'
            go_simp
            with_reducible rfl
          rotate_left
          · simp only [Act.put, List.setIfInBounds_toArray, List.set_cons_zero, List.set_cons_succ, i64_w, i32_w]
            rfl
          refine pure_ (i := 8) (N := some 37) (v := ?_) (a' := ?_) #[true, true, true, true, true, true, true, true, true, false, false, false, false, false, false, false, false, false] rfl rfl (by kernel_rfl) (fun _ _ _ h => h) (Or.inl ⟨by rfl, ?_⟩) ?_ ?_
          rotate_left
          · intro w'
            go_simp
            with_reducible rfl
          rotate_left
          · simp only [Act.put, List.setIfInBounds_toArray, List.set_cons_zero, List.set_cons_succ, i64_w, i32_w]
            rfl
          refine pure_ (i := 9) (N := some 38) (v := ?_) (a' := ?_) #[true, true, true, true, true, true, true, true, true, true, false, false, false, false, false, false, false, false] rfl rfl (by kernel_rfl) (fun _ _ _ h => h) (Or.inl ⟨by rfl, ?_⟩) ?_ ?_
          rotate_left
          · intro w'
            go_simp
            with_reducible rfl
          rotate_left
          · simp only [Act.put, List.setIfInBounds_toArray, List.set_cons_zero, List.set_cons_succ, i64_w, i32_w]
            rfl
          refine take_ (i := 10) (N := some 39) (v := ?_) (a' := ?_) #[true, true, true, true, true, true, true, true, true, true, true, false, false, false, false, false, false, false] rfl rfl (by kernel_rfl) (fun _ _ _ h => h) (Or.inl ⟨by rfl, ?_⟩) hHeld ?_ ?_
          rotate_left
          · rintro w' ⟨s0, s1, s2, s3, s4, s5, s6, s7, s8V1, s9, s10, s11, s12, s13, s14, s15, s16, s17⟩
            go_simp
            with_reducible rfl
          rotate_left
          · simp only [Act.put, List.setIfInBounds_toArray, List.set_cons_zero, List.set_cons_succ, i64_w, i32_w]
            rfl
          refine take_ (i := 11) (N := some 40) (v := ?_) (a' := ?_) #[true, true, true, true, true, true, true, true, true, true, true, true, false, false, false, false, false, false] rfl rfl (by kernel_rfl) (fun _ _ _ h => h) (Or.inl ⟨by rfl, ?_⟩) hHeld ?_ ?_
          rotate_left
          · rintro w' ⟨s0, s1, s2, s3, s4, s5, s6, s7, s8V1, s9, s10, s11, s12, s13, s14, s15, s16, s17⟩
            go_simp
            with_reducible rfl
          rotate_left
          · simp only [Act.put, List.setIfInBounds_toArray, List.set_cons_zero, List.set_cons_succ, i64_w, i32_w]
            rfl
          refine take_ (i := 12) (N := some 41) (v := ?_) (a' := ?_) #[true, true, true, true, true, true, true, true, true, true, true, true, true, false, false, false, false, false] rfl rfl (by kernel_rfl) (fun _ _ _ h => h) (Or.inl ⟨by rfl, ?_⟩) hHeld ?_ ?_
          rotate_left
          · rintro w' ⟨s0, s1, s2, s3, s4, s5, s6, s7, s8V1, s9, s10, s11, s12, s13, s14, s15, s16, s17⟩
            go_simp
            with_reducible rfl
          rotate_left
          · simp only [Act.put, List.setIfInBounds_toArray, List.set_cons_zero, List.set_cons_succ, i64_w, i32_w]
            rfl
          refine pure_ (i := 13) (N := some 42) (v := ?_) (a' := ?_) #[true, true, true, true, true, true, true, true, true, true, true, true, true, true, false, false, false, false] rfl rfl (by kernel_rfl) (fun _ _ _ h => h) (Or.inl ⟨by rfl, ?_⟩) ?_ ?_
          rotate_left
          · intro w'
            go_simp
            with_reducible rfl
          rotate_left
          · simp only [Act.put, List.setIfInBounds_toArray, List.set_cons_zero, List.set_cons_succ, i64_w, i32_w]
            rfl
          refine take_ (i := 14) (N := some 43) (v := ?_) (a' := ?_) #[true, true, true, true, true, true, true, true, true, true, true, true, true, true, true, false, false, false] rfl rfl (by kernel_rfl) (fun _ _ _ h => h) (Or.inl ⟨by rfl, ?_⟩) hHeld ?_ ?_
          rotate_left
          · rintro w' ⟨s0, s1, s2, s3, s4, s5, s6, s7, s8V1, s9, s10, s11, s12, s13, s14, s15, s16, s17⟩
            go_simp
            with_reducible rfl
          rotate_left
          · simp only [Act.put, List.setIfInBounds_toArray, List.set_cons_zero, List.set_cons_succ, i64_w, i32_w]
            rfl
          refine one_ (i := 15) (N := some 44) #[true, true, true, true, true, true, true, true, true, true, true, true, true, true, true, true, false, false] rfl rfl (by kernel_rfl) (by decide) (fun K hK => ?_)
          refine goes_ Tryd.func21 (by kernel_rfl) rfl #[.agg #[.int .i64 x20, .string x21, .int .i64 u0, .int .i64 u1, .bool u2, .string u3, .complex .f64 u4.re u4.im, .int .i64 x27], .agg #[.int .i64 t0, .string t1, .int .i64 v0, .int .i64 v1, .bool v2, .string v3, .complex .f64 v4.re v4.im, .int .i64 t7]] (by rfl) rfl rfl (by (try simp only [List.map_toArray, List.map_cons, List.map_nil]); first | done | rfl) ?_
          with_reducible refine (keystonelaw12_sameToken.calls x20 x21 u0 u1 u2 u3 u4 x27 t0 t1 v0 v1 v2 v3 v4 t7 r _ hr).mono ?_
          rintro e w4 ⟨rfl, hb4⟩
          refine ⟨_, rfl, ?_⟩
          have hd4 : Below W.heap.size W w4 := ((Below.refl W.heap.size W).drew).trans hb4
          have c10' := (hd4.cell (World.block_lt_of_cell? W _ c10)).trans c10
          have c5' := (hd4.cell (World.block_lt_of_cell? W _ c5)).trans c5
          have x0' := (hd4.cell (World.block_lt_of_cell? W _ x0)).trans x0
          have x1' := (hd4.cell (World.block_lt_of_cell? W _ x1)).trans x1
          have x2' := (hd4.cell (World.block_lt_of_cell? W _ x2)).trans x2
          have x3' := (hd4.cell (World.block_lt_of_cell? W _ x3)).trans x3
          have x4' := (hd4.cell (World.block_lt_of_cell? W _ x4)).trans x4
          have x5' := (hd4.cell (World.block_lt_of_cell? W _ x5)).trans x5
          have x6' := (hd4.cell (World.block_lt_of_cell? W _ x6)).trans x6
          have x7' := (hd4.cell (World.block_lt_of_cell? W _ x7)).trans x7
          have y0' := (hd4.cell (World.block_lt_of_cell? W _ y0)).trans y0
          have y1' := (hd4.cell (World.block_lt_of_cell? W _ y1)).trans y1
          have y2' := (hd4.cell (World.block_lt_of_cell? W _ y2)).trans y2
          have y3' := (hd4.cell (World.block_lt_of_cell? W _ y3)).trans y3
          have y4' := (hd4.cell (World.block_lt_of_cell? W _ y4)).trans y4
          have y5' := (hd4.cell (World.block_lt_of_cell? W _ y5)).trans y5
          have y6' := (hd4.cell (World.block_lt_of_cell? W _ y6)).trans y6
          have y7' := (hd4.cell (World.block_lt_of_cell? W _ y7)).trans y7
          refine hK.out _ _ ⟨c10', c5', x0', x1', x2', x3', x4', x5', x6', x7', y0', y1', y2', y3', y4', y5', y6', y7'⟩ (fun hHeld => ?_)
          clear hK K
          refine norm_ (a' := ?_) ?_ ?_
          rotate_left
          · show Act.put _ (some 44) _ = _
            simp only [Act.put, List.setIfInBounds_toArray, List.set_cons_zero, List.set_cons_succ, i64_w, i32_w]
            rfl
          refine pure_ (i := 16) (N := some 45) (v := ?_) (a' := ?_) #[true, true, true, true, true, true, true, true, true, true, true, true, true, true, true, true, true, false] rfl rfl (by kernel_rfl) (fun _ _ _ h => h) (Or.inl ⟨by rfl, ?_⟩) ?_ ?_
          rotate_left
          · intro w'
            go_simp
            with_reducible rfl
          rotate_left
          · simp only [Act.put, List.setIfInBounds_toArray, List.set_cons_zero, List.set_cons_succ, i64_w, i32_w]
            rfl
          refine pure_ (i := 17) (N := some 46) (v := ?_) (a' := ?_) #[true, true, true, true, true, true, true, true, true, true, true, true, true, true, true, true, true, true] rfl rfl (by kernel_rfl) (fun _ _ _ h => h) (Or.inl ⟨by rfl, ?_⟩) ?_ ?_
          rotate_left
          · intro w'
            go_simp
            with_reducible rfl
          rotate_left
          · simp only [Act.put, List.setIfInBounds_toArray, List.set_cons_zero, List.set_cons_succ, i64_w, i32_w]
            rfl
          refine done_ (by kernel_rfl) ?_
          have g10 := Boxed.under b10 hd4 b10.lt
          have g9 := Boxed.under b9 hd4 b9.lt
          have g4 := Boxed.under b4 hd4 b4.lt
          have d9 := g9.cell
          have d10 := g10.cell
          have e10 := g10.frozen
          have e4 := g4.frozen
          have d4 := g4.cell
          have d3 := (Boxed.under (Boxed.under q3 hV0 (by omega)) hd4 (by have := b10.lt; omega)).cell
          have hkw := keeps_below hd4
          have hd0 : Below w0.heap.size W w4 := hd4.mono (by have := hV0.size; omega)
          have hdV : Below V1.heap.size W w4 := hd4.mono hB1.size
          clear y0 y1 y2 y3 y4 y5 y6 y7 x0 x1 x2 x3 x4 x5 x6 x7 hHeld y0' y1' y2' y3' y4' y5' y6' y7' x0' x1' x2' x3' x4' x5' x6' x7' c3 c4 c5 c5' c9 c10 c10' f4 f10
          cases r with
          | false =>
            gi_wp2
            refine ⟨(hkw.trans (KeepsOthers.setCell _ _ _)).from _, .inl ⟨rfl, fun h => ?_⟩⟩
            have h9 := congrArg Prod.snd (hxp h)
            dsimp only at h9
            injection h9 with i0 i1 i2 i3
            injection i2 with i20 i21 i22 i23 i24
            subst i0 i1 i3 i20 i21 i22 i23 i24
            have h8 := hsame (rd_T35 L (pre.length : Int)) (by unfold rd_T35; simp [hlt])
            rw [ht] at h8
            dsimp only at h8
            rw [hr] at h8
            cases h8
          | true =>
            have hlen1 : ∀ z : Nat × S35, ((pre ++ [z]).length : Int) = (pre.length : Int) + 1 := fun z => by simp
            gi_wp2
            exact ⟨(hkw.trans (KeepsOthers.setCell _ _ _)).from _, hd0.setCell (p := ⟨V1.heap.size + 1, 0, none⟩) (by simp; omega) _, ⟨g9.other (by omega) _, by rw [hlen1]; exact g10.set _⟩, (hB1.trans hdV).setCell (p := ⟨V1.heap.size + 1, 0, none⟩) (by simp) _⟩
        · have hi1 : ((xi : Int) != (pre.length : Int)) = true := bne_iff_ne.mpr hi
          gi_wp2
          refine startR_ (n := 18) (S := fun w' => w'.cell? ⟨V1.heap.size + 1, 0, none⟩ = some (.int .i64 (pre.length : Int))) (ds := []) #[false, false, false, false, false, false, false, false, false, false, false, false, false, false, false, false, false, false] hmx rfl rfl (by rintro ⟨a, w, h⟩; exact h) (by kernel_rfl) c10 (fun hHeld => ?_)
          refine pure_ (i := 0) (N := some 29) (v := ?_) (a' := ?_) #[true, false, false, false, false, false, false, false, false, false, false, false, false, false, false, false, false, false] rfl rfl (by kernel_rfl) (fun _ _ _ h => h) (Or.inl ⟨by rfl, ?_⟩) ?_ ?_
          rotate_left
          · intro w'
            go_simp
            with_reducible rfl
          rotate_left
          · simp only [Act.put, List.setIfInBounds_toArray, List.set_cons_zero, List.set_cons_succ, i64_w, i32_w]
            rfl
          refine take_ (i := 1) (N := some 30) (v := ?_) (a' := ?_) #[true, true, false, false, false, false, false, false, false, false, false, false, false, false, false, false, false, false] rfl rfl (by kernel_rfl) (fun _ _ _ h => h) (Or.inl ⟨by rfl, ?_⟩) hHeld ?_ ?_
          rotate_left
          · rintro w' s0
            go_simp
            with_reducible rfl
          rotate_left
          · simp only [Act.put, List.setIfInBounds_toArray, List.set_cons_zero, List.set_cons_succ, i64_w, i32_w]
            rfl
          refine pure_ (i := 2) (N := some 31) (v := ?_) (a' := ?_) #[true, true, true, false, false, false, false, false, false, false, false, false, false, false, false, false, false, false] rfl rfl (by kernel_rfl) (fun _ _ _ h => h) (Or.inl ⟨by rfl, ?_⟩) ?_ ?_
          rotate_left
          · intro w'
            go_simp
            with_reducible rfl
          rotate_left
          · simp only [Act.put, List.setIfInBounds_toArray, List.set_cons_zero, List.set_cons_succ, i64_w, i32_w]
            rfl
          refine pure_ (i := 3) (N := some 32) (v := ?_) (a' := ?_) #[true, true, true, true, false, false, false, false, false, false, false, false, false, false, false, false, false, false] rfl rfl (by kernel_rfl) (fun _ _ _ h => h) (Or.inl ⟨by rfl, ?_⟩) ?_ ?_
          rotate_left
          · intro w'
            go_simp
            with_reducible rfl
          rotate_left
          · simp only [Act.put, List.setIfInBounds_toArray, List.set_cons_zero, List.set_cons_succ, i64_w, i32_w]
            rfl
          refine pure_ (i := 4) (N := some 33) (v := undef) (a' := ?_) #[true, true, true, true, true, false, false, false, false, false, false, false, false, false, false, false, false, false] rfl rfl (by kernel_rfl) (fun _ _ _ h => h) (Or.inr ⟨by rfl, rfl⟩) ?_ ?_
          rotate_left
          · simp only [Act.put, List.setIfInBounds_toArray, List.set_cons_zero, List.set_cons_succ, i64_w, i32_w]
            rfl
          refine pure_ (i := 5) (N := some 34) (v := undef) (a' := ?_) #[true, true, true, true, true, true, false, false, false, false, false, false, false, false, false, false, false, false] rfl rfl (by kernel_rfl) (fun _ _ _ h => h) (Or.inr ⟨by rfl, rfl⟩) ?_ ?_
          rotate_left
          · simp only [Act.put, List.setIfInBounds_toArray, List.set_cons_zero, List.set_cons_succ, i64_w, i32_w]
            rfl
          refine pure_ (i := 6) (N := some 35) (v := undef) (a' := ?_) #[true, true, true, true, true, true, true, false, false, false, false, false, false, false, false, false, false, false] rfl rfl (by kernel_rfl) (fun _ _ _ h => h) (Or.inr ⟨by rfl, rfl⟩) ?_ ?_
          rotate_left
          · simp only [Act.put, List.setIfInBounds_toArray, List.set_cons_zero, List.set_cons_succ, i64_w, i32_w]
            rfl
          refine pure_ (i := 7) (N := some 36) (v := undef) (a' := ?_) #[true, true, true, true, true, true, true, true, false, false, false, false, false, false, false, false, false, false] rfl rfl (by kernel_rfl) (fun _ _ _ h => h) (Or.inr ⟨by rfl, rfl⟩) ?_ ?_
          rotate_left
          · simp only [Act.put, List.setIfInBounds_toArray, List.set_cons_zero, List.set_cons_succ, i64_w, i32_w]
            rfl
          refine pure_ (i := 8) (N := some 37) (v := ?_) (a' := ?_) #[true, true, true, true, true, true, true, true, true, false, false, false, false, false, false, false, false, false] rfl rfl (by kernel_rfl) (fun _ _ _ h => h) (Or.inl ⟨by rfl, ?_⟩) ?_ ?_
          rotate_left
          · intro w'
            go_simp
            with_reducible rfl
          rotate_left
          · simp only [Act.put, List.setIfInBounds_toArray, List.set_cons_zero, List.set_cons_succ, i64_w, i32_w]
            rfl
          refine pure_ (i := 9) (N := some 38) (v := ?_) (a' := ?_) #[true, true, true, true, true, true, true, true, true, true, false, false, false, false, false, false, false, false] rfl rfl (by kernel_rfl) (fun _ _ _ h => h) (Or.inl ⟨by rfl, ?_⟩) ?_ ?_
          rotate_left
          · intro w'
            go_simp
            with_reducible rfl
          rotate_left
          · simp only [Act.put, List.setIfInBounds_toArray, List.set_cons_zero, List.set_cons_succ, i64_w, i32_w]
            rfl
          refine pure_ (i := 10) (N := some 39) (v := undef) (a' := ?_) #[true, true, true, true, true, true, true, true, true, true, true, false, false, false, false, false, false, false] rfl rfl (by kernel_rfl) (fun _ _ _ h => h) (Or.inr ⟨by rfl, rfl⟩) ?_ ?_
          rotate_left
          · simp only [Act.put, List.setIfInBounds_toArray, List.set_cons_zero, List.set_cons_succ, i64_w, i32_w]
            rfl
          refine pure_ (i := 11) (N := some 40) (v := undef) (a' := ?_) #[true, true, true, true, true, true, true, true, true, true, true, true, false, false, false, false, false, false] rfl rfl (by kernel_rfl) (fun _ _ _ h => h) (Or.inr ⟨by rfl, rfl⟩) ?_ ?_
          rotate_left
          · simp only [Act.put, List.setIfInBounds_toArray, List.set_cons_zero, List.set_cons_succ, i64_w, i32_w]
            rfl
          refine pure_ (i := 12) (N := some 41) (v := undef) (a' := ?_) #[true, true, true, true, true, true, true, true, true, true, true, true, true, false, false, false, false, false] rfl rfl (by kernel_rfl) (fun _ _ _ h => h) (Or.inr ⟨by rfl, rfl⟩) ?_ ?_
          rotate_left
          · simp only [Act.put, List.setIfInBounds_toArray, List.set_cons_zero, List.set_cons_succ, i64_w, i32_w]
            rfl
          refine pure_ (i := 13) (N := some 42) (v := undef) (a' := ?_) #[true, true, true, true, true, true, true, true, true, true, true, true, true, true, false, false, false, false] rfl rfl (by kernel_rfl) (fun _ _ _ h => h) (Or.inr ⟨by rfl, rfl⟩) ?_ ?_
          rotate_left
          · simp only [Act.put, List.setIfInBounds_toArray, List.set_cons_zero, List.set_cons_succ, i64_w, i32_w]
            rfl
          refine pure_ (i := 14) (N := some 43) (v := undef) (a' := ?_) #[true, true, true, true, true, true, true, true, true, true, true, true, true, true, true, false, false, false] rfl rfl (by kernel_rfl) (fun _ _ _ h => h) (Or.inr ⟨by rfl, rfl⟩) ?_ ?_
          rotate_left
          · simp only [Act.put, List.setIfInBounds_toArray, List.set_cons_zero, List.set_cons_succ, i64_w, i32_w]
            rfl
          refine pure_ (i := 15) (N := some 44) (v := undef) (a' := ?_) #[true, true, true, true, true, true, true, true, true, true, true, true, true, true, true, true, false, false] rfl rfl (by kernel_rfl) (fun _ _ _ h => h) (Or.inr ⟨by rfl, rfl⟩) ?_ ?_
          rotate_left
          · simp only [Act.put, List.setIfInBounds_toArray, List.set_cons_zero, List.set_cons_succ, i64_w, i32_w]
            rfl
          refine pure_ (i := 16) (N := some 45) (v := undef) (a' := ?_) #[true, true, true, true, true, true, true, true, true, true, true, true, true, true, true, true, true, false] rfl rfl (by kernel_rfl) (fun _ _ _ h => h) (Or.inr ⟨by rfl, rfl⟩) ?_ ?_
          rotate_left
          · simp only [Act.put, List.setIfInBounds_toArray, List.set_cons_zero, List.set_cons_succ, i64_w, i32_w]
            rfl
          refine pure_ (i := 17) (N := some 46) (v := ?_) (a' := ?_) #[true, true, true, true, true, true, true, true, true, true, true, true, true, true, true, true, true, true] rfl rfl (by kernel_rfl) (fun _ _ _ h => h) (Or.inl ⟨by rfl, ?_⟩) ?_ ?_
          rotate_left
          · intro w'
            go_simp
            with_reducible rfl
          rotate_left
          · simp only [Act.put, List.setIfInBounds_toArray, List.set_cons_zero, List.set_cons_succ, i64_w, i32_w]
            rfl
          refine done_ (by kernel_rfl) ?_
          gi_wp2
          refine ⟨((KeepsOthers.drew W).trans (KeepsOthers.setCell _ _ _)).from _, .inl ⟨rfl, fun h => hi ?_⟩⟩
          have h9 := congrArg Prod.fst (hxp h)
          exact congrArg Nat.cast h9
      case fin1 =>
        rintro D1 m1 W hD1 hm1 hmL1 ⟨⟨b9, b10⟩, hB2⟩ hK1
        obtain rfl : m1 = L.length := hm1.resolve_right (fun h => absurd h.1 (by decide))
        have hVV2 : Below w0.heap.size w0 W := hVV1.trans (hB2.mono hVV1.size)
        have c9 := b9.cell
        have c10 := b10.cell
        have c5 := (Boxed.under q5 hVV2 (by omega)).cell
        have b4 := Boxed.under q4 hVV2 (by omega)
        have c4 := b4.cell
        have f4 := b4.frozen
        have hK0 : W.heap[D]? = some (.deferred (some [])) := (hB2.block D hDW).trans hK
        gi_wp2
        rw [roundsIn_succ]
        gi_wp2
        have hDD : D ≠ D1 := by omega
        have e1 := (KeepsOthers.setCell W ⟨w.heap.size + 1, 0, none⟩ (.bool true)).same D1 _ hK1 rfl
        have e0 := (KeepsOthers.setCell W ⟨w.heap.size + 1, 0, none⟩ (.bool true)).same D _ hK0 rfl
        have eb := b4.set (.bool true)
        have hBW : Below w.heap.size w (W.setCell ⟨w.heap.size + 1, 0, none⟩ (.bool true)) := (hBw0.trans (hVV2.mono hBw0.size)).setCell (p := ⟨w.heap.size + 1, 0, none⟩) (by simp) _
        generalize W.setCell ⟨w.heap.size + 1, 0, none⟩ (.bool true) = W1 at e1 e0 eb hBW ⊢
        have e0' : (W1.putObj D1 (.deferred none)).heap[D]? = some (.deferred (some [])) := (World.putObj_heap_other hDD).trans e0
        refine ⟨by simp, .inl ⟨D1, _, rfl, run_takeDeferred e1, ?_⟩⟩
        refine ⟨by simp, .inl ⟨D, _, rfl, run_takeDeferred e0', ?_⟩⟩
        have eb1 : Boxed (W1.putObj D1 (.deferred none)) (w.heap.size + 1) 4 (.bool true) := eb.kept (grownBy_putObj' W1 D1 _) (fun e => by cases e; omega)
        have eb2 : Boxed ((W1.putObj D1 (.deferred none)).putObj D (.deferred none)) (w.heap.size + 1) 4 (.bool true) := eb1.kept (grownBy_putObj' _ D _) (fun e => by cases e; omega)
        have hBe : Below w.heap.size w ((W1.putObj D1 (.deferred none)).putObj D (.deferred none)) := (hBW.trans (belowK_b (w := w0) hBw0.size W1 D1 _ _ (by omega) e1 rfl rfl)).trans (belowK_b (w := w0) hBw0.size _ D _ _ hDV e0' rfl rfl)
        have eb3 := eb2.cell
        refine ⟨_, ?_, rfl, hBe⟩
        rw [results_cell1 rfl]
        have hu4 := Tryd.underlying4
        go_simp
end Go.Proofs.YtmloklmcoedciaaDoor.Iter
