-- Written by a program (kp.py, wip/tools) for this claim, out of the translation.
import Derived.Test.YtmloklmcoedciaaDoorKAx0
import Derived.Test.YtmloklmcoedciaaDoorKAx1
import Derived.Test.YtmloklmcoedciaaDoorKAx5
namespace Go.Proofs.YtmloklmcoedciaaDoor.KA
open Go.RowKit Go.Proofs.YtmloklmcoedciaaDoorW.PrintWords Go.Proofs.YtmloklmcoedciaaDoorW.PrintLast Go.Proofs.YtmloklmcoedciaaDoorW.PrintMore
attribute [local go_sem] max2_int min2_int max_two min_two max_three min_three max_four min_four   -- for this text's walks alone
set_option linter.unusedVariables false
set_option linter.unusedSimpArgs false

/-! ### lexis_reader_blanks: function 46 -/
theorem wp_scope_label {P : Program} {a : Act} {w : World} {Q : Exit → Act → World → Prop} {rest : Code} (l : Nat) (J : Act → World → Prop) (μ : Act → World → Nat) (h0 : J a w)
    (pass : ∀ a w, J a w → rest.wp P (Exit.jump l (fun a' w' => J a' w' ∧ μ a' w' < μ a w) Q) a w) : (Code.scope ((Code.label l).seq rest)).wp P Q a w := by
  have pass2 : ∀ a w, J a w → (Code.skip.seq rest).wp P (Exit.jump l (fun a' w' => J a' w' ∧ μ a' w' < μ a w) Q) a w := fun a w hJ => wp_seq (wp_skip (pass a w hJ))
  refine wp_scope_jumps l J μ (by simp [findLabel]) ?_ pass2
  refine wp_seq ?_
  go_step3
  refine Code.wp_mono (fun e a W hq => ?_) (pass _ _ h0)
  cases e <;> first | exact hq | exact ⟨hq.1, hq.2.1⟩
theorem quiet_same2 {P : Program} {f : FuncId} {args : Array Value} {w : World} {k n : Nat} {v : Value} (h : Calls P f args (w.drewN (k + n)) fun e w' => e = .returned v ∧ w' = w.drewN (k + n)) :
    Calls P f args (w.drewN (k + n)) fun e w'' => e = .returned v ∧ ∃ m, w'' = w.drewN (k + m) := h.mono fun _ _ ⟨he, hm⟩ => ⟨he, n, hm⟩
def placeOf (W : World) (g : Nat) : Nat := match W.cell? ⟨g, 1, none⟩ with | some (.int _ q) => q.toNat | _ => 0
theorem placeOf_is {w0 W : World} {g : Nat} {s : ByteArray} {q : Int} (h : IsS61 w0 W g s q) : placeOf W g = q.toNat := by
  obtain ⟨HG, _⟩ := h
  have := cellS61_1 HG
  simp [placeOf, this]
def lexis_reader_blanks.f (s0_0 : ByteArray) (s0_1 : Int) : Option (ByteArray × Int) := if 0 ≤ s0_1 ∧ s0_1 ≤ s0_0.size ∧ s0_0.size ≤ 140737488351232 then some (s0_0, (Lx.skipP s0_0 s0_1.toNat : Int)) else none
def blanksJ (w0 w : World) (g : Nat) (s : ByteArray) (q : Nat) (a' : Act) (w' : World) : Prop :=
  ∃ (p : Nat) (u1 u2 u3 u4 u5 u6 u7 u8 u9 u10 u11 u12 u13 u14 u15 u16 u17 u18 u19 u20 u21 u22 u23 u24 u25 u26 u27 u28 u29 u30 u31 u32 u33 u34 u35 u36 u37 u38 u39 u40 u41 u42 u43 u44 u45 u46 u47 u48 u49 u50 u51 u52 u53 u54 u55 u56 u57 u58 u59 u60 u61 u62 u63 : Value), a' = { tmps := #[.pointer (some ⟨g, 0, none⟩), u1, u2, u3, u4, u5, u6, u7, u8, u9, u10, u11, u12, u13, u14, u15, u16, u17, u18, u19, u20, u21, u22, u23, u24, u25, u26, u27, u28, u29, u30, u31, u32, u33, u34, u35, u36, u37, u38, u39, u40, u41, u42, u43, u44, u45, u46, u47, u48, u49, u50, u51, u52, u53, u54, u55, u56, u57, u58, u59, u60, u61, u62, u63], defers := [] } ∧ IsS61 w0 w' g s (p : Int) ∧ Below w0.heap.size w0 w' ∧ KeepBut w w' g none ∧ p ≤ s.size ∧ Lx.skipP s p = q
set_option maxHeartbeats 2000000 in
set_option maxRecDepth 100000 in
theorem lexis_reader_blanks.calls (g : Nat) (s0_0 : ByteArray) (s0_1 : Int) (r1 : ByteArray) (r2 : Int) (w0 w : World) (hI : IsS61 w0 w g s0_0 s0_1) (hB : Below w0.heap.size w0 w) (h : lexis_reader_blanks.f s0_0 s0_1 = some (r1, r2)) :
    Calls Tryd.prog 46 #[.pointer (some ⟨g, 0, none⟩)] w fun e w' => e = .returned (.tuple #[]) ∧ IsS61 w0 w' g r1 r2 ∧ Below w0.heap.size w0 w' ∧ KeepBut w w' g none := by
  unfold lexis_reader_blanks.f at h
  split at h
  · rename_i hb
    simp only [Option.some.injEq, Prod.mk.injEq] at h
    obtain ⟨rfl, rfl⟩ := h
    obtain ⟨p0, rfl⟩ := Int.eq_ofNat_of_zero_le hb.1
    go_enter Tryd.func46, Tryd.ntmps46
    go_wp2
    refine wp_scope_label 0 (blanksJ w0 w g s0_0 (Lx.skipP s0_0 p0)) (fun _ W => s0_0.size - placeOf W g) ⟨p0, _, _, _, _, _, _, _, _, _, _, _, _, _, _, _, _, _, _, _, _, _, _, _, _, _, _, _, _, _, _, _, _, _, _, _, _, _, _, _, _, _, _, _, _, _, _, _, _, _, _, _, _, _, _, _, _, _, _, _, _, _, _, _, rfl, hI, hB, KeepBut.refl _ _ _, by omega, rfl⟩ ?_
    rintro a W ⟨p, u1, u2, u3, u4, u5, u6, u7, u8, u9, u10, u11, u12, u13, u14, u15, u16, u17, u18, u19, u20, u21, u22, u23, u24, u25, u26, u27, u28, u29, u30, u31, u32, u33, u34, u35, u36, u37, u38, u39, u40, u41, u42, u43, u44, u45, u46, u47, u48, u49, u50, u51, u52, u53, u54, u55, u56, u57, u58, u59, u60, u61, u62, u63, rfl, hI1, hB1, hK1, hp, hs⟩
    have hb2 := hb.2.2
    have Hs := Lib.hid hs
    clear hs hb
    have HI1 := Aside0.mk hI1
    obtain ⟨HG, hg⟩ := hI1
    have hc0 := cellS61_0 HG
    have hc1 := cellS61_1 HG
    have hf0 := blk_frozen HG 0
    have hf1 := blk_frozen HG 1
    by_cases hlt : p < s0_0.size
    · have wr : IntKind.i64.wrap ((p : Int) + 1) = (p : Int) + 1 := IntWalk.i64_in _ (by omega)
      have next : ∀ (n : Nat) (q : Nat), p < q → q ≤ s0_0.size → Lx.skipP s0_0 p = Lx.skipP s0_0 q → IsS61 w0 ((W.drewN n).setCell ⟨g, 1, none⟩ (.int .i64 (q : Int))) g s0_0 (q : Int) ∧ Below w0.heap.size w0 ((W.drewN n).setCell ⟨g, 1, none⟩ (.int .i64 (q : Int))) ∧ KeepBut w ((W.drewN n).setCell ⟨g, 1, none⟩ (.int .i64 (q : Int))) g none ∧ q ≤ s0_0.size ∧ Lx.skipP s0_0 q = Lx.skipP s0_0 p0 ∧ s0_0.size - placeOf ((W.drewN n).setCell ⟨g, 1, none⟩ (.int .i64 (q : Int))) g < s0_0.size - placeOf W g := by
        intro n q h1 h2 h3
        have i2 : IsS61 w0 ((W.drewN n).setCell ⟨g, 1, none⟩ (.int .i64 (q : Int))) g s0_0 (q : Int) := IsS61.set_1 (IsS61.drewN HI1.out n) _
        refine ⟨i2, below_set (pw_below_drewN hB1 n) hg, (keep_drewN hK1 n).set_ _ _, h2, by rw [← h3]; exact Hs.out, ?_⟩
        rw [placeOf_is i2, placeOf_is HI1.out]
        omega
      have N := Lib.hid next
      clear next
      go_wp2
      go_quiet (fail)
      go_wp2
      go_quiet (fail)
      go_wp2
      all_goals (try (go_step3))
      iterate 4
        · have e0 : bt s0_0 p = 32 ∨ bt s0_0 p = 9 ∨ bt s0_0 p = 10 ∨ bt s0_0 p = 13 := by
            rw [Lx.bt_nat s0_0 p hlt]
            first
              | exact .inl (by simpa using ‹(((s0_0[p]'hlt).toNat : Int) == 32) = true›)
              | exact .inr (.inl (by simpa using ‹(((s0_0[p]'hlt).toNat : Int) == 9) = true›))
              | exact .inr (.inr (.inl (by simpa using ‹(((s0_0[p]'hlt).toNat : Int) == 10) = true›)))
              | exact .inr (.inr (.inr (by simpa using ‹(((s0_0[p]'hlt).toNat : Int) == 13) = true›)))
          obtain ⟨n1, n2, n3, n4, n5, n6⟩ := N.out _ (p + 1) (by omega) (by omega) (Lx.skipP_blank s0_0 p hlt e0)
          exact ⟨rfl, ⟨p + 1, _, _, _, _, _, _, _, _, _, _, _, _, _, _, _, _, _, _, _, _, _, _, _, _, _, _, _, _, _, _, _, _, _, _, _, _, _, _, _, _, _, _, _, _, _, _, _, _, _, _, _, _, _, _, _, _, _, _, _, _, _, _, _, rfl, n1, n2, n3, n4, n5⟩, n6⟩
      · have e35 : bt s0_0 p = 35 := by rw [Lx.bt_nat s0_0 p hlt]; simpa using ‹(((s0_0[p]'hlt).toNat : Int) == 35) = true›
        go_quiet ((go_at_call 61; exact quiet_same2 (Tryd.strings_IndexByte _ _ _)))
        have ge := Lib.indexByte_ge (s0_0.extract p s0_0.size).data.toList (Int.toNat 10).toUInt8
        generalize hn : Lib.indexByte (s0_0.extract p s0_0.size).data.toList (Int.toNat 10).toUInt8 = n at ge ⊢
        have Hn := Lib.hid hn
        clear hn
        by_cases h0 : n < 0
        · go_wp2
          simp only [Exit.jump]
          refine bodyPost_ret (results_none rfl _ _ _) rfl ?_
          have e1 : Lx.skipP s0_0 p = s0_0.size := Lx.remark_none s0_0 p hlt e35 (by rw [← show n = -1 by omega]; exact Hn.out)
          have e2 : (Lx.skipP s0_0 ((p0 : Int)).toNat : Int) = (s0_0.size : Int) := by rw [show ((p0 : Int)).toNat = p0 from rfl, ← Hs.out, e1]
          rw [e2]
          exact ⟨rfl, IsS61.set_1 (IsS61.drewN HI1.out _) _, below_set (pw_below_drewN hB1 _) hg, (keep_drewN hK1 _).set_ _ _⟩
        · obtain ⟨m, rfl⟩ := Int.eq_ofNat_of_zero_le (show 0 ≤ n by omega)
          obtain ⟨q1, q2, q3⟩ := Lx.remark_some s0_0 p hlt e35 m Hn.out
          obtain ⟨n1, n2, n3, n4, n5, n6⟩ := N.out 0 (p + m) (by omega) (by omega) q3
          have N2 := Lib.hid (fun n => N.out n (p + m) (by omega) (by omega) q3)
          clear q3 n1 n2 n3 n4 n5 n6
          go_wp2
          all_goals go_step3
          obtain ⟨n1, n2, n3, n4, n5, n6⟩ := N2.out _
          exact ⟨rfl, ⟨p + m, _, _, _, _, _, _, _, _, _, _, _, _, _, _, _, _, _, _, _, _, _, _, _, _, _, _, _, _, _, _, _, _, _, _, _, _, _, _, _, _, _, _, _, _, _, _, _, _, _, _, _, _, _, _, _, _, _, _, _, _, _, _, _, rfl, n1, n2, n3, n4, n5⟩, n6⟩
      · simp only [Exit.jump]
        go_end0
        have e0 : ¬ (bt s0_0 p = 32 ∨ bt s0_0 p = 9 ∨ bt s0_0 p = 10 ∨ bt s0_0 p = 13) := by
          rw [Lx.bt_nat s0_0 p hlt]
          have a1 := ‹(((s0_0[p]'hlt).toNat : Int) == 32) = false›
          have a2 := ‹(((s0_0[p]'hlt).toNat : Int) == 9) = false›
          have a3 := ‹(((s0_0[p]'hlt).toNat : Int) == 10) = false›
          have a4 := ‹(((s0_0[p]'hlt).toNat : Int) == 13) = false›
          simp only [beq_eq_false_iff_ne] at a1 a2 a3 a4
          omega
        have e35 : bt s0_0 p ≠ 35 := by
          rw [Lx.bt_nat s0_0 p hlt]
          have a1 := ‹(((s0_0[p]'hlt).toNat : Int) == 35) = false›
          simpa using a1
        have e2 : (Lx.skipP s0_0 ((p0 : Int)).toNat : Int) = (p : Int) := by rw [show ((p0 : Int)).toNat = p0 from rfl, ← Hs.out, Lx.skipP_stop s0_0 p hlt e0 e35]
        rw [e2]
        exact ⟨rfl, IsS61.drewN HI1.out _, pw_below_drewN hB1 _, keep_drewN hK1 _⟩
    · have hge : s0_0.size ≤ p := by omega
      go_wp2
      go_quiet (fail)
      go_wp2
      simp only [Exit.jump]
      refine bodyPost_ret (results_none rfl _ _ _) rfl ?_
      have e2 : (Lx.skipP s0_0 ((p0 : Int)).toNat : Int) = (p : Int) := by rw [show ((p0 : Int)).toNat = p0 from rfl, ← Hs.out, Lx.skipP_end s0_0 p hge]
      rw [e2]
      exact ⟨rfl, IsS61.drewN HI1.out _, pw_below_drewN hB1 _, keep_drewN hK1 _⟩
  · cases h

/-! ### lexis_tokens: function 33 -/
def lexis_tokens.l0 : Nat → ByteArray → List (S35) → ByteArray → Int → Option ((List (S35)) × Int × Int)
  | 0, _, _, _, _ => none
  | k + 1, x0, x6, x183000, x183001 => if x183001 < (x0.size : Int) then ((lexis_reader_next.f k x183000 x183001).bind fun bt185 => (if bt185.2.2.2.2.2.2.2.2.2.1 = 0 then (if x6.length < 1599289640401 then ((lexis_reader_blanks.f bt185.2.2.2.2.2.2.2.2.2.2.1 bt185.2.2.2.2.2.2.2.2.2.2.2).bind fun bt201 => (lexis_tokens.l0 k x0 (x6 ++ [(⟨bt185.1, bt185.2.1, (⟨bt185.2.2.1, bt185.2.2.2.1, bt185.2.2.2.2.1, bt185.2.2.2.2.2.1, bt185.2.2.2.2.2.2.1⟩ : S33), bt185.2.2.2.2.2.2.2.1⟩ : S35)]) bt201.1 bt201.2)) else (none)) else (some (x6, bt185.2.2.2.2.2.2.2.2.1, bt185.2.2.2.2.2.2.2.2.2.1)))) else (some (x6, 0, 0))
def lexis_tokens.f (k : Nat) (a0 : ByteArray) : Option ((List (S35)) × Int × Int) := if (a0.size : Int) > 65536 then (some (([] : List (S35)), 65536, 3)) else ((lexis_reader_blanks.f a0 0).bind fun bt183 => (lexis_tokens.l0 k a0 ([] : List (S35)) bt183.1 bt183.2))
theorem lexis_tokens.mono_l : ∀ k, (∀ y0 y1 y2 y3, LeO (lexis_tokens.l0 k y0 y1 y2 y3) (lexis_tokens.l0 (k + 1) y0 y1 y2 y3))
  | 0 => fun _ _ _ _ r h => by simp [lexis_tokens.l0] at h
  | k + 1 => by
    have ih0 := lexis_tokens.mono_l k
    · intro y0 y1 y2 y3
      unfold lexis_tokens.l0
      repeat' first
      | (with_reducible exact ih0 _ _ _ _)
      | (with_reducible exact lexis_reader_next.mono _ _ _)
      | (with_reducible exact LeO.refl _)
      | (with_reducible exact LeO.none _)
      | (with_reducible refine LeO.ite ?_ ?_)
      | (with_reducible refine LeO.bind ?_ (fun _ => ?_))
      | exact ih0 _ _ _ _
      | exact lexis_reader_next.mono _ _ _
      | exact LeO.none _
      | refine LeO.ite ?_ ?_
      | refine LeO.bind ?_ (fun _ => ?_)
theorem lexis_tokens.mono : ∀ a0 k, LeO (lexis_tokens.f k a0) (lexis_tokens.f (k + 1) a0) := by
  intro a0 k
  have ih0 := lexis_tokens.mono_l k
  unfold lexis_tokens.f
  repeat' first
      | (with_reducible exact ih0 _ _ _ _)
      | (with_reducible exact lexis_reader_next.mono _ _ _)
      | (with_reducible exact LeO.refl _)
      | (with_reducible exact LeO.none _)
      | (with_reducible refine LeO.ite ?_ ?_)
      | (with_reducible refine LeO.bind ?_ (fun _ => ?_))
      | exact ih0 _ _ _ _
      | exact lexis_reader_next.mono _ _ _
      | exact LeO.none _
      | refine LeO.ite ?_ ?_
      | refine LeO.bind ?_ (fun _ => ?_)
set_option maxHeartbeats 4000000 in
set_option maxRecDepth 100000 in
theorem lexis_tokens.calls (k : Nat) (a0 : ByteArray) (r1 : List (S35)) (r2 : Int) (r3 : Int) (w : World) (hGE : GE w) (h : lexis_tokens.f k a0 = some (r1, r2, r3)) :
    Calls Tryd.prog 33 #[.string a0] w fun e w' => ∃ v0_ : Value, e = .returned (.tuple #[v0_, .int .i64 r2, .int .i64 r3]) ∧ Kd.R k35 35 w' w.heap.size (fun _ => True) v0_ r1 ∧ Below w.heap.size w w' := by
  have hu61 := Tryd.underlying61
  have hu35 := Tryd.underlying35
  have HB := Aside0.mk (Below.refl w.heap.size w)
  have H : (if (a0.size : Int) > 65536 then (some (([] : List (S35)), 65536, 3)) else ((lexis_reader_blanks.f a0 0).bind fun bt183 => (lexis_tokens.l0 k a0 ([] : List (S35)) bt183.1 bt183.2))) = some (r1, r2, r3) := h
  clear h
  have HGE := Aside0.mk hGE
  clear hGE
  by_cases c2 : (a0.size : Int) > 65536
  · rw [if_pos c2] at H
    have c2b0 : decide (65536 < (a0.size : Int)) = true := decide_eq_true c2
    have c2b1 : decide (65536 < a0.size) = true := decide_eq_true (by omega)
    clear c2
    simp only [Option.some.injEq, Prod.mk.injEq] at H
    obtain ⟨rfl, rfl, rfl⟩ := H
    go_enter Tryd.func33, Tryd.ntmps33
    go_wp2
    go_ret3
    exact ⟨_, by first | rfl | (simp [errW_none, errW_some] <;> rfl) | (simp [*, errW_none, errW_some] <;> rfl), by first | exact Kd.R_nil _ _ _ _ _ | exact Kd.N_nil _ _ _ _ _ | exact Kd.V_nil _ _ _ _ _ | exact Kd.Q_nil _ _ _ _ _ | exact Kd.S_nil _ _ _ _ _, by repeat (first | (with_reducible first | exact HB.out | apply below_alloc | apply pw_below_drewN | apply below_drew1) | exact HB.out)⟩
  · rw [if_neg c2] at H
    have c2b0 : decide (65536 < (a0.size : Int)) = false := decide_eq_false c2
    have c2b1 : decide (65536 < a0.size) = false := decide_eq_false (by omega)
    clear c2
    replace H := Option.bind_eq_some_iff.mp H
    obtain ⟨⟨t183, t184⟩, A30, H⟩ := H
    replace H : (lexis_tokens.l0 k a0 ([] : List (S35)) t183 t184) = some (r1, r2, r3) := H
    have A3 := Aside0.mk A30
    clear A30
    have H' := Aside0.mk H
    clear H
    go_enter Tryd.func33, Tryd.ntmps33
    go_wp2_with (first | ((with_reducible refine gate_dst (N := 15) rfl ?_); refine box_event ?hg (N := 15) ?hd (cs := #[.string a0, .int .i64 0]) (t := 61) ?hr ?_; (case hd => rfl); (case hg => rfl); (case hr => first | (go_simp; done) | (go_simp; rfl)); intro gb182 hg w4 hbox hb; have n0_ := Aside0.mk (below_step (by repeat (first | (with_reducible first | exact HB.out | apply below_alloc | apply pw_below_drewN | apply below_drew1) | exact HB.out)) hb); have n1_ := Aside0.mk ((⟨hbox, by rw [hg]; exact (below_size (by repeat (first | (with_reducible first | exact HB.out | apply below_alloc | apply pw_below_drewN | apply below_drew1) | exact HB.out)))⟩ : IsS61 w w4 gb182 a0 0)); have n2_ := Aside0.mk ((by rw [hg]; exact (below_size (by repeat (first | (with_reducible first | exact HB.out | apply below_alloc | apply pw_below_drewN | apply below_drew1) | exact HB.out))) : w.heap.size ≤ gb182)); have n3_ := Aside0.mk ((by rw [hg]; exact (below_size (by repeat (first | (with_reducible first | exact HB.out | apply below_alloc | apply pw_below_drewN | apply below_drew1) | exact HB.out))) : w.heap.size ≤ gb182)); clear HB; have HB := n0_; have HI182 := n1_; have GW182 := n2_; have GE182 := n3_; clear n0_ n1_ n2_ n3_; clear hb hbox hg) | ((with_reducible refine gate_callee (f := 46) rfl ?_); refine goesL_ (some 17) rfl rfl Tryd.func46 (by kernel_rfl) rfl #[.pointer (some ⟨gb182, 0, none⟩)] rfl (by (try simp only [List.map_toArray, List.map_cons, List.map_nil]); first | done | rfl | (simp only [List.length_drop, List.length_take]; rfl)) ?_; (with_reducible refine (lexis_reader_blanks.calls gb182 a0 0 t183 t184 w _ ?side1 ?side2 A3.out).mono ?_); (case side1 => repeat (first | (with_reducible first | exact HI182.out | apply IsS61.alloc | apply IsS61.drewN | apply IsS61.drew | apply IsS61.set_0 | apply IsS61.set_1) | exact HI182.out)); (case side2 => repeat (first | (with_reducible first | exact HB.out | apply below_alloc | apply pw_below_drewN | apply below_drew1 | refine below_set ?_ (IsS61.ge HI182.out)) | exact HB.out)); rintro e w5 ⟨rfl, hi, hb, hk⟩; refine ⟨_, rfl, ?_⟩; have n0_ := Aside0.mk (hb); have n1_ := Aside0.mk (hi); clear HB; clear HI182; have HB := n0_; have HI182 := n1_; clear n0_ n1_; (try clear hb); (try clear hb2); (try clear hk); (try clear hi)))
    (try simp only [Act.put, List.setIfInBounds_toArray, List.set_cons_zero, List.set_cons_succ]) -- frame0
    (try simp only [Act.put, List.setIfInBounds_toArray, List.set_cons_zero, List.set_cons_succ]) -- the frame
    go_loopg [6] k (fun kq v6 w' => ∃ (x6_1 : List (S35)) (x183000_1 : ByteArray) (x183001_1 : Int), Aside0 (lexis_tokens.l0 kq a0 x6_1 x183000_1 x183001_1 = some (r1, r2, r3)) ∧ Aside0 (kq ≤ k) ∧ Aside0 (Kd.R k35 35 w' w.heap.size (fun _ => True) v6 x6_1) ∧ Aside0 (IsS61 w w' gb182 x183000_1 x183001_1) ∧ Aside0 (Below w.heap.size w w'))
    case atStart => exact ⟨(([] : List (S35))), (t183), (t184), H', ⟨Nat.le_refl _⟩, ⟨by first | exact Kd.R_nil _ _ _ _ _ | exact Kd.N_nil _ _ _ _ _ | exact Kd.V_nil _ _ _ _ _ | exact Kd.Q_nil _ _ _ _ _ | exact Kd.S_nil _ _ _ _ _⟩, ⟨by repeat (first | (with_reducible first | exact HI182.out | apply IsS61.alloc | apply IsS61.drewN | apply IsS61.drew | apply IsS61.set_0 | apply IsS61.set_1) | exact HI182.out)⟩, ⟨by repeat (first | (with_reducible first | exact HB.out | apply below_alloc | apply pw_below_drewN | apply below_drew1 | refine below_set ?_ (IsS61.ge HI182.out)) | exact HB.out)⟩⟩
    case round =>
      clear H'
      try clear c2
      try clear c2b0
      try clear c2b1
      try clear p2
      try clear c3
      try clear c4
      obtain ⟨x6_1, x183000_1, x183001_1, HA, HK1, HO_6, HI182, HB⟩ := hrel
      cases gk with
      | zero => exact absurd HA.out (by simp [lexis_tokens.l0])
      | succ k1 =>
        have H := HA.out
        clear HA
        simp only [lexis_tokens.l0] at H
        by_cases c6 : x183001_1 < (a0.size : Int)
        · rw [if_pos c6] at H
          have c6b0 : decide (x183001_1 < (a0.size : Int)) = true := decide_eq_true c6
          clear c6
          replace H := Option.bind_eq_some_iff.mp H
          obtain ⟨⟨t185, t186, t187, t188, t189, t190, t191, t192, t193, t194, t195, t196⟩, A70, H⟩ := H
          replace H : (if t194 = 0 then (if x6_1.length < 1599289640401 then ((lexis_reader_blanks.f t195 t196).bind fun bt201 => (lexis_tokens.l0 k1 a0 (x6_1 ++ [(⟨t185, t186, (⟨t187, t188, t189, t190, t191⟩ : S33), t192⟩ : S35)]) bt201.1 bt201.2)) else (none)) else (some (x6_1, t193, t194))) = some (r1, r2, r3) := H
          have A7 := Aside0.mk A70
          clear A70
          by_cases c8 : t194 = 0
          · rw [if_pos c8] at H
            have c8b0 : (t194 == 0) = true := beq_iff_eq.mpr c8
            have c8b1 : (t194 != 0) = false := bne_eq_false_iff_eq.mpr c8
            clear c8
            by_cases c9 : x6_1.length < 1599289640401
            · rw [if_pos c9] at H
              have LMc9 := Aside0.mk c9
              clear c9
              obtain ⟨y198, hy198⟩ : ∃ y_ : List (S35), y_ = (x6_1 ++ [(⟨t185, t186, (⟨t187, t188, t189, t190, t191⟩ : S33), t192⟩ : S35)]) := ⟨_, rfl⟩
              replace H : ((lexis_reader_blanks.f t195 t196).bind fun bt201 => (lexis_tokens.l0 k1 a0 y198 bt201.1 bt201.2)) = some (r1, r2, r3) := by first | (rw [hy198]; with_reducible exact H) | (have H2_ := (Option.bind_some _ _).symm.trans H; rw [hy198]; with_reducible exact H2_) | (have H2_ := (Option.bind_some _ _).symm.trans H; with_reducible exact H2_) | with_reducible exact H | (rw [hy198]; exact H) | exact H
              have Ny198 := Aside0.mk hy198
              clear hy198
              replace H := Option.bind_eq_some_iff.mp H
              obtain ⟨⟨t201, t202⟩, A100, H⟩ := H
              replace H : (lexis_tokens.l0 k1 a0 y198 t201 t202) = some (r1, r2, r3) := H
              have A10 := Aside0.mk A100
              clear A100
              have H' := Aside0.mk H
              clear H
              obtain ⟨HGz11, hgz11⟩ := HI182.out
              have hcz11_0 := cellS61_0 HGz11
              have hcz11_1 := cellS61_1 HGz11
              have hfz11_0 := blk_frozen HGz11 0
              have hfz11_1 := blk_frozen HGz11 1
              clear HGz11 hgz11
              go_wp2_with (first | ((with_reducible refine gate_callee (f := 37) rfl ?_); refine goesL_ (some 29) rfl rfl Tryd.func37 (by kernel_rfl) rfl #[.pointer (some ⟨gb182, 0, none⟩)] rfl (by (try simp only [List.map_toArray, List.map_cons, List.map_nil]); first | done | rfl | (simp only [List.length_drop, List.length_take]; rfl)) ?_; (with_reducible refine (lexis_reader_next.calls k1 gb182 x183000_1 x183001_1 t185 t186 t187 t188 t189 t190 t191 t192 t193 t194 t195 t196 w _ ?side1 ?side2 ?side3 A7.out).mono ?_); (case side1 => repeat (first | (with_reducible first | exact HI182.out | apply IsS61.alloc | apply IsS61.drewN | apply IsS61.drew | apply IsS61.set_0 | apply IsS61.set_1) | exact HI182.out)); (case side2 => repeat (first | (with_reducible first | exact HB.out | apply below_alloc | apply pw_below_drewN | apply below_drew1 | refine below_set ?_ (IsS61.ge HI182.out)) | exact HB.out)); (case side3 => first | exact HGE.out | exact GE_below HGE.out (by repeat (first | (with_reducible first | exact HB.out | apply below_alloc | apply pw_below_drewN | apply below_drew1 | refine below_set ?_ (IsS61.ge HI182.out)) | exact HB.out))); rintro e w12 ⟨rfl, hi, hb, hk⟩; refine ⟨_, rfl, ?_⟩; have n0_ := Aside0.mk (Kd.R_mono (Kd.R_keep (IsS61.apart (show IsS61 w _ gb182 x183000_1 x183001_1 from by repeat (first | (with_reducible first | exact HI182.out | apply IsS61.alloc | apply IsS61.drewN | apply IsS61.drew | apply IsS61.set_0 | apply IsS61.set_1) | exact HI182.out)) (by (with_reducible repeat (first | apply Kd.R_alloc | apply Kd.R_drewN | apply Kd.R_drew)); exact HO_6.out) (by decide)) hk (fun _ h => h.2)) (fun _ h => h.1)); have n1_ := Aside0.mk (hb); have n2_ := Aside0.mk (hi); clear HO_6; clear HB; clear HI182; have HO_6 := n0_; have HB := n1_; have HI182 := n2_; clear n0_ n1_ n2_; (try clear hb); (try clear hb2); (try clear hk); (try clear hi)) | ((with_reducible refine gate_dst (N := 7) rfl ?_); refine box_event ?hg (N := 7) ?hd (cs := #[.int .i64 0, .string (⟨#[]⟩ : ByteArray), .int .i64 0, .int .i64 0, .bool false, .string (⟨#[]⟩ : ByteArray), .complex .f64 0 0, .int .i64 0]) (t := 35) ?hr ?_; (case hd => rfl); (case hg => rfl); (case hr => first | (go_simp; done) | (go_simp; rfl)); intro gb197 hg w13 hbox hb; have n0_ := Aside0.mk (Kd.R_below (Kd.R_elderB (by (with_reducible repeat (first | apply Kd.R_alloc | apply Kd.R_drewN | apply Kd.R_drew)); exact HO_6.out) gb197 (Nat.le_of_eq hg.symm)) hb); have n1_ := Aside0.mk (IsS61.below (by repeat (first | (with_reducible first | exact HI182.out | apply IsS61.alloc | apply IsS61.drewN | apply IsS61.drew | apply IsS61.set_0 | apply IsS61.set_1) | exact HI182.out)) hb); have n2_ := Aside0.mk (below_step (by repeat (first | (with_reducible first | exact HB.out | apply below_alloc | apply pw_below_drewN | apply below_drew1 | refine below_set ?_ (IsS61.ge HI182.out)) | exact HB.out)) hb); have n3_ := Aside0.mk (hbox); have n4_ := Aside0.mk ((by rw [hg]; exact (below_size (by repeat (first | (with_reducible first | exact HB.out | apply below_alloc | apply pw_below_drewN | apply below_drew1 | refine below_set ?_ (IsS61.ge HI182.out)) | exact HB.out))) : w.heap.size ≤ gb197)); have n5_ := Aside0.mk ((by rw [hg]; exact (below_size (by repeat (first | (with_reducible first | exact HB.out | apply below_alloc | apply pw_below_drewN | apply below_drew1 | refine below_set ?_ (IsS61.ge HI182.out)) | exact HB.out))) : w.heap.size ≤ gb197)); have n6_ := Aside0.mk ((by rw [hg]; exact Nat.ne_of_lt (IsS61.lt (show IsS61 w _ gb182 t195 t196 from by repeat (first | (with_reducible first | exact HI182.out | apply IsS61.alloc | apply IsS61.drewN | apply IsS61.drew | apply IsS61.set_0 | apply IsS61.set_1) | exact HI182.out))) : gb182 ≠ gb197)); have n7_ := Aside0.mk ((by rw [hg]; exact Nat.ne_of_gt (IsS61.lt (show IsS61 w _ gb182 t195 t196 from by repeat (first | (with_reducible first | exact HI182.out | apply IsS61.alloc | apply IsS61.drewN | apply IsS61.drew | apply IsS61.set_0 | apply IsS61.set_1) | exact HI182.out))) : gb197 ≠ gb182)); clear HO_6; clear HI182; clear HB; have HO_6 := n0_; have HI182 := n1_; have HB := n2_; have BK197 := n3_; have GW197 := n4_; have GE197 := n5_; have NB182_197 := n6_; have NB197_182 := n7_; clear n0_ n1_ n2_ n3_ n4_ n5_ n6_ n7_; clear hb hbox hg; have hnb14 := NB197_182.out; have hnc14 := NB182_197.out; have hcz15_0 : w13.cell? ⟨gb197, 0, none⟩ = some (.int .i64 0) := (blk_cell BK197.out 0).trans rfl; have hcz15_1 : w13.cell? ⟨gb197, 1, none⟩ = some (.string (⟨#[]⟩ : ByteArray)) := (blk_cell BK197.out 1).trans rfl; have hcz15_2 : w13.cell? ⟨gb197, 2, none⟩ = some (.int .i64 0) := (blk_cell BK197.out 2).trans rfl; have hcz15_3 : w13.cell? ⟨gb197, 3, none⟩ = some (.int .i64 0) := (blk_cell BK197.out 3).trans rfl; have hcz15_4 : w13.cell? ⟨gb197, 4, none⟩ = some (.bool false) := (blk_cell BK197.out 4).trans rfl; have hcz15_5 : w13.cell? ⟨gb197, 5, none⟩ = some (.string (⟨#[]⟩ : ByteArray)) := (blk_cell BK197.out 5).trans rfl; have hcz15_6 : w13.cell? ⟨gb197, 6, none⟩ = some (.complex .f64 0 0) := (blk_cell BK197.out 6).trans rfl; have hcz15_7 : w13.cell? ⟨gb197, 7, none⟩ = some (.int .i64 0) := (blk_cell BK197.out 7).trans rfl; have hfz15_0 := blk_frozen BK197.out 0; have hfz15_1 := blk_frozen BK197.out 1; have hfz15_2 := blk_frozen BK197.out 2; have hfz15_3 := blk_frozen BK197.out 3; have hfz15_4 := blk_frozen BK197.out 4; have hfz15_5 := blk_frozen BK197.out 5; have hfz15_6 := blk_frozen BK197.out 6; have hfz15_7 := blk_frozen BK197.out 7) | ((with_reducible refine gate_builtin (b := .append) (xs := #[.tmp 38, .tmp 40]) rfl ?_); at_builtin; refine Kd.R_append k35 (w0 := w) w.heap.size rfl (.tmp 38) (.tmp 40) 25 35 (.agg #[(.int .i64 0), (.string ⟨#[]⟩), (.int .i64 0), (.int .i64 0), (.bool false), (.string ⟨#[]⟩), (.complex .f64 0 0), (.int .i64 0)]) 88 rfl Tryd.underlying25 info35 rfl (by decide) (by omega) u6 x6_1 (⟨t185, t186, (⟨t187, t188, t189, t190, t191⟩ : S33), t192⟩ : S35) [.int .i64 t185, .string t186, .int .i64 t187, .int .i64 t188, .bool t189, .string t190, .complex .f64 t191.re t191.im, .int .i64 t192] (fun k_ => k_ ≠ gb197) (fun _ => False) rfl (by first | (go_simp; done) | (go_simp; rfl)) ?aP (fun _ hk => hk.elim) ?aF ?aO ?aB ?aS ?aL ?_; (case aP => exact k35_mkM _ _ _ (⟨t185, t186, (⟨t187, t188, t189, t190, t191⟩ : S33), t192⟩ : S35)); (case aB => exact (by repeat (first | (with_reducible first | exact HB.out | apply below_alloc | apply pw_below_drewN | apply below_drew1 | refine below_set ?_ (IsS61.ge HI182.out) | refine below_set ?_ GE197.out) | exact HB.out))); (case aF => exact (fun k_ hk => Kd.freshB (g := gb197) (o := .cells #[.int .i64 t185, .string t186, .int .i64 t187, .int .i64 t188, .bool t189, .string t190, .complex .f64 t191.re t191.im, .int .i64 t192] 35 (0, 0)) (by (with_reducible repeat (first | refine blk_drewN ?_ _ | refine blk_drew ?_ | refine blk_alloc ?_ _)); refine blk_put (cs := #[.int .i64 t185, .string t186, .int .i64 t187, .int .i64 t188, .bool t189, .string t190, .complex .f64 t191.re t191.im, .int .i64 0]) ?_ 7 _ rfl; (with_reducible repeat (first | refine blk_drewN ?_ _ | refine blk_drew ?_ | refine blk_alloc ?_ _)); refine blk_put (cs := #[.int .i64 t185, .string t186, .int .i64 t187, .int .i64 t188, .bool t189, .string t190, .complex .f64 0 0, .int .i64 0]) ?_ 6 _ rfl; (with_reducible repeat (first | refine blk_drewN ?_ _ | refine blk_drew ?_ | refine blk_alloc ?_ _)); refine blk_put (cs := #[.int .i64 t185, .string t186, .int .i64 t187, .int .i64 t188, .bool t189, .string (⟨#[]⟩ : ByteArray), .complex .f64 0 0, .int .i64 0]) ?_ 5 _ rfl; (with_reducible repeat (first | refine blk_drewN ?_ _ | refine blk_drew ?_ | refine blk_alloc ?_ _)); refine blk_put (cs := #[.int .i64 t185, .string t186, .int .i64 t187, .int .i64 t188, .bool false, .string (⟨#[]⟩ : ByteArray), .complex .f64 0 0, .int .i64 0]) ?_ 4 _ rfl; (with_reducible repeat (first | refine blk_drewN ?_ _ | refine blk_drew ?_ | refine blk_alloc ?_ _)); refine blk_put (cs := #[.int .i64 t185, .string t186, .int .i64 t187, .int .i64 0, .bool false, .string (⟨#[]⟩ : ByteArray), .complex .f64 0 0, .int .i64 0]) ?_ 3 _ rfl; (with_reducible repeat (first | refine blk_drewN ?_ _ | refine blk_drew ?_ | refine blk_alloc ?_ _)); refine blk_put (cs := #[.int .i64 t185, .string t186, .int .i64 0, .int .i64 0, .bool false, .string (⟨#[]⟩ : ByteArray), .complex .f64 0 0, .int .i64 0]) ?_ 2 _ rfl; (with_reducible repeat (first | refine blk_drewN ?_ _ | refine blk_drew ?_ | refine blk_alloc ?_ _)); refine blk_put (cs := #[.int .i64 t185, .string (⟨#[]⟩ : ByteArray), .int .i64 0, .int .i64 0, .bool false, .string (⟨#[]⟩ : ByteArray), .complex .f64 0 0, .int .i64 0]) ?_ 1 _ rfl; (with_reducible repeat (first | refine blk_drewN ?_ _ | refine blk_drew ?_ | refine blk_alloc ?_ _)); refine blk_put (cs := #[.int .i64 0, .string (⟨#[]⟩ : ByteArray), .int .i64 0, .int .i64 0, .bool false, .string (⟨#[]⟩ : ByteArray), .complex .f64 0 0, .int .i64 0]) ?_ 0 _ rfl; (with_reducible repeat (first | refine blk_drewN ?_ _ | refine blk_drew ?_ | refine blk_alloc ?_ _)); exact BK197.out) k_ hk)); (case aO => exact (by (with_reducible repeat (first | apply Kd.R_alloc | apply Kd.R_drewN | apply Kd.R_drew)); exact Kd.R_mono (Kd.R_far (p := ⟨gb197, 7, none⟩) (Kd.R_far (p := ⟨gb197, 6, none⟩) (Kd.R_far (p := ⟨gb197, 5, none⟩) (Kd.R_far (p := ⟨gb197, 4, none⟩) (Kd.R_far (p := ⟨gb197, 3, none⟩) (Kd.R_far (p := ⟨gb197, 2, none⟩) (Kd.R_far (p := ⟨gb197, 1, none⟩) (Kd.R_far (p := ⟨gb197, 0, none⟩) (Kd.R_mono HO_6.out (fun k_ hk => (⟨hk, hk.2⟩ : _ ∧ k_ ≠ gb197))) (fun _ hk => hk.2) (.int .i64 t185)) (fun _ hk => hk.2) (.string t186)) (fun _ hk => hk.2) (.int .i64 t187)) (fun _ hk => hk.2) (.int .i64 t188)) (fun _ hk => hk.2) (.bool t189)) (fun _ hk => hk.2) (.string t190)) (fun _ hk => hk.2) (.complex .f64 t191.re t191.im)) (fun _ hk => hk.2) (.int .i64 t192)) (fun _ hk => hk.1.2))); (case aS => exact (below_size (by repeat (first | (with_reducible first | exact HB.out | apply below_alloc | apply pw_below_drewN | apply below_drew1 | refine below_set ?_ (IsS61.ge HI182.out) | refine below_set ?_ GE197.out) | exact HB.out)))); (case aL => have := LMc9.out; first | omega | (simp only [ByteArray.size, List.size_toArray, List.length_cons, List.length_nil] at *; omega) | (show _ + (_ : Nat) ≤ _; simp only [ByteArray.size, List.size_toArray, List.length_cons, List.length_nil]; omega)); intro v199 w16 ho hb hg hat; rw [← Ny198.out] at ho; have n0_ : Aside0 (IsS61 w w16 gb182 t195 t196) := Aside0.mk (IsS61.grown (by repeat (first | (with_reducible first | exact HI182.out | apply IsS61.alloc | apply IsS61.drewN | apply IsS61.drew | apply IsS61.set_0 | apply IsS61.set_1 | refine IsS61.far ?_ NB182_197.out _) | exact HI182.out)) hg (IsS61.own_ne HI182.out HO_6.out (by decide))); have n1_ := Aside0.mk (blk_grown (g := gb197) (o := .cells #[.int .i64 t185, .string t186, .int .i64 t187, .int .i64 t188, .bool t189, .string t190, .complex .f64 t191.re t191.im, .int .i64 t192] 35 (0, 0)) (by (with_reducible repeat (first | refine blk_drewN ?_ _ | refine blk_drew ?_ | refine blk_alloc ?_ _)); refine blk_put (cs := #[.int .i64 t185, .string t186, .int .i64 t187, .int .i64 t188, .bool t189, .string t190, .complex .f64 t191.re t191.im, .int .i64 0]) ?_ 7 _ rfl; (with_reducible repeat (first | refine blk_drewN ?_ _ | refine blk_drew ?_ | refine blk_alloc ?_ _)); refine blk_put (cs := #[.int .i64 t185, .string t186, .int .i64 t187, .int .i64 t188, .bool t189, .string t190, .complex .f64 0 0, .int .i64 0]) ?_ 6 _ rfl; (with_reducible repeat (first | refine blk_drewN ?_ _ | refine blk_drew ?_ | refine blk_alloc ?_ _)); refine blk_put (cs := #[.int .i64 t185, .string t186, .int .i64 t187, .int .i64 t188, .bool t189, .string (⟨#[]⟩ : ByteArray), .complex .f64 0 0, .int .i64 0]) ?_ 5 _ rfl; (with_reducible repeat (first | refine blk_drewN ?_ _ | refine blk_drew ?_ | refine blk_alloc ?_ _)); refine blk_put (cs := #[.int .i64 t185, .string t186, .int .i64 t187, .int .i64 t188, .bool false, .string (⟨#[]⟩ : ByteArray), .complex .f64 0 0, .int .i64 0]) ?_ 4 _ rfl; (with_reducible repeat (first | refine blk_drewN ?_ _ | refine blk_drew ?_ | refine blk_alloc ?_ _)); refine blk_put (cs := #[.int .i64 t185, .string t186, .int .i64 t187, .int .i64 0, .bool false, .string (⟨#[]⟩ : ByteArray), .complex .f64 0 0, .int .i64 0]) ?_ 3 _ rfl; (with_reducible repeat (first | refine blk_drewN ?_ _ | refine blk_drew ?_ | refine blk_alloc ?_ _)); refine blk_put (cs := #[.int .i64 t185, .string t186, .int .i64 0, .int .i64 0, .bool false, .string (⟨#[]⟩ : ByteArray), .complex .f64 0 0, .int .i64 0]) ?_ 2 _ rfl; (with_reducible repeat (first | refine blk_drewN ?_ _ | refine blk_drew ?_ | refine blk_alloc ?_ _)); refine blk_put (cs := #[.int .i64 t185, .string (⟨#[]⟩ : ByteArray), .int .i64 0, .int .i64 0, .bool false, .string (⟨#[]⟩ : ByteArray), .complex .f64 0 0, .int .i64 0]) ?_ 1 _ rfl; (with_reducible repeat (first | refine blk_drewN ?_ _ | refine blk_drew ?_ | refine blk_alloc ?_ _)); refine blk_put (cs := #[.int .i64 0, .string (⟨#[]⟩ : ByteArray), .int .i64 0, .int .i64 0, .bool false, .string (⟨#[]⟩ : ByteArray), .complex .f64 0 0, .int .i64 0]) ?_ 0 _ rfl; (with_reducible repeat (first | refine blk_drewN ?_ _ | refine blk_drew ?_ | refine blk_alloc ?_ _)); exact BK197.out) hg (Kd.R_away HO_6.out (fun _ hk => hk.2))); have n2_ := Aside0.mk (hb); have n3_ := Aside0.mk (ho); clear HI182; clear BK197; clear HB; clear HO_6; have HI182 := n0_; have BK197 := n1_; have HB := n2_; have HO200 := n3_; clear n0_ n1_ n2_ n3_; clear ho hb hg hat) | ((with_reducible refine gate_callee (f := 46) rfl ?_); refine goesL_ (some 26) rfl rfl Tryd.func46 (by kernel_rfl) rfl #[.pointer (some ⟨gb182, 0, none⟩)] rfl (by (try simp only [List.map_toArray, List.map_cons, List.map_nil]); first | done | rfl | (simp only [List.length_drop, List.length_take]; rfl)) ?_; (with_reducible refine (lexis_reader_blanks.calls gb182 t195 t196 t201 t202 w _ ?side1 ?side2 A10.out).mono ?_); (case side1 => repeat (first | (with_reducible first | exact HI182.out | apply IsS61.alloc | apply IsS61.drewN | apply IsS61.drew | apply IsS61.set_0 | apply IsS61.set_1 | refine IsS61.far ?_ NB182_197.out _) | exact HI182.out)); (case side2 => repeat (first | (with_reducible first | exact HB.out | apply below_alloc | apply pw_below_drewN | apply below_drew1 | refine below_set ?_ (IsS61.ge HI182.out) | refine below_set ?_ GE197.out) | exact HB.out)); rintro e w17 ⟨rfl, hi, hb, hk⟩; refine ⟨_, rfl, ?_⟩; have n0_ := Aside0.mk (KeepBut.blk hk (g' := gb197) (o := .cells #[.int .i64 t185, .string t186, .int .i64 t187, .int .i64 t188, .bool t189, .string t190, .complex .f64 t191.re t191.im, .int .i64 t192] 35 (0, 0)) (by (with_reducible repeat (first | refine blk_drewN ?_ _ | refine blk_drew ?_ | refine blk_alloc ?_ _)); exact BK197.out) NB197_182.out (by simp)); have n1_ := Aside0.mk (Kd.R_mono (Kd.R_keep (IsS61.apart (show IsS61 w _ gb182 t195 t196 from by repeat (first | (with_reducible first | exact HI182.out | apply IsS61.alloc | apply IsS61.drewN | apply IsS61.drew | apply IsS61.set_0 | apply IsS61.set_1 | refine IsS61.far ?_ NB182_197.out _) | exact HI182.out)) (by (with_reducible repeat (first | apply Kd.R_alloc | apply Kd.R_drewN | apply Kd.R_drew)); exact HO200.out) (by decide)) hk (fun _ h => h.2)) (fun _ h => h.1)); have n2_ := Aside0.mk (hb); have n3_ := Aside0.mk (hi); clear BK197; clear HO200; clear HB; clear HI182; have BK197 := n0_; have HO200 := n1_; have HB := n2_; have HI182 := n3_; clear n0_ n1_ n2_ n3_; (try clear hb); (try clear hb2); (try clear hk); (try clear hi)))
              go_roundg k1
              case measure => have := HK1.out; omega
              case rel => exact ⟨(y198), (t201), (t202), H', ⟨by have := HK1.out; omega⟩, ⟨by (with_reducible repeat (first | apply Kd.R_alloc | apply Kd.R_drewN | apply Kd.R_drew)); exact Kd.R_mono HO200.out (fun _ hk => trivial)⟩, ⟨by repeat (first | (with_reducible first | exact HI182.out | apply IsS61.alloc | apply IsS61.drewN | apply IsS61.drew | apply IsS61.set_0 | apply IsS61.set_1 | refine IsS61.far ?_ NB182_197.out _) | exact HI182.out)⟩, ⟨by repeat (first | (with_reducible first | exact HB.out | apply below_alloc | apply pw_below_drewN | apply below_drew1 | refine below_set ?_ (IsS61.ge HI182.out) | refine below_set ?_ GE197.out) | exact HB.out)⟩⟩
            · rw [if_neg c9] at H
              exact absurd H (by simp)
          · rw [if_neg c8] at H
            have c8b0 : (t194 == 0) = false := beq_eq_false_iff_ne.mpr c8
            have c8b1 : (t194 != 0) = true := bne_iff_ne.mpr c8
            simp only [Option.some.injEq, Prod.mk.injEq] at H
            obtain ⟨rfl, rfl, rfl⟩ := H
            obtain ⟨HGz18, hgz18⟩ := HI182.out
            have hcz18_0 := cellS61_0 HGz18
            have hcz18_1 := cellS61_1 HGz18
            have hfz18_0 := blk_frozen HGz18 0
            have hfz18_1 := blk_frozen HGz18 1
            clear HGz18 hgz18
            go_wp2_with (first | ((with_reducible refine gate_callee (f := 37) rfl ?_); refine goesL_ (some 29) rfl rfl Tryd.func37 (by kernel_rfl) rfl #[.pointer (some ⟨gb182, 0, none⟩)] rfl (by (try simp only [List.map_toArray, List.map_cons, List.map_nil]); first | done | rfl | (simp only [List.length_drop, List.length_take]; rfl)) ?_; (with_reducible refine (lexis_reader_next.calls k1 gb182 x183000_1 x183001_1 t185 t186 t187 t188 t189 t190 t191 t192 t193 t194 t195 t196 w _ ?side1 ?side2 ?side3 A7.out).mono ?_); (case side1 => repeat (first | (with_reducible first | exact HI182.out | apply IsS61.alloc | apply IsS61.drewN | apply IsS61.drew | apply IsS61.set_0 | apply IsS61.set_1) | exact HI182.out)); (case side2 => repeat (first | (with_reducible first | exact HB.out | apply below_alloc | apply pw_below_drewN | apply below_drew1 | refine below_set ?_ (IsS61.ge HI182.out)) | exact HB.out)); (case side3 => first | exact HGE.out | exact GE_below HGE.out (by repeat (first | (with_reducible first | exact HB.out | apply below_alloc | apply pw_below_drewN | apply below_drew1 | refine below_set ?_ (IsS61.ge HI182.out)) | exact HB.out))); rintro e w19 ⟨rfl, hi, hb, hk⟩; refine ⟨_, rfl, ?_⟩; have n0_ := Aside0.mk (Kd.R_mono (Kd.R_keep (IsS61.apart (show IsS61 w _ gb182 x183000_1 x183001_1 from by repeat (first | (with_reducible first | exact HI182.out | apply IsS61.alloc | apply IsS61.drewN | apply IsS61.drew | apply IsS61.set_0 | apply IsS61.set_1) | exact HI182.out)) (by (with_reducible repeat (first | apply Kd.R_alloc | apply Kd.R_drewN | apply Kd.R_drew)); exact HO_6.out) (by decide)) hk (fun _ h => h.2)) (fun _ h => h.1)); have n1_ := Aside0.mk (hb); have n2_ := Aside0.mk (hi); clear HO_6; clear HB; clear HI182; have HO_6 := n0_; have HB := n1_; have HI182 := n2_; clear n0_ n1_ n2_; (try clear hb); (try clear hb2); (try clear hk); (try clear hi)) | ((with_reducible refine gate_dst (N := 7) rfl ?_); refine box_event ?hg (N := 7) ?hd (cs := #[.int .i64 0, .string (⟨#[]⟩ : ByteArray), .int .i64 0, .int .i64 0, .bool false, .string (⟨#[]⟩ : ByteArray), .complex .f64 0 0, .int .i64 0]) (t := 35) ?hr ?_; (case hd => rfl); (case hg => rfl); (case hr => first | (go_simp; done) | (go_simp; rfl)); intro gb197 hg w20 hbox hb; have n0_ := Aside0.mk (Kd.R_below (Kd.R_elderB (by (with_reducible repeat (first | apply Kd.R_alloc | apply Kd.R_drewN | apply Kd.R_drew)); exact HO_6.out) gb197 (Nat.le_of_eq hg.symm)) hb); have n1_ := Aside0.mk (IsS61.below (by repeat (first | (with_reducible first | exact HI182.out | apply IsS61.alloc | apply IsS61.drewN | apply IsS61.drew | apply IsS61.set_0 | apply IsS61.set_1) | exact HI182.out)) hb); have n2_ := Aside0.mk (below_step (by repeat (first | (with_reducible first | exact HB.out | apply below_alloc | apply pw_below_drewN | apply below_drew1 | refine below_set ?_ (IsS61.ge HI182.out)) | exact HB.out)) hb); have n3_ := Aside0.mk (hbox); have n4_ := Aside0.mk ((by rw [hg]; exact (below_size (by repeat (first | (with_reducible first | exact HB.out | apply below_alloc | apply pw_below_drewN | apply below_drew1 | refine below_set ?_ (IsS61.ge HI182.out)) | exact HB.out))) : w.heap.size ≤ gb197)); have n5_ := Aside0.mk ((by rw [hg]; exact (below_size (by repeat (first | (with_reducible first | exact HB.out | apply below_alloc | apply pw_below_drewN | apply below_drew1 | refine below_set ?_ (IsS61.ge HI182.out)) | exact HB.out))) : w.heap.size ≤ gb197)); have n6_ := Aside0.mk ((by rw [hg]; exact Nat.ne_of_lt (IsS61.lt (show IsS61 w _ gb182 t195 t196 from by repeat (first | (with_reducible first | exact HI182.out | apply IsS61.alloc | apply IsS61.drewN | apply IsS61.drew | apply IsS61.set_0 | apply IsS61.set_1) | exact HI182.out))) : gb182 ≠ gb197)); have n7_ := Aside0.mk ((by rw [hg]; exact Nat.ne_of_gt (IsS61.lt (show IsS61 w _ gb182 t195 t196 from by repeat (first | (with_reducible first | exact HI182.out | apply IsS61.alloc | apply IsS61.drewN | apply IsS61.drew | apply IsS61.set_0 | apply IsS61.set_1) | exact HI182.out))) : gb197 ≠ gb182)); clear HO_6; clear HI182; clear HB; have HO_6 := n0_; have HI182 := n1_; have HB := n2_; have BK197 := n3_; have GW197 := n4_; have GE197 := n5_; have NB182_197 := n6_; have NB197_182 := n7_; clear n0_ n1_ n2_ n3_ n4_ n5_ n6_ n7_; clear hb hbox hg; have hnb21 := NB197_182.out; have hnc21 := NB182_197.out; have hcz22_0 : w20.cell? ⟨gb197, 0, none⟩ = some (.int .i64 0) := (blk_cell BK197.out 0).trans rfl; have hcz22_1 : w20.cell? ⟨gb197, 1, none⟩ = some (.string (⟨#[]⟩ : ByteArray)) := (blk_cell BK197.out 1).trans rfl; have hcz22_2 : w20.cell? ⟨gb197, 2, none⟩ = some (.int .i64 0) := (blk_cell BK197.out 2).trans rfl; have hcz22_3 : w20.cell? ⟨gb197, 3, none⟩ = some (.int .i64 0) := (blk_cell BK197.out 3).trans rfl; have hcz22_4 : w20.cell? ⟨gb197, 4, none⟩ = some (.bool false) := (blk_cell BK197.out 4).trans rfl; have hcz22_5 : w20.cell? ⟨gb197, 5, none⟩ = some (.string (⟨#[]⟩ : ByteArray)) := (blk_cell BK197.out 5).trans rfl; have hcz22_6 : w20.cell? ⟨gb197, 6, none⟩ = some (.complex .f64 0 0) := (blk_cell BK197.out 6).trans rfl; have hcz22_7 : w20.cell? ⟨gb197, 7, none⟩ = some (.int .i64 0) := (blk_cell BK197.out 7).trans rfl; have hfz22_0 := blk_frozen BK197.out 0; have hfz22_1 := blk_frozen BK197.out 1; have hfz22_2 := blk_frozen BK197.out 2; have hfz22_3 := blk_frozen BK197.out 3; have hfz22_4 := blk_frozen BK197.out 4; have hfz22_5 := blk_frozen BK197.out 5; have hfz22_6 := blk_frozen BK197.out 6; have hfz22_7 := blk_frozen BK197.out 7))
            go_ret3
            exact ⟨_, by first | rfl | (simp [errW_none, errW_some] <;> rfl) | (simp [*, errW_none, errW_some] <;> rfl), by (with_reducible repeat (first | apply Kd.R_alloc | apply Kd.R_drewN | apply Kd.R_drew)); exact Kd.R_mono (Kd.R_far (p := ⟨gb197, 7, none⟩) (Kd.R_far (p := ⟨gb197, 6, none⟩) (Kd.R_far (p := ⟨gb197, 5, none⟩) (Kd.R_far (p := ⟨gb197, 4, none⟩) (Kd.R_far (p := ⟨gb197, 3, none⟩) (Kd.R_far (p := ⟨gb197, 2, none⟩) (Kd.R_far (p := ⟨gb197, 1, none⟩) (Kd.R_far (p := ⟨gb197, 0, none⟩) (Kd.R_mono HO_6.out (fun k_ hk => (⟨hk, hk.2⟩ : _ ∧ k_ ≠ gb197))) (fun _ hk => hk.2) (.int .i64 t185)) (fun _ hk => hk.2) (.string t186)) (fun _ hk => hk.2) (.int .i64 t187)) (fun _ hk => hk.2) (.int .i64 t188)) (fun _ hk => hk.2) (.bool t189)) (fun _ hk => hk.2) (.string t190)) (fun _ hk => hk.2) (.complex .f64 t191.re t191.im)) (fun _ hk => hk.2) (.int .i64 t192)) (fun _ hk => trivial), by repeat (first | (with_reducible first | exact HB.out | apply below_alloc | apply pw_below_drewN | apply below_drew1 | refine below_set ?_ (IsS61.ge HI182.out) | refine below_set ?_ GE197.out) | exact HB.out)⟩
        · rw [if_neg c6] at H
          have c6b0 : decide (x183001_1 < (a0.size : Int)) = false := decide_eq_false c6
          clear c6
          simp only [Option.some.injEq, Prod.mk.injEq] at H
          obtain ⟨rfl, rfl, rfl⟩ := H
          obtain ⟨HGz23, hgz23⟩ := HI182.out
          have hcz23_0 := cellS61_0 HGz23
          have hcz23_1 := cellS61_1 HGz23
          have hfz23_0 := blk_frozen HGz23 0
          have hfz23_1 := blk_frozen HGz23 1
          clear HGz23 hgz23
          go_wp2
          go_ret3
          exact ⟨_, by first | rfl | (simp [errW_none, errW_some] <;> rfl) | (simp [*, errW_none, errW_some] <;> rfl), by (with_reducible repeat (first | apply Kd.R_alloc | apply Kd.R_drewN | apply Kd.R_drew)); exact HO_6.out, by repeat (first | (with_reducible first | exact HB.out | apply below_alloc | apply pw_below_drewN | apply below_drew1 | refine below_set ?_ (IsS61.ge HI182.out)) | exact HB.out)⟩

/-! ### lexis_Tokens: function 13 -/
def lexis_Tokens.f (k : Nat) (a0 : ByteArray) : Option ((List (S35)) × Int × Int) := (lexis_tokens.f k a0).bind fun bt203 => (if bt203.2.2 = 0 then (some (bt203.1, 0, 0)) else (some (([] : List (S35)), bt203.2.1, bt203.2.2)))
theorem lexis_Tokens.mono : ∀ a0 k, LeO (lexis_Tokens.f k a0) (lexis_Tokens.f (k + 1) a0) := by
  intro a0 k
  unfold lexis_Tokens.f
  repeat' first
      | (with_reducible exact lexis_tokens.mono _ _)
      | (with_reducible exact LeO.refl _)
      | (with_reducible exact LeO.none _)
      | (with_reducible refine LeO.ite ?_ ?_)
      | (with_reducible refine LeO.bind ?_ (fun _ => ?_))
      | exact lexis_tokens.mono _ _
      | exact LeO.none _
      | refine LeO.ite ?_ ?_
      | refine LeO.bind ?_ (fun _ => ?_)
set_option maxHeartbeats 4000000 in
set_option maxRecDepth 100000 in
theorem lexis_Tokens.calls (k : Nat) (a0 : ByteArray) (r1 : List (S35)) (r2 : Int) (r3 : Int) (w : World) (hGE : GE w) (h : lexis_Tokens.f k a0 = some (r1, r2, r3)) :
    Calls Tryd.prog 13 #[.string a0] w fun e w' => ∃ v0_ : Value, e = .returned (.tuple #[v0_, .int .i64 r2, .int .i64 r3]) ∧ Kd.R k35 35 w' w.heap.size (fun _ => True) v0_ r1 ∧ Below w.heap.size w w' := by
  have HB := Aside0.mk (Below.refl w.heap.size w)
  have H : ((lexis_tokens.f k a0).bind fun bt203 => (if bt203.2.2 = 0 then (some (bt203.1, 0, 0)) else (some (([] : List (S35)), bt203.2.1, bt203.2.2)))) = some (r1, r2, r3) := h
  clear h
  have HGE := Aside0.mk hGE
  clear hGE
  replace H := Option.bind_eq_some_iff.mp H
  obtain ⟨⟨t203, t204, t205⟩, A20, H⟩ := H
  replace H : (if t205 = 0 then (some (t203, 0, 0)) else (some (([] : List (S35)), t204, t205))) = some (r1, r2, r3) := H
  have A2 := Aside0.mk A20
  clear A20
  by_cases c3 : t205 = 0
  · rw [if_pos c3] at H
    have c3b0 : (t205 == 0) = true := beq_iff_eq.mpr c3
    have c3b1 : (t205 != 0) = false := bne_eq_false_iff_eq.mpr c3
    clear c3
    simp only [Option.some.injEq, Prod.mk.injEq] at H
    obtain ⟨rfl, rfl, rfl⟩ := H
    go_enter Tryd.func13, Tryd.ntmps13
    go_wp2_with (first | ((with_reducible refine gate_callee (f := 33) rfl ?_); refine goesL_ (some 10) rfl rfl Tryd.func33 (by kernel_rfl) rfl #[.string a0] rfl (by (try simp only [List.map_toArray, List.map_cons, List.map_nil]); first | done | rfl | (simp only [List.length_drop, List.length_take]; rfl)) ?_; (with_reducible refine (lexis_tokens.calls k a0 t203 t204 t205 _ ?side1 A2.out).mono ?_); (case side1 => first | exact HGE.out | exact GE_below HGE.out (by repeat (first | (with_reducible first | exact HB.out | apply below_alloc | apply pw_below_drewN | apply below_drew1) | exact HB.out))); rintro e w4 ⟨v206, rfl, ho0, hb⟩; refine ⟨_, rfl, ?_⟩; have n0_ := Aside0.mk (Kd.R_lower ho0 (below_size (by repeat (first | (with_reducible first | exact HB.out | apply below_alloc | apply pw_below_drewN | apply below_drew1) | exact HB.out)))); have n1_ := Aside0.mk (below_step (by repeat (first | (with_reducible first | exact HB.out | apply below_alloc | apply pw_below_drewN | apply below_drew1) | exact HB.out)) hb); clear HB; have HO207 := n0_; have HB := n1_; clear n0_ n1_; (try clear hb); (try clear hb2); (try clear hk); (try clear hi); (try clear ho0)))
    go_ret3
    exact ⟨_, by first | rfl | (simp [errW_none, errW_some] <;> rfl) | (simp [*, errW_none, errW_some] <;> rfl), by (with_reducible repeat (first | apply Kd.R_alloc | apply Kd.R_drewN | apply Kd.R_drew)); exact HO207.out, by repeat (first | (with_reducible first | exact HB.out | apply below_alloc | apply pw_below_drewN | apply below_drew1) | exact HB.out)⟩
  · rw [if_neg c3] at H
    have c3b0 : (t205 == 0) = false := beq_eq_false_iff_ne.mpr c3
    have c3b1 : (t205 != 0) = true := bne_iff_ne.mpr c3
    simp only [Option.some.injEq, Prod.mk.injEq] at H
    obtain ⟨rfl, rfl, rfl⟩ := H
    go_enter Tryd.func13, Tryd.ntmps13
    go_wp2_with (first | ((with_reducible refine gate_callee (f := 33) rfl ?_); refine goesL_ (some 10) rfl rfl Tryd.func33 (by kernel_rfl) rfl #[.string a0] rfl (by (try simp only [List.map_toArray, List.map_cons, List.map_nil]); first | done | rfl | (simp only [List.length_drop, List.length_take]; rfl)) ?_; (with_reducible refine (lexis_tokens.calls k a0 t203 t204 t205 _ ?side1 A2.out).mono ?_); (case side1 => first | exact HGE.out | exact GE_below HGE.out (by repeat (first | (with_reducible first | exact HB.out | apply below_alloc | apply pw_below_drewN | apply below_drew1) | exact HB.out))); rintro e w5 ⟨v206, rfl, ho0, hb⟩; refine ⟨_, rfl, ?_⟩; have n0_ := Aside0.mk (Kd.R_lower ho0 (below_size (by repeat (first | (with_reducible first | exact HB.out | apply below_alloc | apply pw_below_drewN | apply below_drew1) | exact HB.out)))); have n1_ := Aside0.mk (below_step (by repeat (first | (with_reducible first | exact HB.out | apply below_alloc | apply pw_below_drewN | apply below_drew1) | exact HB.out)) hb); clear HB; have HO207 := n0_; have HB := n1_; clear n0_ n1_; (try clear hb); (try clear hb2); (try clear hk); (try clear hi); (try clear ho0)))
    go_ret3
    exact ⟨_, by first | rfl | (simp [errW_none, errW_some] <;> rfl) | (simp [*, errW_none, errW_some] <;> rfl), by first | exact Kd.R_nil _ _ _ _ _ | exact Kd.N_nil _ _ _ _ _ | exact Kd.V_nil _ _ _ _ _ | exact Kd.Q_nil _ _ _ _ _ | exact Kd.S_nil _ _ _ _ _, by repeat (first | (with_reducible first | exact HB.out | apply below_alloc | apply pw_below_drewN | apply below_drew1) | exact HB.out)⟩

/-! ### keystoneref12_blank: function 47 -/
def keystoneref12_blank.f (a0 : Int) : Option (Bool) := if a0 = 32 then (some true) else (if a0 = 9 then (some true) else (if a0 = 10 then (some true) else (some (a0 == 13))))
set_option maxHeartbeats 4000000 in
set_option maxRecDepth 100000 in
theorem keystoneref12_blank.calls (a0 : Int) (r : Bool) (w : World) (h : keystoneref12_blank.f a0 = some r) :
    Calls Tryd.prog 47 #[.int .u8 a0] w fun e w' => e = .returned (.bool r) ∧ Drawn0 w w' := by
  have H : (if a0 = 32 then (some true) else (if a0 = 9 then (some true) else (if a0 = 10 then (some true) else (some (a0 == 13))))) = some r := h
  clear h
  by_cases c2 : a0 = 32
  · rw [if_pos c2] at H
    have c2b0 : (a0 == 32) = true := beq_iff_eq.mpr c2
    have c2b1 : (a0 != 32) = false := bne_eq_false_iff_eq.mpr c2
    clear c2
    obtain rfl := Option.some.inj H
    go_enter Tryd.func47, Tryd.ntmps47
    go_wp2
    go_ret
    exact ⟨by first | rfl | (simp; done) | (simp [*]; done), by repeat (first | exact Drawn0.refl _ | apply Drawn0.step)⟩
  · rw [if_neg c2] at H
    have c2b0 : (a0 == 32) = false := beq_eq_false_iff_ne.mpr c2
    have c2b1 : (a0 != 32) = true := bne_iff_ne.mpr c2
    by_cases c3 : a0 = 9
    · rw [if_pos c3] at H
      have c3b0 : (a0 == 9) = true := beq_iff_eq.mpr c3
      have c3b1 : (a0 != 9) = false := bne_eq_false_iff_eq.mpr c3
      clear c3
      obtain rfl := Option.some.inj H
      go_enter Tryd.func47, Tryd.ntmps47
      go_wp2
      go_ret
      exact ⟨by first | rfl | (simp; done) | (simp [*]; done), by repeat (first | exact Drawn0.refl _ | apply Drawn0.step)⟩
    · rw [if_neg c3] at H
      have c3b0 : (a0 == 9) = false := beq_eq_false_iff_ne.mpr c3
      have c3b1 : (a0 != 9) = true := bne_iff_ne.mpr c3
      by_cases c4 : a0 = 10
      · rw [if_pos c4] at H
        have c4b0 : (a0 == 10) = true := beq_iff_eq.mpr c4
        have c4b1 : (a0 != 10) = false := bne_eq_false_iff_eq.mpr c4
        clear c4
        obtain rfl := Option.some.inj H
        go_enter Tryd.func47, Tryd.ntmps47
        go_wp2
        go_ret
        exact ⟨by first | rfl | (simp; done) | (simp [*]; done), by repeat (first | exact Drawn0.refl _ | apply Drawn0.step)⟩
      · rw [if_neg c4] at H
        have c4b0 : (a0 == 10) = false := beq_eq_false_iff_ne.mpr c4
        have c4b1 : (a0 != 10) = true := bne_iff_ne.mpr c4
        obtain rfl := Option.some.inj H
        go_enter Tryd.func47, Tryd.ntmps47
        go_wp2
        go_ret
        exact ⟨by first | rfl | (simp; done) | (simp [*]; done), by repeat (first | exact Drawn0.refl _ | apply Drawn0.step)⟩

/-! ### keystoneref12_skip: function 34 -/
mutual
def keystoneref12_skip.l0 : Nat → ByteArray → Int → Option (Int)
  | 0, _, _ => none
  | k + 1, x0, x1 => if x1 < (x0.size : Int) then (if 0 ≤ x1 then ((keystoneref12_blank.f (bt x0 x1)).bind fun t208 => (if t208 = true then (keystoneref12_skip.j1 k x0 x1 true) else (keystoneref12_skip.j1 k x0 x1 ((bt x0 x1) == 35)))) else (none)) else (keystoneref12_skip.j1 k x0 x1 false)
def keystoneref12_skip.j1 : Nat → ByteArray → Int → Bool → Option (Int)
  | 0, _, _, _ => none
  | k + 1, x0, x1, x20 => if x20 = true then (if 0 ≤ x1 then (if x1 < (x0.size : Int) then (if (bt x0 x1) = 35 then (keystoneref12_skip.l1 k x0 x1) else (keystoneref12_skip.l0 k x0 (wrap64 (x1 + 1)))) else (none)) else (none)) else (some x1)
def keystoneref12_skip.l1 : Nat → ByteArray → Int → Option (Int)
  | 0, _, _ => none
  | k + 1, x0, x1 => if x1 < (x0.size : Int) then (if 0 ≤ x1 then (if (bt x0 x1) = 10 then (keystoneref12_skip.l0 k x0 x1) else (keystoneref12_skip.l1 k x0 (wrap64 (x1 + 1)))) else (none)) else (keystoneref12_skip.l0 k x0 x1)
end
def keystoneref12_skip.f (k : Nat) (a0 : ByteArray) (a1 : Int) : Option (Int) := keystoneref12_skip.l0 k a0 a1
theorem keystoneref12_skip.mono_l : ∀ k, (∀ y0 y1, LeO (keystoneref12_skip.l0 k y0 y1) (keystoneref12_skip.l0 (k + 1) y0 y1)) ∧ (∀ y0 y1 y2, LeO (keystoneref12_skip.j1 k y0 y1 y2) (keystoneref12_skip.j1 (k + 1) y0 y1 y2)) ∧ (∀ y0 y1, LeO (keystoneref12_skip.l1 k y0 y1) (keystoneref12_skip.l1 (k + 1) y0 y1))
  | 0 => ⟨fun _ _ r h => by simp [keystoneref12_skip.l0] at h, fun _ _ _ r h => by simp [keystoneref12_skip.j1] at h, fun _ _ r h => by simp [keystoneref12_skip.l1] at h⟩
  | k + 1 => by
    obtain ⟨ih0, ih1, ih2⟩ := keystoneref12_skip.mono_l k
    refine ⟨?_, ?_, ?_⟩
    · intro y0 y1
      unfold keystoneref12_skip.l0
      repeat' first
      | (with_reducible exact ih0 _ _)
      | (with_reducible exact ih1 _ _ _)
      | (with_reducible exact ih2 _ _)
      | (with_reducible exact LeO.refl _)
      | (with_reducible exact LeO.none _)
      | (with_reducible refine LeO.ite ?_ ?_)
      | (with_reducible refine LeO.bind ?_ (fun _ => ?_))
      | exact ih0 _ _
      | exact ih1 _ _ _
      | exact ih2 _ _
      | exact LeO.none _
      | refine LeO.ite ?_ ?_
      | refine LeO.bind ?_ (fun _ => ?_)
    · intro y0 y1 y2
      unfold keystoneref12_skip.j1
      repeat' first
      | (with_reducible exact ih0 _ _)
      | (with_reducible exact ih1 _ _ _)
      | (with_reducible exact ih2 _ _)
      | (with_reducible exact LeO.refl _)
      | (with_reducible exact LeO.none _)
      | (with_reducible refine LeO.ite ?_ ?_)
      | (with_reducible refine LeO.bind ?_ (fun _ => ?_))
      | exact ih0 _ _
      | exact ih1 _ _ _
      | exact ih2 _ _
      | exact LeO.none _
      | refine LeO.ite ?_ ?_
      | refine LeO.bind ?_ (fun _ => ?_)
    · intro y0 y1
      unfold keystoneref12_skip.l1
      repeat' first
      | (with_reducible exact ih0 _ _)
      | (with_reducible exact ih1 _ _ _)
      | (with_reducible exact ih2 _ _)
      | (with_reducible exact LeO.refl _)
      | (with_reducible exact LeO.none _)
      | (with_reducible refine LeO.ite ?_ ?_)
      | (with_reducible refine LeO.bind ?_ (fun _ => ?_))
      | exact ih0 _ _
      | exact ih1 _ _ _
      | exact ih2 _ _
      | exact LeO.none _
      | refine LeO.ite ?_ ?_
      | refine LeO.bind ?_ (fun _ => ?_)
theorem keystoneref12_skip.mono : ∀ a0 a1 k, LeO (keystoneref12_skip.f k a0 a1) (keystoneref12_skip.f (k + 1) a0 a1) := by
  intro a0 a1 k
  obtain ⟨ih0, ih1, ih2⟩ := keystoneref12_skip.mono_l k
  unfold keystoneref12_skip.f
  repeat' first
      | (with_reducible exact ih0 _ _)
      | (with_reducible exact ih1 _ _ _)
      | (with_reducible exact ih2 _ _)
      | (with_reducible exact LeO.refl _)
      | (with_reducible exact LeO.none _)
      | (with_reducible refine LeO.ite ?_ ?_)
      | (with_reducible refine LeO.bind ?_ (fun _ => ?_))
      | exact ih0 _ _
      | exact ih1 _ _ _
      | exact ih2 _ _
      | exact LeO.none _
      | refine LeO.ite ?_ ?_
      | refine LeO.bind ?_ (fun _ => ?_)
set_option maxHeartbeats 4000000 in
set_option maxRecDepth 100000 in
theorem keystoneref12_skip.calls (k : Nat) (a0 : ByteArray) (a1 : Int) (r : Int) (w : World) (h : keystoneref12_skip.f k a0 a1 = some r) :
    Calls Tryd.prog 34 #[.string a0, .int .i64 a1] w fun e w' => e = .returned (.int .i64 r) ∧ Drawn0 w w' := by
  have H : (keystoneref12_skip.l0 k a0 a1) = some r := h
  clear h
  have H' := Aside0.mk H
  clear H
  go_enter Tryd.func34, Tryd.ntmps34
  go_wp2
  go_loopg [1] k (fun kq v1 w' => ∃ (x1_1 : Int), v1 = .int .i64 x1_1 ∧ Aside0 (keystoneref12_skip.l0 kq a0 x1_1 = some r) ∧ Aside0 (kq ≤ k) ∧ Drawn0 w w')
  case atStart => exact ⟨(a1), (by first | rfl | (simp; done) | (simp [*]; done)), H', ⟨Nat.le_refl _⟩, by repeat (first | exact Drawn0.refl _ | apply Drawn0.step)⟩
  case round =>
    clear H'
    try clear p2
    obtain ⟨x1_1, rfl, HA, HK1, ⟨m1, rfl⟩⟩ := hrel
    cases gk with
    | zero => exact absurd HA.out (by simp [keystoneref12_skip.l0])
    | succ k1 =>
      have H := HA.out
      clear HA
      simp only [keystoneref12_skip.l0] at H
      have HC3 := Aside0.mk H
      clear H
      go_upto_region 1 with (fail)
      go_cut [20] (fun v20 wc => ∃ (kq : Nat) (x20_2 : Bool), v20 = .bool x20_2 ∧ Aside0 (keystoneref12_skip.j1 kq a0 x1_1 x20_2 = some r) ∧ Aside0 (kq ≤ k1) ∧ Drawn0 w wc)
      case first =>
        have H := HC3.out
        clear HC3
        by_cases c4 : x1_1 < (a0.size : Int)
        · rw [if_pos c4] at H
          have c4b0 : decide (x1_1 < (a0.size : Int)) = true := decide_eq_true c4
          clear c4
          (first | rw [c4b0] | (simp only [i64_w, i32_w]; rw [c4b0]) | skip)
          by_cases c5 : 0 ≤ x1_1
          · rw [if_pos c5] at H
            have c5b0 : decide (0 ≤ x1_1) = true := decide_eq_true c5
            clear c5
            replace H := Option.bind_eq_some_iff.mp H
            obtain ⟨t208, A70, H⟩ := H
            replace H : (if t208 = true then (keystoneref12_skip.j1 k1 a0 x1_1 true) else (keystoneref12_skip.j1 k1 a0 x1_1 ((bt a0 x1_1) == 35))) = some r := H
            have A7 := Aside0.mk A70
            clear A70
            by_cases c8 : t208 = true
            · subst c8
              have H1 : (keystoneref12_skip.j1 k1 a0 x1_1 true) = some r := by rw [if_pos rfl] at H; exact H
              clear H
              have H := H1
              clear H1
              have H' := Aside0.mk H
              clear H
              have p6 : 0 ≤ (x1_1 : Int) := of_decide_eq_true (by first | (with_reducible assumption) | assumption)
              have q6 : x1_1 < (a0.size : Int) := of_decide_eq_true (by first | (with_reducible assumption) | assumption)
              have hx6 := bt_at a0 x1_1
              replace p6 := eq_true p6
              replace q6 := eq_true q6
              go_wp2_with (first | (go_at_call 47; (with_reducible refine (keystoneref12_blank.calls (bt a0 x1_1) true _ A7.out).mono ?_); rintro e w' ⟨rfl, ⟨nd, rfl⟩⟩))
              go_meet
              case rel => exact ⟨_, (true), (by first | rfl | (simp; done) | (simp [*]; done)), H', ⟨by have := HK1.out; first | omega | exact Nat.le_refl _⟩, by repeat (first | exact Drawn0.refl _ | apply Drawn0.step)⟩
            · replace c8 := Bool.eq_false_iff.mpr c8
              subst c8
              have H1 : (keystoneref12_skip.j1 k1 a0 x1_1 ((bt a0 x1_1) == 35)) = some r := by rw [if_neg (show ¬ (false = true) by decide)] at H; exact H
              clear H
              have H := H1
              clear H1
              have H' := Aside0.mk H
              clear H
              have p6 : 0 ≤ (x1_1 : Int) := of_decide_eq_true (by first | (with_reducible assumption) | assumption)
              have q6 : x1_1 < (a0.size : Int) := of_decide_eq_true (by first | (with_reducible assumption) | assumption)
              have hx6 := bt_at a0 x1_1
              replace p6 := eq_true p6
              replace q6 := eq_true q6
              go_wp2_with (first | (go_at_call 47; (with_reducible refine (keystoneref12_blank.calls (bt a0 x1_1) false _ A7.out).mono ?_); rintro e w' ⟨rfl, ⟨nd, rfl⟩⟩; have p9 : 0 ≤ (x1_1 : Int) := of_decide_eq_true (by first | (with_reducible assumption) | assumption); have q9 : x1_1 < (a0.size : Int) := of_decide_eq_true (by first | (with_reducible assumption) | assumption); have hx9 := bt_at a0 x1_1; replace p9 := eq_true p9; replace q9 := eq_true q9))
              go_meet
              case rel => exact ⟨_, (((bt a0 x1_1) == 35)), (by first | rfl | (simp; done) | (simp [*]; done)), H', ⟨by have := HK1.out; first | omega | exact Nat.le_refl _⟩, by repeat (first | exact Drawn0.refl _ | apply Drawn0.step)⟩
          · rw [if_neg c5] at H
            exact absurd H (by simp)
        · rw [if_neg c4] at H
          have c4b0 : decide (x1_1 < (a0.size : Int)) = false := decide_eq_false c4
          clear c4
          (first | rw [c4b0] | (simp only [i64_w, i32_w]; rw [c4b0]) | skip)
          have H' := Aside0.mk H
          clear H
          go_wp2
          go_meet
          case rel => exact ⟨_, (false), (by first | rfl | (simp; done) | (simp [*]; done)), H', ⟨by have := HK1.out; first | omega | exact Nat.le_refl _⟩, by repeat (first | exact Drawn0.refl _ | apply Drawn0.step)⟩
      case rest =>
        clear HC3
        try clear p2
        try clear c3
        try clear c4
        try clear c4b0
        try clear c5
        try clear c5b0
        try clear p6
        try clear q6
        try clear hx6
        try clear c8
        try clear p9
        try clear q9
        try clear hx9
        try clear p2
        try clear p6
        try clear p9
        try clear q6
        try clear q9
        obtain ⟨kq, x20_2, rfl, HA, HJ2, ⟨mc2, rfl⟩⟩ := hcut
        cases kq with
        | zero => exact absurd HA.out (by simp [keystoneref12_skip.j1])
        | succ kj2 =>
          have H := HA.out
          clear HA
          simp only [keystoneref12_skip.j1] at H
          by_cases c10 : x20_2 = true
          · subst c10
            have H1 : (if 0 ≤ x1_1 then (if x1_1 < (a0.size : Int) then (if (bt a0 x1_1) = 35 then (keystoneref12_skip.l1 kj2 a0 x1_1) else (keystoneref12_skip.l0 kj2 a0 (wrap64 (x1_1 + 1)))) else (none)) else (none)) = some r := by rw [if_pos rfl] at H; exact H
            clear H
            have H := H1
            clear H1
            by_cases c11 : 0 ≤ x1_1
            · rw [if_pos c11] at H
              have c11b0 : decide (0 ≤ x1_1) = true := decide_eq_true c11
              clear c11
              by_cases c12 : x1_1 < (a0.size : Int)
              · rw [if_pos c12] at H
                have c12b0 : decide (x1_1 < (a0.size : Int)) = true := decide_eq_true c12
                clear c12
                by_cases c14 : (bt a0 x1_1) = 35
                · rw [if_pos c14] at H
                  have c14b0 : ((bt a0 x1_1) == 35) = true := beq_iff_eq.mpr c14
                  have c14b1 : ((bt a0 x1_1) != 35) = false := bne_eq_false_iff_eq.mpr c14
                  clear c14
                  have H' := Aside0.mk H
                  clear H
                  have p13 : 0 ≤ (x1_1 : Int) := of_decide_eq_true (by first | (with_reducible assumption) | assumption)
                  have q13 : x1_1 < (a0.size : Int) := of_decide_eq_true (by first | (with_reducible assumption) | assumption)
                  have hx13 := bt_at a0 x1_1
                  replace p13 := eq_true p13
                  replace q13 := eq_true q13
                  go_wp2
                  go_loopg [1] kj2 (fun kq v1 w' => ∃ (x1_3 : Int), v1 = .int .i64 x1_3 ∧ Aside0 (keystoneref12_skip.l1 kq a0 x1_3 = some r) ∧ Aside0 (kq ≤ kj2) ∧ Drawn0 w w')
                  case atStart => exact ⟨(x1_1), (by first | rfl | (simp; done) | (simp [*]; done)), H', ⟨Nat.le_refl _⟩, by repeat (first | exact Drawn0.refl _ | apply Drawn0.step)⟩
                  case round =>
                    clear H'
                    try clear c1
                    try clear p1
                    try clear q1
                    try clear hx1
                    try clear c2
                    try clear p2
                    try clear c3
                    try clear c4
                    try clear c4b0
                    try clear c5
                    try clear c5b0
                    try clear p6
                    try clear q6
                    try clear hx6
                    try clear c8
                    try clear p9
                    try clear q9
                    try clear hx9
                    try clear c10
                    try clear c11
                    try clear c11b0
                    try clear c12
                    try clear c12b0
                    try clear p13
                    try clear q13
                    try clear hx13
                    try clear c14
                    try clear c14b0
                    try clear c14b1
                    try clear p13
                    try clear p2
                    try clear p6
                    try clear p9
                    try clear q13
                    try clear q6
                    try clear q9
                    obtain ⟨x1_3, rfl, HA, HK3, ⟨m3, rfl⟩⟩ := hrel
                    cases gk with
                    | zero => exact absurd HA.out (by simp [keystoneref12_skip.l1])
                    | succ k3 =>
                      have H := HA.out
                      clear HA
                      simp only [keystoneref12_skip.l1] at H
                      by_cases c15 : x1_3 < (a0.size : Int)
                      · rw [if_pos c15] at H
                        have c15b0 : decide (x1_3 < (a0.size : Int)) = true := decide_eq_true c15
                        clear c15
                        by_cases c16 : 0 ≤ x1_3
                        · rw [if_pos c16] at H
                          have c16b0 : decide (0 ≤ x1_3) = true := decide_eq_true c16
                          clear c16
                          by_cases c18 : (bt a0 x1_3) = 10
                          · rw [if_pos c18] at H
                            have c18b0 : ((bt a0 x1_3) == 10) = true := beq_iff_eq.mpr c18
                            have c18b1 : ((bt a0 x1_3) != 10) = false := bne_eq_false_iff_eq.mpr c18
                            clear c18
                            have H' := Aside0.mk H
                            clear H
                            have p17 : 0 ≤ (x1_3 : Int) := of_decide_eq_true (by first | (with_reducible assumption) | assumption)
                            have q17 : x1_3 < (a0.size : Int) := of_decide_eq_true (by first | (with_reducible assumption) | assumption)
                            have hx17 := bt_at a0 x1_3
                            replace p17 := eq_true p17
                            replace q17 := eq_true q17
                            go_wp2
                            go_roundg k3
                            case measure => have := HK1.out; have := HJ2.out; have := HK3.out; omega
                            case rel => exact ⟨(x1_3), (by first | rfl | (simp; done) | (simp [*]; done)), H', ⟨by have := HK1.out; have := HJ2.out; have := HK3.out; omega⟩, by repeat (first | exact Drawn0.refl _ | apply Drawn0.step)⟩
                          · rw [if_neg c18] at H
                            have c18b0 : ((bt a0 x1_3) == 10) = false := beq_eq_false_iff_ne.mpr c18
                            have c18b1 : ((bt a0 x1_3) != 10) = true := bne_iff_ne.mpr c18
                            have H' := Aside0.mk H
                            clear H
                            have p17 : 0 ≤ (x1_3 : Int) := of_decide_eq_true (by first | (with_reducible assumption) | assumption)
                            have q17 : x1_3 < (a0.size : Int) := of_decide_eq_true (by first | (with_reducible assumption) | assumption)
                            have hx17 := bt_at a0 x1_3
                            replace p17 := eq_true p17
                            replace q17 := eq_true q17
                            go_wp2
                            go_roundg k3
                            case measure => have := HK1.out; have := HJ2.out; have := HK3.out; omega
                            case rel => exact ⟨(wrap64 (x1_3 + 1)), (by first | rfl | (simp; done) | (simp [*]; done)), H', ⟨by have := HK1.out; have := HJ2.out; have := HK3.out; omega⟩, by repeat (first | exact Drawn0.refl _ | apply Drawn0.step)⟩
                        · rw [if_neg c16] at H
                          exact absurd H (by simp)
                      · rw [if_neg c15] at H
                        have c15b0 : decide (x1_3 < (a0.size : Int)) = false := decide_eq_false c15
                        clear c15
                        have H' := Aside0.mk H
                        clear H
                        go_wp2
                        go_roundg k3
                        case measure => have := HK1.out; have := HJ2.out; have := HK3.out; omega
                        case rel => exact ⟨(x1_3), (by first | rfl | (simp; done) | (simp [*]; done)), H', ⟨by have := HK1.out; have := HJ2.out; have := HK3.out; omega⟩, by repeat (first | exact Drawn0.refl _ | apply Drawn0.step)⟩
                · rw [if_neg c14] at H
                  have c14b0 : ((bt a0 x1_1) == 35) = false := beq_eq_false_iff_ne.mpr c14
                  have c14b1 : ((bt a0 x1_1) != 35) = true := bne_iff_ne.mpr c14
                  have H' := Aside0.mk H
                  clear H
                  have p13 : 0 ≤ (x1_1 : Int) := of_decide_eq_true (by first | (with_reducible assumption) | assumption)
                  have q13 : x1_1 < (a0.size : Int) := of_decide_eq_true (by first | (with_reducible assumption) | assumption)
                  have hx13 := bt_at a0 x1_1
                  replace p13 := eq_true p13
                  replace q13 := eq_true q13
                  go_wp2
                  go_roundg kj2
                  case measure => have := HK1.out; have := HJ2.out; omega
                  case rel => exact ⟨(wrap64 (x1_1 + 1)), (by first | rfl | (simp; done) | (simp [*]; done)), H', ⟨by have := HK1.out; have := HJ2.out; omega⟩, by repeat (first | exact Drawn0.refl _ | apply Drawn0.step)⟩
              · rw [if_neg c12] at H
                exact absurd H (by simp)
            · rw [if_neg c11] at H
              exact absurd H (by simp)
          · replace c10 := Bool.eq_false_iff.mpr c10
            subst c10
            have H1 : (some x1_1) = some r := by rw [if_neg (show ¬ (false = true) by decide)] at H; exact H
            clear H
            have H := H1
            clear H1
            obtain rfl := Option.some.inj H
            go_wp2
            go_ret
            exact ⟨by first | rfl | (simp; done) | (simp [*]; done), by repeat (first | exact Drawn0.refl _ | apply Drawn0.step)⟩

/-! ### keystoneref12_low: function 31 -/
def keystoneref12_low.f (a0 : Int) : Option (Bool) := if a0 ≥ 97 then (some (decide (a0 ≤ 122))) else (some false)
set_option maxHeartbeats 4000000 in
set_option maxRecDepth 100000 in
theorem keystoneref12_low.calls (a0 : Int) (r : Bool) (w : World) (h : keystoneref12_low.f a0 = some r) :
    Calls Tryd.prog 31 #[.int .u8 a0] w fun e w' => e = .returned (.bool r) ∧ Drawn0 w w' := by
  have H : (if a0 ≥ 97 then (some (decide (a0 ≤ 122))) else (some false)) = some r := h
  clear h
  by_cases c2 : a0 ≥ 97
  · rw [if_pos c2] at H
    have c2b0 : decide (97 ≤ a0) = true := decide_eq_true c2
    clear c2
    obtain rfl := Option.some.inj H
    go_enter Tryd.func31, Tryd.ntmps31
    go_wp2
    go_ret
    exact ⟨by first | rfl | (simp; done) | (simp [*]; done), by repeat (first | exact Drawn0.refl _ | apply Drawn0.step)⟩
  · rw [if_neg c2] at H
    have c2b0 : decide (97 ≤ a0) = false := decide_eq_false c2
    clear c2
    obtain rfl := Option.some.inj H
    go_enter Tryd.func31, Tryd.ntmps31
    go_wp2
    go_ret
    exact ⟨by first | rfl | (simp; done) | (simp [*]; done), by repeat (first | exact Drawn0.refl _ | apply Drawn0.step)⟩

/-! ### keystoneref12_digit: function 45 -/
def keystoneref12_digit.f (a0 : Int) : Option (Bool) := if a0 ≥ 48 then (some (decide (a0 ≤ 57))) else (some false)
set_option maxHeartbeats 4000000 in
set_option maxRecDepth 100000 in
theorem keystoneref12_digit.calls (a0 : Int) (r : Bool) (w : World) (h : keystoneref12_digit.f a0 = some r) :
    Calls Tryd.prog 45 #[.int .u8 a0] w fun e w' => e = .returned (.bool r) ∧ Drawn0 w w' := by
  have H : (if a0 ≥ 48 then (some (decide (a0 ≤ 57))) else (some false)) = some r := h
  clear h
  by_cases c2 : a0 ≥ 48
  · rw [if_pos c2] at H
    have c2b0 : decide (48 ≤ a0) = true := decide_eq_true c2
    clear c2
    obtain rfl := Option.some.inj H
    go_enter Tryd.func45, Tryd.ntmps45
    go_wp2
    go_ret
    exact ⟨by first | rfl | (simp; done) | (simp [*]; done), by repeat (first | exact Drawn0.refl _ | apply Drawn0.step)⟩
  · rw [if_neg c2] at H
    have c2b0 : decide (48 ≤ a0) = false := decide_eq_false c2
    clear c2
    obtain rfl := Option.some.inj H
    go_enter Tryd.func45, Tryd.ntmps45
    go_wp2
    go_ret
    exact ⟨by first | rfl | (simp; done) | (simp [*]; done), by repeat (first | exact Drawn0.refl _ | apply Drawn0.step)⟩

/-! ### keystoneref12_inner: function 32 -/
def keystoneref12_inner.f (a0 : Int) : Option (Bool) := (keystoneref12_low.f a0).bind fun t209 => (if t209 = true then (some true) else ((keystoneref12_digit.f a0).bind fun t210 => (if t210 = true then (some true) else (some (a0 == 95)))))
set_option maxHeartbeats 4000000 in
set_option maxRecDepth 100000 in
theorem keystoneref12_inner.calls (a0 : Int) (r : Bool) (w : World) (h : keystoneref12_inner.f a0 = some r) :
    Calls Tryd.prog 32 #[.int .u8 a0] w fun e w' => e = .returned (.bool r) ∧ Drawn0 w w' := by
  have H : ((keystoneref12_low.f a0).bind fun t209 => (if t209 = true then (some true) else ((keystoneref12_digit.f a0).bind fun t210 => (if t210 = true then (some true) else (some (a0 == 95)))))) = some r := h
  clear h
  replace H := Option.bind_eq_some_iff.mp H
  obtain ⟨t209, A20, H⟩ := H
  replace H : (if t209 = true then (some true) else ((keystoneref12_digit.f a0).bind fun t210 => (if t210 = true then (some true) else (some (a0 == 95))))) = some r := H
  have A2 := Aside0.mk A20
  clear A20
  by_cases c3 : t209 = true
  · subst c3
    have H1 : (some true) = some r := by rw [if_pos rfl] at H; exact H
    clear H
    have H := H1
    clear H1
    obtain rfl := Option.some.inj H
    go_enter Tryd.func32, Tryd.ntmps32
    go_wp2_with (first | ((with_reducible refine gate_callee (f := 31) rfl ?_); refine goesL_ (some 4) rfl rfl Tryd.func31 (by kernel_rfl) rfl #[.int .u8 a0] rfl (by (try simp only [List.map_toArray, List.map_cons, List.map_nil]); first | done | rfl | (simp only [List.length_drop, List.length_take]; rfl)) ?_; (with_reducible refine (keystoneref12_low.calls a0 true _ A2.out).mono ?_); rintro e w' ⟨rfl, ⟨nd, rfl⟩⟩; refine ⟨_, rfl, ?_⟩))
    go_ret
    exact ⟨by first | rfl | (simp; done) | (simp [*]; done), by repeat (first | exact Drawn0.refl _ | apply Drawn0.step)⟩
  · replace c3 := Bool.eq_false_iff.mpr c3
    subst c3
    have H1 : ((keystoneref12_digit.f a0).bind fun t210 => (if t210 = true then (some true) else (some (a0 == 95)))) = some r := by rw [if_neg (show ¬ (false = true) by decide)] at H; exact H
    clear H
    have H := H1
    clear H1
    replace H := Option.bind_eq_some_iff.mp H
    obtain ⟨t210, A40, H⟩ := H
    replace H : (if t210 = true then (some true) else (some (a0 == 95))) = some r := H
    have A4 := Aside0.mk A40
    clear A40
    by_cases c5 : t210 = true
    · subst c5
      have H1 : (some true) = some r := by rw [if_pos rfl] at H; exact H
      clear H
      have H := H1
      clear H1
      obtain rfl := Option.some.inj H
      go_enter Tryd.func32, Tryd.ntmps32
      go_wp2_with (first | ((with_reducible refine gate_callee (f := 31) rfl ?_); refine goesL_ (some 4) rfl rfl Tryd.func31 (by kernel_rfl) rfl #[.int .u8 a0] rfl (by (try simp only [List.map_toArray, List.map_cons, List.map_nil]); first | done | rfl | (simp only [List.length_drop, List.length_take]; rfl)) ?_; (with_reducible refine (keystoneref12_low.calls a0 false _ A2.out).mono ?_); rintro e w' ⟨rfl, ⟨nd, rfl⟩⟩; refine ⟨_, rfl, ?_⟩) | (go_at_call 45; (with_reducible refine (keystoneref12_digit.calls a0 true _ A4.out).mono ?_); rintro e w' ⟨rfl, ⟨nd, rfl⟩⟩))
      go_ret
      exact ⟨by first | rfl | (simp; done) | (simp [*]; done), by repeat (first | exact Drawn0.refl _ | apply Drawn0.step)⟩
    · replace c5 := Bool.eq_false_iff.mpr c5
      subst c5
      have H1 : (some (a0 == 95)) = some r := by rw [if_neg (show ¬ (false = true) by decide)] at H; exact H
      clear H
      have H := H1
      clear H1
      obtain rfl := Option.some.inj H
      go_enter Tryd.func32, Tryd.ntmps32
      go_wp2_with (first | ((with_reducible refine gate_callee (f := 31) rfl ?_); refine goesL_ (some 4) rfl rfl Tryd.func31 (by kernel_rfl) rfl #[.int .u8 a0] rfl (by (try simp only [List.map_toArray, List.map_cons, List.map_nil]); first | done | rfl | (simp only [List.length_drop, List.length_take]; rfl)) ?_; (with_reducible refine (keystoneref12_low.calls a0 false _ A2.out).mono ?_); rintro e w' ⟨rfl, ⟨nd, rfl⟩⟩; refine ⟨_, rfl, ?_⟩) | (go_at_call 45; (with_reducible refine (keystoneref12_digit.calls a0 false _ A4.out).mono ?_); rintro e w' ⟨rfl, ⟨nd, rfl⟩⟩))
      go_ret
      exact ⟨by first | rfl | (simp; done) | (simp [*]; done), by repeat (first | exact Drawn0.refl _ | apply Drawn0.step)⟩

end Go.Proofs.YtmloklmcoedciaaDoor.KA
