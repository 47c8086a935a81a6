/- What is proved: the closure that lexis.All hands back has the contract of an iterator over the tokens that its box holds. Condition: the list of tokens is readable where the slice in the box says. -/
import Derived.RangeFuncNested
import Derived.RangeFuncBound
import Derived.RangeFuncCalls
import Derived.RangeFuncLeaves
import Derived.Shelf.Abstract
import Derived.Shelf.RegionOpen
import Derived.WalkKit
import Derived.OwnWalkIn
import Derived.TacticsInMore
import Derived.LoopNIn
import Derived.LoopIn
import Derived.Test.YtmloklmcoedciaaDoorKAx0
namespace Go.Proofs.YtmloklmcoedciaaDoor.Iter
open Go.RowKit Go.Shelf Go.Proofs.YtmloklmcoedciaaDoor.KA Go.Proofs.YtmloklmcoedciaaDoorW.PrintWords
attribute [local go_sem] Oper.semAt_some
set_option linter.unusedVariables false
/-- A token's value. -/
def tokV (x : S35) : Value := .agg #[.int .i64 x.f0, .string x.f1, .int .i64 x.f2.f0, .int .i64 x.f2.f1, .bool x.f2.f2, .string x.f2.f3, .complex .f64 x.f2.f4.re x.f2.f4.im, .int .i64 x.f3]
def enc (x : Nat × S35) : Array Value := #[.int .i64 (x.1 : Int), tokV x.2]
/-- What has come when k rounds are over. -/
def upto (zs : List S35) (k : Nat) : List (Nat × S35) := (List.range k).map fun j => (j, rd_T35 zs (j : Int))
theorem upto_succ (zs : List S35) (k : Nat) : upto zs (k + 1) = upto zs k ++ [(k, rd_T35 zs (k : Int))] := by simp [upto, List.range_succ]
theorem upto_length (zs : List S35) (k : Nat) : (upto zs k).length = k := by simp [upto]
set_option maxRecDepth 100000 in
set_option maxHeartbeats 2000000 in
theorem all1_in (F : Fence) (n : Nat) (hf : F.fn 36) (hro : F.round = none) (hn : 1 ≤ n) (l Bs : Nat) (A : Option Addr) (cap : Nat) (zs : List S35) (hreach : zs.length ≤ 140737488351232) (w0 : World) (hC : Kd.C k35 w0 A zs.length zs)
    (J Jx : List (Nat × S35) → World → Prop)
    (hY : ∀ pre x W, J pre W → pre.length < zs.length → YieldAt F (n - 1) Tryd.prog l (enc x) W fun e W' =>
      (e = .returned (.bool true) ∧ J (pre ++ [x]) W' ∧ Below w0.heap.size W W') ∨ (e = .returned (.bool false) ∧ Jx (pre ++ [x]) W'))
    (hJ : ∀ pre (W : World) o, J pre W → J pre (W.alloc o))
    (W : World) (hW : Below w0.heap.size w0 W) (hBs : W.cell? ⟨Bs, 0, none⟩ = some (.slice A zs.length cap)) (h0 : J [] W) :
    CallsIn F n Tryd.prog 36 #[.func (.yield l) #[] #[], .pointer (some ⟨Bs, 0, none⟩)] W fun e W' => (∃ v, e = .returned v) ∧
      ((∃ ys, ys = upto zs zs.length ∧ J ys W') ∨ (∃ pre, (∃ k, k ≤ zs.length ∧ pre = upto zs k) ∧ Jx pre W')) := by
  have hu35 := Tryd.underlying35
  have hu33 := Tryd.underlying33
  refine callsIn_of_wp Tryd.func36 rfl hf ?_ hro
  simp only [Tryd.ntmps36, List.size_toArray, List.length_cons, List.length_nil, Nat.reduceAdd, Nat.reduceSub, Array.replicate_succ, Array.replicate_zero, List.push_toArray, List.append_toArray, List.nil_append, List.cons_append]
  gi_wp2
  gi_loopw [7] (fun i wr => ∃ k : Nat, k ≤ zs.length ∧ i = .int .i64 k ∧ J (upto zs k) wr ∧ Below w0.heap.size w0 wr)
    (fun i _ => zs.length - (intOf i).toNat)
  case atStart => exact ⟨0, Nat.zero_le _, rfl, h0, hW⟩
  case round =>
    obtain ⟨k, hk, rfl, hJs, hnx⟩ := hrel
    by_cases hlt : k < zs.length
    · obtain ⟨ad, rfl, x0, x1, x2, x3, x4, x5, x6, x7⟩ := at_T35 hC (k : Int) (by omega) (by omega)
      rw [Int.toNat_natCast] at x0 x1 x2 x3 x4 x5 x6 x7
      replace x0 := (hnx.cell (World.block_lt_of_cell? w0 _ x0)).trans x0
      replace x1 := (hnx.cell (World.block_lt_of_cell? w0 _ x1)).trans x1
      replace x2 := (hnx.cell (World.block_lt_of_cell? w0 _ x2)).trans x2
      replace x3 := (hnx.cell (World.block_lt_of_cell? w0 _ x3)).trans x3
      replace x4 := (hnx.cell (World.block_lt_of_cell? w0 _ x4)).trans x4
      replace x5 := (hnx.cell (World.block_lt_of_cell? w0 _ x5)).trans x5
      replace x6 := (hnx.cell (World.block_lt_of_cell? w0 _ x6)).trans x6
      replace x7 := (hnx.cell (World.block_lt_of_cell? w0 _ x7)).trans x7
      generalize ht : rd_T35 zs (k : Int) = t at x0 x1 x2 x3 x4 x5 x6 x7
      obtain ⟨t0, t1, ⟨u0, u1, u2, u3, u4⟩, t3⟩ := t
      obtain ⟨fn, tmps, assign, body, hy, hR⟩ := hY _ (k, rd_T35 zs (k : Int)) (wr.alloc (.cells #[.int .i64 t0, .string t1, .int .i64 u0, .int .i64 u1, .bool u2, .string u3, .complex .f64 u4.re u4.im, .int .i64 t3] 35)) (hJ _ _ _ hJs) (by rw [upto_length]; exact hlt)
      rw [ht] at hy hR
      dsimp only [enc, tokV] at hy
      gi_wp2
      refine hR.mono ?_
      rintro e W3 (⟨rfl, hJ3, hk3⟩ | ⟨rfl, hJx3⟩)
      · gi_wp2
        go_roundw
        case rel => exact ⟨k + 1, by omega, by simp, by rw [upto_succ, ht]; exact hJ3, (hnx.alloc hnx.size _).trans hk3⟩
        case measure => simp [intOf]; omega
      · gi_wp2
        refine bodyPost_ret (results_none rfl _ _ _) rfl ?_
        exact ⟨⟨_, rfl⟩, .inr ⟨_, ⟨k + 1, by omega, by rw [upto_succ, ht]⟩, hJx3⟩⟩
    · obtain rfl : k = zs.length := by omega
      gi_wp2
      go_end0
      exact ⟨⟨_, rfl⟩, .inl ⟨_, rfl, hJs⟩⟩
/-- The closure's contract, as the law of a range over a function asks for it. -/
theorem all_stops (F : Fence) (n : Nat) (hf : F.fn 36) (hro : F.round = none) (hn : 1 ≤ n) (Bs : Nat) (A : Option Addr) (cap : Nat) (zs : List S35) (hreach : zs.length ≤ 140737488351232) (w0 w : World) (hC : Kd.C k35 w0 A zs.length zs)
    (hw : Below w0.heap.size w0 w) (hb : Bs < w.heap.size) (hBs : w.cell? ⟨Bs, 0, none⟩ = some (.slice A zs.length cap)) :
    SeqStopsK F n Tryd.prog 36 #[.pointer (some ⟨Bs, 0, none⟩)] enc (Below w0.heap.size) (fun ys => ys = upto zs zs.length) (fun pre => ∃ k, k ≤ zs.length ∧ pre = upto zs k) zs.length w :=
  fun l J Jx W hW hJ _ hY h0 =>
    all1_in F n hf hro hn l Bs A cap zs hreach w0 hC J Jx hY (fun pre V o h => hJ pre V (V.alloc o) none h (World.grownBy_alloc V o none) (fun _ e => by cases e)) W (hw.trans (hW.mono hw.size)) ((hW.cell (p := ⟨Bs, 0, none⟩) hb).trans hBs) h0
end Go.Proofs.YtmloklmcoedciaaDoor.Iter
