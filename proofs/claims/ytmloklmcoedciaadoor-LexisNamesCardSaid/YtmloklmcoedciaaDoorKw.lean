import Derived.Test.YtmloklmcoedciaaDoorWWords
import Derived.Test.YtmloklmcoedciaaDoorWLast
import Derived.Test.YtmloklmcoedciaaDoorWMore
import Derived.Test.YtmloklmcoedciaaDoorWFoot
import Derived.Laws.Cover3
import Derived.Laws.FloatArith
/-! Complex numbers and floats as plain leaves of a struct. -/
namespace Go.Proofs.YtmloklmcoedciaaDoorW.PrintWords
open Go.RowKit
structure CPt where
  re : Nat
  im : Nat
def kcplx : Kd CPt := Kd.scalar (fun x => Value.complex .f64 x.re x.im) (fun _ => rfl)
def kflt : Kd Nat := Kd.scalar (fun x => Value.float .f64 x) (fun _ => rfl)
@[go_sem] theorem run_equalIn_cplx {P : Program} (w : World) (d : Nat) (t : TypeId) (a b c e : Nat) (h : P.underlying t = some (.complex .f64)) :
    (Op.equalIn (d + 1) t (.complex .f64 a b) (.complex .f64 c e)).run P w = .ok ((FloatKind.f64.format.order a c == some .eq) && (FloatKind.f64.format.order b e == some .eq)) w := by
  simp [Op.equalIn, run_underlying h, Op.floatEq]
@[go_sem] theorem run_store_cplx {P : Program} {w : World} {a : Addr} {m : Mode} (k : FloatKind) (x y : Nat) : (store a (.complex k x y) m).run P w = stored P w a (.complex k x y) m := run_store P w a _ m rfl
@[go_sem] theorem run_store_flt {P : Program} {w : World} {a : Addr} {m : Mode} (k : FloatKind) (x : Nat) : (store a (.float k x) m).run P w = stored P w a (.float k x) m := run_store P w a _ m rfl
/-- Which cells there are doesn't hang on what is stored: a store's own question needs no look at what lies around. -/
@[go_sem] theorem isSome_setCell (w : World) (a b : Addr) (v : Value) : ((w.setCell a v).cell? b).isSome = (w.cell? b).isSome := by
  simp only [World.setCell, World.cell?, Array.getElem?_modify]
  by_cases hb : a.block = b.block
  · simp only [hb, if_true]
    cases hh : w.heap[b.block]? with
    | none => simp
    | some x =>
      cases x <;> simp
      cases hsb : b.spot with
      | some _ => simp
      | none =>
        cases hsa : a.spot with
        | some _ => simp
        | none =>
          simp only [Option.isSome_none, Bool.false_eq_true, if_false]
          rename_i c _ _
          have e : ∀ d : Array Value, d[b.off]?.isSome = decide (b.off < d.size) := fun d => by by_cases h : b.off < d.size <;> simp [h]
          rw [e, e, Array.size_setIfInBounds]
  · simp [hb]
end Go.Proofs.YtmloklmcoedciaaDoorW.PrintWords
