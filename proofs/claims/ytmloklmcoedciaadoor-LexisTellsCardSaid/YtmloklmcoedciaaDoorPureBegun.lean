/- The plain part of 'begun' of layer 12: the simplest tokens come. Condition: none. -/
import Derived.Test.YtmloklmcoedciaaDoorKAx10
namespace Go.Proofs.YtmloklmcoedciaaDoor.Pure
open Go.RowKit Go.Proofs.YtmloklmcoedciaaDoor.KA Go.Proofs.YtmloklmcoedciaaDoorW.PrintWords Go.Proofs.YtmloklmcoedciaaDoorW.PrintLast
set_option maxRecDepth 100000 in
theorem begun100 : keystonelaw12_begun.f 100 = some true := by decide +kernel
theorem begun_true : ∀ d, keystonelaw12_begun.f (100 + d) = some true
  | 0 => begun100
  | d + 1 => keystonelaw12_begun.mono (100 + d) true (begun_true d)
end Go.Proofs.YtmloklmcoedciaaDoor.Pure
