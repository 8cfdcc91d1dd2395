/-
  Texts that the claim rests on, merged: AbsSched, DrawL.
-/
import Derived.Test.YtagnfckihdlhpaaZRowSP7

namespace Go.Proofs.Ytagnfckihdlhpaa.Abs
open Go.RowKit
end Go.Proofs.Ytagnfckihdlhpaa.Abs

namespace Go.Proofs.Ytagnfckihdlhpaa.Draw
open Go.RowKit
open Abs (gslot cnt cnt_f cnt_t cnt_app cnt_mono cnt_zero cnt_all isBef conf dirs writes pairsOK apart_conf filter_none)
variable {β γ : Type}
end Go.Proofs.Ytagnfckihdlhpaa.Draw
