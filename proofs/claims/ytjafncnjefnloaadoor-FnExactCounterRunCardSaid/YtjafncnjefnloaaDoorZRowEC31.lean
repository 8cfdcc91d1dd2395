/-
  Texts that the claim rests on, merged: PI4, Gr.
-/
import Derived.Test.YtjafncnjefnloaaDoorZRowEC14
import Derived.Test.YtjafncnjefnloaaDoorZRowEC30

namespace Go.Proofs.YtjafncnjefnloaaDoor.Den
open Go.RowKit
set_option maxRecDepth 100000
set_option linter.unusedVariables false
namespace i_tableau_holds
noncomputable abbrev bd:=bodyOf Tryd.f97
end i_tableau_holds
namespace i_tableau_follows
noncomputable abbrev bd:=bodyOf Tryd.f96
noncomputable abbrev q8:=nthC [1,0,1,0,0,1,1,0,0,1,1,1] bd
noncomputable abbrev q2:=nthC [1,0,1,0,0] bd
end i_tableau_follows
namespace i_spread
noncomputable abbrev bd:=bodyOf Tryd.f98
noncomputable abbrev q3:=nthC [1,1,1,0,0] bd
end i_spread
namespace i_tableau_fair
noncomputable abbrev bd:=bodyOf Tryd.f99
noncomputable abbrev q3:=nthC [1,1,0,1,0,0] bd
noncomputable abbrev q14:=nthC [1,1,1,1,1,0,1,0,0,1,1,0,0,1,1,0,0] bd
noncomputable abbrev q11:=nthC [1,1,1,1,1,0,1,0,0] bd
noncomputable abbrev q27:=nthC [1,1,1,1,1,1,1,1,0,1,0,0,1,1,0,0,1,1,1,0,1,0,0] bd
end i_tableau_fair
namespace i_someRun
noncomputable abbrev bd:=bodyOf Tryd.f56
noncomputable abbrev q1:=nthC [1,0] bd
noncomputable abbrev q3:=nthC [1,1,0,1,0,0] bd
noncomputable abbrev q19:=nthC [1,1,1,1,1,0,1,0,0,1,1,0,0,1,1,0,0,1,1,0,0,1,1,0,0,1,1,0,0,1,1,0,0] bd
noncomputable abbrev q16:=nthC [1,1,1,1,1,0,1,0,0,1,1,0,0,1,1,0,0,1,1,0,0,1,1,0,0] bd
noncomputable abbrev q13:=nthC [1,1,1,1,1,0,1,0,0,1,1,0,0,1,1,0,0] bd
noncomputable abbrev q10:=nthC [1,1,1,1,1,0,1,0,0] bd
noncomputable abbrev q29:=nthC [1,1,1,1,1,1,1,0,1,0,0] bd
end i_someRun
namespace i_AllRunsHold
noncomputable abbrev bd:=bodyOf Tryd.f25
end i_AllRunsHold
namespace i_SomeRunHolds
noncomputable abbrev bd:=bodyOf Tryd.f27
end i_SomeRunHolds
end Go.Proofs.YtjafncnjefnloaaDoor.Den

namespace Go.Proofs.YtjafncnjefnloaaDoor.Den
open Go.RowKit
open Classical
end Go.Proofs.YtjafncnjefnloaaDoor.Den
