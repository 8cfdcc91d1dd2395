/-
  Texts that the claim rests on, merged: PA, PDraw, PDrawM.
-/
import Derived.Test.YtjafncnjefnloaaDoorZRowEC14
import Derived.Test.YtjafncnjefnloaaDoorZRowEC16

namespace Go.Proofs.YtjafncnjefnloaaDoor.Den
open Go.RowKit
set_option maxRecDepth 100000
set_option linter.unusedVariables false
namespace s_l1Byte
noncomputable abbrev bd:=bodyOf Tryd.f114
end s_l1Byte
namespace s_l1Below
noncomputable abbrev bd:=bodyOf Tryd.f100
end s_l1Below
namespace s_l1Once
noncomputable abbrev bd:=bodyOf Tryd.f101
end s_l1Once
namespace s_l1New
noncomputable abbrev bd:=bodyOf Tryd.f57
noncomputable abbrev q3:=nthC [1,1,0,1,0,0] bd
end s_l1New
namespace s_l1PickInt
noncomputable abbrev bd:=bodyOf Tryd.f75
end s_l1PickInt
namespace s_l31Marks_o
noncomputable abbrev bd:=bodyOf Tryd.f102
noncomputable abbrev q3:=nthC [1,1,0,1,0,0] bd
end s_l31Marks_o
namespace s_l31Draw
noncomputable abbrev bd:=bodyOf Tryd.f103
noncomputable abbrev q3:=nthC [1,1,0,1,0] bd
noncomputable abbrev q8:=nthC [1,1,1,1,0,1,0] bd
end s_l31Draw
namespace s_l31Draw_o
noncomputable abbrev bd:=bodyOf Tryd.f103
noncomputable abbrev q3:=nthC [1,1,0,1,0] bd
noncomputable abbrev q8:=nthC [1,1,1,1,0,1,0] bd
end s_l31Draw_o
namespace s_l31Bent
noncomputable abbrev bd:=bodyOf Tryd.f59
end s_l31Bent
namespace s_l32Graph
noncomputable abbrev bd:=bodyOf Tryd.f58
noncomputable abbrev q9:=nthC [1,1,1,0,1,0,0,1,0,0,1,1,0,1,0,0] bd
noncomputable abbrev q4:=nthC [1,1,1,0,1,0,0] bd
end s_l32Graph
namespace s_DrawAllRunsHold
noncomputable abbrev bd:=bodyOf Tryd.f29
end s_DrawAllRunsHold
namespace s_DrawCounterRun
noncomputable abbrev bd:=bodyOf Tryd.f35
end s_DrawCounterRun
end Go.Proofs.YtjafncnjefnloaaDoor.Den

namespace Go.Proofs.YtjafncnjefnloaaDoor.Den
open Go.RowKit
section
variable {gL : Cur → Int → Option (Int × Cur)} {gO : Cur → Int → Option (Bool × Cur)} {gD : Cur → Int → Option (Fm × Cur)}
end
end Go.Proofs.YtjafncnjefnloaaDoor.Den

namespace Go.Proofs.YtjafncnjefnloaaDoor.Den
open Go.RowKit
end Go.Proofs.YtjafncnjefnloaaDoor.Den
