import Derived.Test.YtkinkfieackmdaaGreatZRowStr13
namespace Go.Proofs.YtkinkfieackmdaaGreat.Den
open Go.RowKit
set_option maxRecDepth 100000
set_option linter.unusedVariables false
namespace z6m
noncomputable abbrev bd:=bodyOf Tryz.f230
noncomputable abbrev q1:=nthC [1,0,0] bd
end z6m
namespace z6k
noncomputable abbrev bd:=bodyOf Tryz.f229
noncomputable abbrev q2:=nthC [1,1,0,0,0] bd
end z6k
namespace z6n
noncomputable abbrev bd:=bodyOf Tryz.f228
noncomputable abbrev q3:=nthC [0,1,0,1,1,0,0,0] bd
noncomputable abbrev q9:=nthC [0,1,0,1,1,1,0,1,0,0] bd
noncomputable abbrev q15:=nthC [1,0,1,0,1,1,0,0,0] bd
end z6n
namespace z6j
noncomputable abbrev bd:=bodyOf Tryz.f202
noncomputable abbrev q6:=nthC [1,0,0,1,0,0,1,0,0,1] bd
noncomputable abbrev q4:=nthC [1,0,0,1,0,0,1,0,0] bd
noncomputable abbrev q1:=nthC [1,0,0] bd
end z6j
namespace z6l
noncomputable abbrev bd:=bodyOf Tryz.f224
noncomputable abbrev q2:=nthC [1,1,0,0,0] bd
noncomputable abbrev q9:=nthC [1,1,1,1,0,0,1,0,1,0,0,0] bd
noncomputable abbrev q7:=nthC [1,1,1,1,0,0] bd
end z6l
namespace z6i
noncomputable abbrev bd:=bodyOf Tryz.f216
end z6i
namespace z0v
noncomputable abbrev bd:=bodyOf Tryz.f196
noncomputable abbrev q12:=nthC [1,1,1,1,0,1,0,0,1,1,0,0,1,1,0,1,1] bd
noncomputable abbrev q6:=nthC [1,1,1,1,0,1,0,0] bd
noncomputable abbrev q4:=nthC [1,1,1] bd
end z0v
end Go.Proofs.YtkinkfieackmdaaGreat.Den
