import Derived.Test.YtkinkfieackmdaaGreatZRowStr13
namespace Go.Proofs.YtkinkfieackmdaaGreat.Den
open Go.RowKit
set_option maxRecDepth 100000
set_option linter.unusedVariables false
namespace z62
noncomputable abbrev bd:=bodyOf Tryz.f123
end z62
namespace z60
noncomputable abbrev bd:=bodyOf Tryz.f162
noncomputable abbrev q3:=nthC [1,1,1,0,0,0] bd
end z60
namespace z63
noncomputable abbrev bd:=bodyOf Tryz.f163
end z63
namespace z5y
noncomputable abbrev bd:=bodyOf Tryz.f164
noncomputable abbrev q2:=nthC [1,0,1,0,0] bd
end z5y
namespace z61
noncomputable abbrev bd:=bodyOf Tryz.f122
noncomputable abbrev q3:=nthC [1,1,0,1,0] bd
noncomputable abbrev q6:=nthC [1,1,1,0,1,0,0] bd
noncomputable abbrev q8:=nthC [1,1,1,0,1,0,1,1] bd
noncomputable abbrev q11:=nthC [1,1,1,1,1,0,1,0,0] bd
noncomputable abbrev q22:=nthC [1,1,1,1,1,1,1,1,0,1,0] bd
end z61
namespace z4q
noncomputable abbrev bd:=bodyOf Tryz.f76
end z4q
end Go.Proofs.YtkinkfieackmdaaGreat.Den
