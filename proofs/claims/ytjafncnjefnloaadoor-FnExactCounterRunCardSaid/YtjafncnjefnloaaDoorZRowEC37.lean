/-
  Texts that the claim rests on, merged: PW, DrG.
-/
import Derived.Test.YtjafncnjefnloaaDoorZRowEC14
import Derived.Test.YtjafncnjefnloaaDoorZRowEC35
import Derived.Test.YtjafncnjefnloaaDoorZRowEC36

namespace Go.Proofs.YtjafncnjefnloaaDoor.Den
open Go.RowKit
set_option maxRecDepth 100000
set_option linter.unusedVariables false
namespace l_big
noncomputable abbrev bd:=bodyOf Tryd.f28
end l_big
namespace l_at0
noncomputable abbrev bd:=bodyOf Tryd.f62
end l_at0
namespace l_ints
noncomputable abbrev bd:=bodyOf Tryd.f36
noncomputable abbrev q4:=nthC [1,1,0,1,0,0] bd
end l_ints
namespace l_walk
noncomputable abbrev bd:=bodyOf Tryd.f31
noncomputable abbrev q14:=nthC [1,1,0,1,0,0,1,0,0,1,1,1,1,0,1,0,0,1,0,0,1,0] bd
noncomputable abbrev q11:=nthC [1,1,0,1,0,0,1,0,0,1,1,1,1,0,1,0,0] bd
noncomputable abbrev q9:=nthC [1,1,0,1,0,0,1,0,0,1,1,1] bd
noncomputable abbrev q3:=nthC [1,1,0,1,0,0] bd
end l_walk
end Go.Proofs.YtjafncnjefnloaaDoor.Den

namespace Go.Proofs.YtjafncnjefnloaaDoor.Den
open Go.RowKit
open Classical
section
variable {gL : Cur → Int → Option (Int × Cur)} {gO : Cur → Int → Option (Bool × Cur)} {gM : Cur → Int → Option (List Int × Cur)}
end
def bytesOk (code:List Int):Prop:=code.length<=1048576/\∀x∈code,0<=x/\x<=255
def At0P (g:List Int->Int->Option Int):Prop:=∀code i,(bytesOk code/\0<=i/\i<=100)->∃r,g code i=some r/\0<=r
section
variable {R : Type} {gA : List Int → Int → Option Int} (hA : At0P gA) {code : List Int} (hb : bytesOk code) {g : Gr} (hg : graphOk g) (n : Nat)
end
end Go.Proofs.YtjafncnjefnloaaDoor.Den
