import Derived.Test.YtfdkldmkbibknaaGreatZRowTx1
namespace Go.Proofs.YtfdkldmkbibknaaGreat
open Go.RowKit
structure Fm where
 kind:Int
 prop:Int
 kids:List Fm
def Fm.d (f:Fm):D:=
 match f with
 |⟨_,_,kids⟩=>.row kids.length (kids.attach.flatMap λ⟨x,_⟩=>[.lit (.int .i64 x.kind),.lit (.int .i64 x.prop),Fm.d x])
termination_by f
decreasing_by
 rename_i hx;have:=List.sizeOf_lt_of_mem hx;simp only[Fm.mk.sizeOf_spec];omega
end Go.Proofs.YtfdkldmkbibknaaGreat
