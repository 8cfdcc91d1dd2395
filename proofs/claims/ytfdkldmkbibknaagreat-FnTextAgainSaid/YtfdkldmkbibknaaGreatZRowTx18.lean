import Derived.Test.YtfdkldmkbibknaaGreatZRowTx13
namespace Go.Proofs.YtfdkldmkbibknaaGreat.Den
open Go.RowKit
open Classical
theorem aC (f:Tm):f.total=f.name.size+ae f.args:=Tm.total_eq f
theorem Tm.eta (t:Tm):Tm.mk t.op t.name t.sort t.args=t:=by cases t;rfl
theorem bP (x:Tm) (l:List Tm):ae (x::l)=1+x.total+ae l:=by unfold ae;simp only[List.length_cons,List.map_cons,List.sum_cons];omega
theorem dI :ae []=0:=rfl
theorem gG {x:Tm} {l:List Tm} (h:x∈l):x.total<ae l:=by
 induction l with
 |nil=>simp at h
 | cons y l ih =>
  rw[bP];rcases List.mem_cons.1 h with rfl|h
  ·omega
  ·have:=ih h;omega
theorem aV (l:List Tm):l.length<=ae l:=by unfold ae;omega
end Go.Proofs.YtfdkldmkbibknaaGreat.Den
