/-
  Texts that the claim rests on, merged: FormData, FormOk.
-/
import Derived.Test.YtjafncnjefnloaaDoorZRowCr1

namespace Go.Proofs.YtjafncnjefnloaaDoor
open Go.RowKit
structure Fm where
 kind:Int
 prop:Int
 kids:List Fm
theorem Fm.induct {p:Fm->Prop} (h:∀k q kids,(∀x∈kids,p x)->p ⟨k,q,kids⟩) (f:Fm):p f:=by
 match f with
 |⟨k,q,kids⟩=>exact h k q kids fun x hx=>Fm.induct h x
termination_by f
decreasing_by
 have:=List.sizeOf_lt_of_mem hx
 simp only[Fm.mk.sizeOf_spec]
 omega
def Fm.d (f:Fm):D:=
 match f with
 |⟨_,_,kids⟩=>.row kids.length (kids.attach.flatMap fun⟨x,_⟩=>[.lit (.int .i64 x.kind),.lit (.int .i64 x.prop),Fm.d x])
termination_by f
decreasing_by
 rename_i hx
 have:=List.sizeOf_lt_of_mem hx
 simp only[Fm.mk.sizeOf_spec]
 omega
def Fm.total (f:Fm):Nat:=
 match f with
 |⟨_,_,kids⟩=>kids.length+(kids.attach.map fun⟨x,_⟩=>Fm.total x).sum
termination_by f
decreasing_by
 rename_i hx
 have:=List.sizeOf_lt_of_mem hx
 simp only[Fm.mk.sizeOf_spec]
 omega
def totals (fs:List Fm):Nat:=fs.length+(fs.map Fm.total).sum
theorem Fm.total_eq (f:Fm):f.total=totals f.kids:=by
 obtain⟨k,q,kids⟩:=f
 rw[Fm.total]
 show _=kids.length+(kids.map Fm.total).sum
 congr 1
 have:(fun(x:{x // x∈kids})=>match x with|⟨x,_⟩=>Fm.total x)=fun x:{x // x∈kids}=>Fm.total x.1:=by
  funext x;rfl
 rw[this]
 conv=>rhs;rw[<-List.attach_map_subtype_val kids,List.map_map]
 rfl
end Go.Proofs.YtjafncnjefnloaaDoor

namespace Go.Proofs.YtjafncnjefnloaaDoor
def arity (k:Int):Int:=if k=1\/k=2 then 0 else if k=3\/k=6 then 1 else if k=4\/k=5\/k=7 then 2 else -1
def okHead (k q:Int) (n:Nat):Prop:=arity k=n/\0<=q/\q<=7/\(k=2\/q=0)
instance (k q : Int) (n : Nat) : Decidable (okHead k q n) := by unfold okHead; infer_instance
def Fm.ok (f:Fm):Bool:=
 match f with
 |⟨k,q,kids⟩=>decide (okHead k q kids.length)&&(kids.attach.all fun⟨x,_⟩=>Fm.ok x)
termination_by f
decreasing_by
 rename_i hx
 have:=List.sizeOf_lt_of_mem hx
 simp only[Fm.mk.sizeOf_spec]
 omega
theorem Fm.ok_eq (k q:Int) (kids:List Fm):Fm.ok ⟨k,q,kids⟩=(decide (okHead k q kids.length)&&kids.all Fm.ok):=by
 rw[Fm.ok]
 congr 1
 conv=>rhs;rw[<-List.attach_map_subtype_val kids,List.all_map]
 rfl
def Fm.size (f:Fm):Nat:=f.total+1
def isFormula (f:Fm):Bool:=decide (f.size<=12)&&f.ok
theorem Fm.size_eq (f:Fm):f.size=1+(f.kids.map Fm.size).sum:=by
 unfold Fm.size
 rw[Fm.total_eq]
 unfold totals
 have:∀l:List Fm,(l.map fun f=>f.total+1).sum=l.length+(l.map Fm.total).sum:=fun l=>by
  induction l with
  |nil=>rfl
  |cons x l ih=>simp only[List.map_cons,List.sum_cons,List.length_cons,ih];omega
 rw[this]
 omega
end Go.Proofs.YtjafncnjefnloaaDoor
