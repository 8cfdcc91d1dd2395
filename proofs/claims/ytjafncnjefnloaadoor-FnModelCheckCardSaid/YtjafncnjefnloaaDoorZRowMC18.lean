/-
  Texts that the claim rests on, merged: Below, Lib, Fm2, Fm3.
-/
import Derived.Test.YtjafncnjefnloaaDoorZRowMC5
import Derived.Test.YtjafncnjefnloaaDoorZRowMC11
import Derived.Test.YtjafncnjefnloaaDoorZRowMC16
import Derived.Test.YtjafncnjefnloaaDoorZRowMC17

namespace Go.Proofs.YtjafncnjefnloaaDoor.Abs
open Go.RowKit
theorem HR.below {ι:List Inf} {I:Nat->Prop} {w w':World} {h:Heap} (hh:HR ι I w h) (hI:∀b,I b->b<w.heap.size) (hb:Below w.heap.size w w'):HR ι I w' h:=
 have hk:Keeps I I w w':=⟨fun _ h=>h,fun b o hb'=>hb.cell (p:=⟨b,o,none⟩) (hI b hb')⟩
 { len := hh.len
   obj := fun id o inf h1 h2 => by
     have ho:=hh.obj id o inf h1 h2
     have hlt:inf.block<w.heap.size:=by
       cases o with
       | row s es =>
         obtain⟨cur,t,e,_⟩:=ho
         rcases Nat.lt_or_ge inf.block w.heap.size with h|h
         · exact h
         · rw[Array.getElem?_eq_none h]at e;cases e
       | map kvs =>
         obtain⟨cur,t,e,_⟩:=ho
         rcases Nat.lt_or_ge inf.block w.heap.size with h|h
         · exact h
         · rw[Array.getElem?_eq_none h]at e;cases e
     exact ho.keep (Grows.refl _) hk (hb.block _ hlt)
   off:=hh.off
   inj:=hh.inj}
theorem fn_of_below {P:Program} {f:FuncId} {xs:List AV} {h:Heap} {u:Value} (hc:callable P f) (hu:okLit u)
  (hh:∀(w:World) (I:Nat->Prop) (ι:List Inf) (cs:Array Value),(∀b,I b->b<w.heap.size)->ARs ι I w xs cs->Calls P f cs w fun e w'=>e= .returned u/\Below w.heap.size w w'):Fn P f xs h (fun r h'=>r= .one (.lit u)/\h'=h):=
 ⟨hc, fun w I ι cs hH hI hA => (hh w I ι cs hI hA).mono fun _ _ ⟨e1, hb⟩ => ⟨_, _, ι, I, u, ⟨rfl, rfl⟩, e1,
  { res := .one (.lit hu)
    heap:=hH.below hI hb
    imm:=fun b hb'=>Nat.lt_of_lt_of_le (hI b hb') hb.size
    immlo:=fun _ hb'=>.inl hb'
    pre:=Grows.refl _
    os:=hb.os
    tape:=hb.tape
    output:=hb.output
    grown:=hb.size
    frame:=fun b hlt _=>hb.block b hlt
    mine:=fun id o inf h1 h2=>.inl ⟨id,o,inf,h1,h2,rfl⟩}⟩⟩
end Go.Proofs.YtjafncnjefnloaaDoor.Abs

namespace Go.Proofs.YtjafncnjefnloaaDoor.Den
open Go.RowKit
open Abs (V AV VR)
def joinB (xs:List ByteArray) (sep:ByteArray):ByteArray:=⟨(Lib.join (xs.map (·.data.toList)) sep.data.toList).toArray⟩
noncomputable def joinF (xs:List ByteArray) (sep:ByteArray):Option ByteArray:=if xs.length<=140737488355328/\(Lib.join (xs.map (·.data.toList)) sep.data.toList).length<=140737488355328 then some (joinB xs sep)else none
def itoaF (n:Int):Option ByteArray:=if 0<=n/\n<100 then some ⟨(Lib.decDigits n.toNat).toArray⟩else none
theorem fr_s {c:C} {v:V} {x:ByteArray} (h:FR c v) (e:c= .s x):v= .lit (.string x):=by
 cases h with
 |s=>cases e;rfl
 |i=>cases e
 |k=>cases e
 |b=>cases e
 |l=>cases e
theorem vr_lit {ι:List Abs.Inf} {I:Nat->Prop} {w:World} {x c:Value} (h:VR I w ι (.lit x) c):c=x:=by
 cases h with
 |lit _=>rfl
theorem CR.strs {ρ:Rho} {H:List Ob} {xs:List ByteArray} {v:V} (h:CR ρ H (.l .s xs) v):∃es:List (List V),v= .imm 1 es/\es.length=xs.length/\∀(m:Nat) (h1:m<xs.length) (h2:m<es.length) (h3:0<es[m].length),es[m][0]= .lit (.string xs[m]):=by
 cases h with
 | fl h =>
  cases h with
  | l hp hl hs hr =>
   refine⟨_,rfl,hl,fun m h1 h2 h3=> ?_⟩
   have:=hr m h1 h2 0 (by show 0<[C.s _].length;simp) h3
   exact fr_s this rfl
theorem CR.str_ {ρ:Rho} {H:List Ob} {x:ByteArray} {v:V} (h:CR ρ H (.s x) v):v= .lit (.string x):=by
 cases h with
 |fl h=>cases h;rfl
theorem CR.int_ {ρ:Rho} {H:List Ob} {x:Int} {v:V} (h:CR ρ H (.i x) v):v= .lit (.int .i64 x):=by
 cases h with
 |fl h=>cases h;rfl
theorem cfn_of_below {P:Program} {f:FuncId} {xs:List AT} {u:Value} {c:C} (hcl:Abs.callable P f) (hu:Abs.okLit u) (hcu:FR c (.lit u))
  (hh:∀(ρ:Rho) (avs:List AV),ATRs ρ [] xs avs->∀(w:World) (I:Nat->Prop) (ι:List Abs.Inf) (cs:Array Value),(∀b,I b->b<w.heap.size)->Abs.ARs ι I w avs cs->Calls P f cs w fun e w'=>e= .returned u/\Below w.heap.size w w'):CFn P f xs [] (.one c) []:=fun ρ h avs hH hA=>
 (Abs.fn_of_below hcl hu (hh ρ avs hA)).mono fun r h' ⟨e1, e2⟩ => by
  subst e1;subst e2
  exact⟨ρ,.one (.fl hcu),hH,Fr.refl ρ [] _⟩
theorem size_le {a:List UInt8} (h:a.length<=140737488355328):(ByteArray.mk a.toArray).size<=maxLen:=by
 unfold maxLen
 simp only[ByteArray.size,List.size_toArray]
 omega
theorem join_cfn (a:List ByteArray) (a2:ByteArray) (hl:a.length<=140737488355328/\(Lib.join (a.map (·.data.toList)) a2.data.toList).length<=140737488355328):CFn Tryd.prog 113 [.one (.l .s a),.one (.s a2)] [] (.one (.s (joinB a a2))) []:=by
 refine cfn_of_below (u:=.string (joinB a a2)) ⟨Tryd.f113,Tryd.func113,by kernel_rfl,by kernel_rfl⟩ ?_ .s fun ρ avs hA w I ι cs hI hAr=> ?_
 ·exact size_le hl.2
 ·obtain⟨hA1,hA2⟩:=hA
  match avs,hA1 with
  | [x, y], _ =>
   have ex:=hA2 0 (by simp) (by simp)
   have ey:=hA2 1 (by simp) (by simp)
   simp only[List.getElem_cons_zero,List.getElem_cons_succ]at ex ey
   cases ex with
   |one ex=>
   cases ey with
   |one ey=>
   obtain⟨es,rfl,e1,e2⟩:=ex.strs
   have ey:=ey.str_
   subst ey
   obtain⟨p,rfl,p1,p2⟩:∃p:Value×Value,cs= #[p.1,p.2]/\Abs.AR ι I w (.one (.imm 1 es)) p.1/\Abs.AR ι I w (.one (.lit (.string a2))) p.2:=by
    obtain⟨h1,h2⟩:=hAr
    obtain⟨u,u1,u2⟩:=h2 0 (by simp)
    obtain⟨z,z1,z2⟩:=h2 1 (by simp)
    rcases cs with⟨l⟩
    match l,h1 with
    |[p,q],_=>simp at u1 z1;subst u1;subst z1;exact⟨(p,q),rfl,u2,z2⟩
   obtain⟨p,q⟩:=p
   cases p1 with
   |one p1=>
   cases p2 with
   |one p2=>
   cases p2 with
   |lit _=>
   cases p1 with
   | imm0 hc =>
    have:a=[]:=List.eq_nil_of_length_eq_zero (by rw[<-e1];rfl)
    subst this
    refine(Tryd.strings_Join_none _ _ a2 w).mono fun e w' ⟨k1,k2⟩=>⟨k1,?_⟩
    subst k2
    exact Below.refl _ _
   | @imm _ _ b off c _ f hs hc hm hI' hcell hr =>
    have key:∀(j:Nat) x,a[j]? =some x->w.cell? ⟨b,off+j,none⟩=some (.string x):=fun j x hx=>by
     have hj:j<a.length:=(List.getElem?_eq_some_iff.1 hx).1
     have hj':j<es.length:=by omega
     have hl1:=hs es[j] (List.getElem_mem hj')
     have hc1:=hcell j 0 hj' (by omega)
     have hr1:=hr j hj' 0 (by omega)
     rw[e2 j hj hj' (by omega)]at hr1
     have:f j 0= .string a[j]:=vr_lit hr1
     rw[this]at hc1
     rw[List.getElem?_eq_getElem hj]at hx
     cases hx
     simpa using hc1
    have:=Tryd.strings_Join b off c a a2 w key (hI b hI') hl.1 (by omega) hl.2
    rw[e1]
    exact this
theorem strings_Join_ok :EntOK Tryd.prog (strings_Join.ent joinF):=fun R xs H K r hc=>by
 simp only[strings_Join.ent]at hc
 split at hc
 ·rename_i a a2
  obtain⟨r,q1,q2⟩:=bind_some hc
  unfold joinF at q1
  split at q1
  ·rename_i hl
   cases q1
   exact⟨_,_,q2,join_cfn a a2 hl⟩
  ·cases q1
 ·cases hc
theorem strconv_Itoa_ok :EntOK Tryd.prog (strconv_Itoa.ent itoaF):=fun R xs H K r hc=>by
 simp only[strconv_Itoa.ent]at hc
 split at hc
 ·rename_i a
  obtain⟨r,q1,q2⟩:=bind_some hc
  unfold itoaF at q1
  split at q1
  ·rename_i hl
   cases q1
   refine⟨_,_,q2,cfn_of_below (u:=.string ⟨(Lib.decDigits a.toNat).toArray⟩) ⟨Tryd.f118,Tryd.func118,by kernel_rfl,by kernel_rfl⟩ ?_ .s fun ρ avs hA w I ι cs hI hAr=> ?_⟩
   ·refine size_le ?_
    unfold Lib.decDigits
    split
    ·simp
    ·unfold Lib.decDigits
     split
     ·simp
     ·omega
   ·obtain⟨hA1,hA2⟩:=hA
    match avs,hA1 with
    | [x], _ =>
     have ex:=hA2 0 (by simp) (by simp)
     simp only[List.getElem_cons_zero]at ex
     cases ex with
     |one ex=>
     have ex:=ex.int_
     subst ex
     obtain⟨h1,h2⟩:=hAr
     obtain⟨u,u1,u2⟩:=h2 0 (by simp)
     rcases cs with⟨l⟩
     match l,h1 with
     | [p], _ =>
      simp at u1
      subst u1
      cases u2 with
      |one u2=>
      cases u2 with
      |lit _=>
      have:=Tryd.strconv_Itoa_small a.toNat (by omega) w
      rw[Int.toNat_of_nonneg hl.1]at this
      exact this.mono fun e w' ⟨k1,k2⟩=>⟨k1,by subst k2;exact Below.refl _ _⟩
  ·cases q1
 ·cases hc
end Go.Proofs.YtjafncnjefnloaaDoor.Den

namespace Go.Proofs.YtjafncnjefnloaaDoor.Den
open Go.RowKit

-- strings of bytes
theorem push_fold {g:Int->UInt8}:∀(l:List Int) (acc:ByteArray),(l.foldl (fun r n=>r.push (g n)) acc).data.toList=acc.data.toList++l.map g
 |[],acc=>by simp
 | x :: l, acc => by
  rw[List.foldl_cons,push_fold l]
  simp[ByteArray.push]
theorem sOf_list (l:List Int):(sOf l).data.toList=l.map fun n=>UInt8.ofNat n.toNat:=by
 unfold sOf
 rw[push_fold]
 rfl
theorem ofS_back (s:ByteArray):(ofS s).map (fun n=>UInt8.ofNat n.toNat)=s.data.toList:=by
 unfold ofS
 rw[List.map_map]
 conv=>rhs;rw[<-List.map_id s.data.toList]
 refine List.map_congr_left fun b _=> ?_
 simp
theorem ba_ext {a b:ByteArray} (h:a.data.toList=b.data.toList):a=b:=by
 cases a with
 | mk a => cases b with
  |mk b=>congr 1;exact Array.toList_inj.1 h
theorem ba_app (a b:ByteArray):(a++b).data.toList=a.data.toList++b.data.toList:=by simp
theorem ba_size (a:ByteArray):a.size=a.data.toList.length:=by cases a;rfl
theorem ofS_len (s:ByteArray):(ofS s).length=s.size:=by unfold ofS;rw[List.length_map,ba_size]
theorem sOf_ofS (s:ByteArray):sOf (ofS s)=s:=ba_ext (by rw[sOf_list,ofS_back])
theorem sOf_app (a b:List Int):sOf (a++b)=sOf a++sOf b:=ba_ext (by rw[ba_app,sOf_list,sOf_list,sOf_list,List.map_append])
theorem app_size (a b:ByteArray):(a++b).size=a.size+b.size:=by rw[ba_size,ba_app,List.length_append,<-ba_size,<-ba_size]
theorem sCat_eq {a b:ByteArray} (h:a.size+b.size<=1099511627776):sCat a b=some (a++b):=by
 unfold sCat
 rw[decide_eq_true h];rfl
theorem joinB_one (a sep:ByteArray):joinB [a] sep=a:=ba_ext (by simp[joinB,Lib.join_one])
theorem joinB_two (a b sep:ByteArray):joinB [a,b] sep=a++sep++b:=ba_ext (by
 rw[ba_app,ba_app]
 simp[joinB,Lib.join,List.intercalate])
theorem joinF_eq {xs:List ByteArray} {sep:ByteArray} (h1:xs.length<=140737488355328) (h2:(joinB xs sep).size<=140737488355328):joinF xs sep=some (joinB xs sep):=by
 unfold joinF
 rw[if_pos ⟨h1,by rw[ba_size]at h2;exact h2⟩]

-- the texts
def sep2 :ByteArray:=ByteArray.mk #[44,32]
def word (k:Int):ByteArray:=if k=3 then ByteArray.mk #[110,111,116]else if k=4 then ByteArray.mk #[97,110,100]else if k=5 then ByteArray.mk #[111,114]else if k=6 then ByteArray.mk #[110,101,120,116]else ByteArray.mk #[117,110,116,105,108]
def numB (q:Int):ByteArray:=⟨(Lib.decDigits q.toNat).toArray⟩
theorem numB_eq {q:Int} (h:0<=q/\q<=7):numB q=⟨#[UInt8.ofNat (48+q.toNat)]⟩:=by
 unfold numB
 rw[Lib.decDigits,dif_pos (by omega)]
theorem word_size (k:Int):(word k).size<=5:=by
 unfold word
 split
 ·decide
 split
 ·decide
 split
 ·decide
 split
 ·decide
 ·decide
def Fm.text (f:Fm):ByteArray:=
 match f with
 |⟨k,q,kids⟩=>if k=1 then ByteArray.mk #[116,114,117,101]else if k=2 then ByteArray.mk #[112]++numB q else word k++ByteArray.mk #[40]++joinB (kids.attach.map fun⟨x,_⟩=>Fm.text x) sep2++ByteArray.mk #[41]
termination_by f
decreasing_by
 rename_i hx
 have:=List.sizeOf_lt_of_mem hx
 simp only[Fm.mk.sizeOf_spec]
 omega
theorem text_eq (f:Fm):Fm.text f=if f.kind=1 then ByteArray.mk #[116,114,117,101]else if f.kind=2 then ByteArray.mk #[112]++numB f.prop else word f.kind++ByteArray.mk #[40]++joinB (f.kids.map Fm.text) sep2++ByteArray.mk #[41]:=by
 obtain⟨k,q,kids⟩:=f
 rw[Fm.text]
 have:(kids.attach.map fun(x:{x // x∈kids})=>match x with|⟨x,_⟩=>Fm.text x)=kids.map Fm.text:=by
  conv=>rhs;rw[<-List.attach_map_subtype_val kids,List.map_map]
  rfl
 rw[this]
theorem ok_cases {f:Fm} (h:f.ok=true):(f.kind=1/\f.kids=[])\/(f.kind=2/\f.kids=[]/\0<=f.prop/\f.prop<=7)\/((f.kind=3\/f.kind=6)/\∃a,f.kids=[a]/\a.ok=true)\/((f.kind=4\/f.kind=5\/f.kind=7)/\∃a b,f.kids=[a,b]/\a.ok=true/\b.ok=true):=by
 rw[ok_parts_eq,Bool.and_eq_true,decide_eq_true_eq]at h
 obtain⟨⟨h1,h2,h3,h4⟩,h5⟩:=h
 rw[List.all_eq_true]at h5
 unfold arity at h1
 by_cases c1:f.kind=1\/f.kind=2
 ·rw[if_pos c1]at h1
  have:f.kids=[]:=List.eq_nil_of_length_eq_zero (by omega)
  rcases c1 with c|c
  ·exact .inl ⟨c,this⟩
  ·exact .inr (.inl ⟨c,this,h2,h3⟩)
 ·rw [if_neg c1] at h1
  by_cases c2:f.kind=3\/f.kind=6
  ·rw[if_pos c2]at h1
   refine .inr (.inr (.inl ⟨c2,?_⟩))
   match hk:f.kids,h1 with
   |[a],_=>exact⟨a,rfl,h5 a (by rw[hk];simp)⟩
  ·rw[if_neg c2]at h1
   by_cases c3:f.kind=4\/f.kind=5\/f.kind=7
   ·rw[if_pos c3]at h1
    refine .inr (.inr (.inr ⟨c3,?_⟩))
    match hk:f.kids,h1 with
    |[a,b],_=>exact⟨a,b,rfl,h5 a (by rw[hk];simp),h5 b (by rw[hk];simp)⟩
   ·rw[if_neg c3]at h1
    omega
theorem text_size :∀(n:Nat) (f:Fm),f.size<=n->f.ok=true->(Fm.text f).size<=16*f.size:=by
 intro n
 induction n with
 |zero=>intro f h;rw[Fm.size_eq]at h;omega
 | succ n ih =>
  intro f hn hf
  have hw:=word_size f.kind
  have s1:(ByteArray.mk #[40]).size=1:=rfl
  have s2:(ByteArray.mk #[41]).size=1:=rfl
  have s3:sep2.size=2:=rfl
  have hs:=Fm.size_eq f
  rw[text_eq]
  rcases ok_cases hf with⟨c,_⟩|⟨c,_,q0,q1⟩|⟨c,a,hk,ha⟩|⟨c,a,b,hk,ha,hb⟩
  ·rw[if_pos c]
   show 4<=_
   omega
  ·rw[if_neg (by omega),if_pos c,app_size,numB_eq ⟨q0,q1⟩]
   show 1+1<=_
   omega
  ·rw[if_neg (by omega),if_neg (by omega),hk]
   rw[hk]at hs
   simp only[List.map_cons,List.map_nil,List.sum_cons,List.sum_nil]at hs ⊢
   rw[joinB_one,app_size,app_size,app_size,s1,s2]
   have:=ih a (by omega) ha
   omega
  ·rw[if_neg (by omega),if_neg (by omega),hk]
   rw[hk]at hs
   simp only[List.map_cons,List.map_nil,List.sum_cons,List.sum_nil]at hs ⊢
   rw[joinB_two,app_size,app_size,app_size,app_size,app_size,s1,s2,s3]
   have:=ih a (by omega) ha
   have:=ih b (by omega) hb
   omega
end Go.Proofs.YtjafncnjefnloaaDoor.Den

namespace Go.Proofs.YtjafncnjefnloaaDoor.Den
open Go.RowKit
abbrev gText (k:Nat):Fm->Option ByteArray:=fun f=>if f.size<=k/\f.size<=13/\f.ok=true then some (Fm.text f)else none
abbrev gNum :Int->Option ByteArray:=fun q=>if 0<=q/\q<=7 then some (numB q)else none
theorem i_FormatInt_ok :EntOK Tryd.prog (i_FormatInt.ent gNum):=i_FormatInt.ok (G:=⟨itoaF⟩) ⟨strconv_Itoa_ok,trivial⟩ fun q r h=>by
 unfold gNum at h
 split at h
 ·rename_i hq
  cases h
  refine⟨1,?_⟩
  unfold i_FormatInt.main
  show Option.bind (itoaF q) _=_
  unfold itoaF
  rw[if_pos (by omega)]
  rfl
 ·cases h
theorem s_FormatInt_ok :EntOK Tryd.prog (s_FormatInt.ent gNum):=s_FormatInt.ok (G:=⟨()⟩) trivial fun q r h=>by
 unfold gNum at h
 split at h
 ·rename_i hq
  cases h
  refine⟨9,?_⟩
  rw[numB_eq hq]
  have hc:q=0\/q=1\/q=2\/q=3\/q=4\/q=5\/q=6\/q=7:=by omega
  rcases hc with rfl|rfl|rfl|rfl|rfl|rfl|rfl|rfl<;>(refine Eq.trans (b:=some (AT.one (.s _),[])) ?_ rfl;kernel_rfl)
 ·cases h
def smallJ :List ByteArray->Bool
 |[a]=>decide (a.size<=1000)
 |[a,b]=>decide (a.size<=1000)&&decide (b.size<=1000)
 |_=>false
theorem smallJ_cases :∀{xs:List ByteArray},smallJ xs=true->(∃a,xs=[a]/\a.size<=1000)\/∃a b,xs=[a,b]/\a.size<=1000/\b.size<=1000
 |[a],h=>.inl ⟨a,rfl,of_decide_eq_true h⟩
 | [a, b], h => by
  simp only[smallJ,Bool.and_eq_true,decide_eq_true_eq]at h
  exact .inr ⟨a,b,rfl,h⟩
abbrev gJoin :List ByteArray->ByteArray->Option ByteArray:=fun xs sep=>if sep=sep2/\smallJ xs=true then some (joinB xs sep)else none
section
variable {R : Type}
theorem c7_eq {n:Nat} {xs:List ByteArray} {sep e:ByteArray} {i:Int} {h:List Int} (hx:ix xs i=some e) (hl:h.length+e.size<=1048576) (k0:ByteArray->Option R) (k1:List ByteArray->ByteArray->Int->List Int->Option R):s_Join.c7 ⟨()⟩ n xs sep i h k0 k1=k1 xs sep i (h++ofS e):=by
 unfold s_Join.c7
 have e1:(List.append h (ofS e))=h++ofS e:=rfl
 rw[hx,Option.bind_some,e1,lim_eq (by rw[List.length_append,ofS_len];omega),Option.bind_some,decide_eq_false (by rw[List.length_append,ofS_len];omega),cond_false]
theorem join_one_main (a sep:ByteArray) (ha:a.size<=1000) (K:ByteArray->Option R):s_Join.main ⟨()⟩ 4 [a] sep K=K a:=by
 show s_Join.b3 ⟨()⟩ 4 [a] sep 0 [] (fun y0 y1 y2 y3=>s_Join.l3 ⟨()⟩ 4 3 y0 y1 y2 y3 (fun t4=>K t4) (fun h0=>K (sOf h0))) (fun t4=>K t4) (fun h0=>K (sOf h0))=_
 unfold s_Join.b3
 rw[decide_eq_true (by simp),cond_true,decide_eq_false (by omega),cond_false,c7_eq (e:=a) rfl (by simp;omega),List.nil_append]
 show s_Join.b3 ⟨()⟩ 4 [a] sep (wr (0+1)) (ofS a) (fun y0 y1 y2 y3=>s_Join.l3 ⟨()⟩ 4 2 y0 y1 y2 y3 (fun t4=>K t4) (fun h0=>K (sOf h0))) (fun t4=>K t4) (fun h0=>K (sOf h0))=_
 unfold s_Join.b3
 rw[wr_in (by omega),decide_eq_false (by simp),cond_false]
 show K (sOf (ofS a))=_
 rw[sOf_ofS]
theorem join_two_main (a b sep:ByteArray) (ha:a.size<=1000) (hb:b.size<=1000) (hs:sep.size<=1000) (K:ByteArray->Option R):s_Join.main ⟨()⟩ 4 [a,b] sep K=K (a++sep++b):=by
 show s_Join.b3 ⟨()⟩ 4 [a,b] sep 0 [] (fun y0 y1 y2 y3=>s_Join.l3 ⟨()⟩ 4 3 y0 y1 y2 y3 (fun t4=>K t4) (fun h0=>K (sOf h0))) (fun t4=>K t4) (fun h0=>K (sOf h0))=_
 unfold s_Join.b3
 rw[decide_eq_true (by simp),cond_true,decide_eq_false (by omega),cond_false,c7_eq (e:=a) rfl (by simp;omega),List.nil_append]
 show s_Join.b3 ⟨()⟩ 4 [a,b] sep (wr (0+1)) (ofS a) (fun y0 y1 y2 y3=>s_Join.l3 ⟨()⟩ 4 2 y0 y1 y2 y3 (fun t4=>K t4) (fun h0=>K (sOf h0))) (fun t4=>K t4) (fun h0=>K (sOf h0))=_
 unfold s_Join.b3
 have e1:(List.append (ofS a) (ofS sep))=ofS a++ofS sep:=rfl
 rw[wr_in (x:=0+1) (by omega),decide_eq_true (by simp),cond_true,decide_eq_true (by omega),cond_true,e1,lim_eq (by rw[List.length_append,ofS_len,ofS_len];omega),Option.bind_some,
  c7_eq (e:=b) rfl (by rw[List.length_append,ofS_len,ofS_len];omega)]
 show s_Join.b3 ⟨()⟩ 4 [a,b] sep (wr (0+1+1)) (ofS a++ofS sep++ofS b) (fun y0 y1 y2 y3=>s_Join.l3 ⟨()⟩ 4 1 y0 y1 y2 y3 (fun t4=>K t4) (fun h0=>K (sOf h0))) (fun t4=>K t4) (fun h0=>K (sOf h0))=_
 unfold s_Join.b3
 rw[wr_in (x:=0+1+1) (by omega),decide_eq_false (by simp),cond_false]
 show K (sOf (ofS a++ofS sep++ofS b))=_
 rw[sOf_app,sOf_app,sOf_ofS,sOf_ofS,sOf_ofS]
end
theorem s_Join_ok :EntOK Tryd.prog (s_Join.ent gJoin):=s_Join.ok (G:=⟨()⟩) trivial fun xs sep r h=>by
 unfold gJoin at h
 split at h
 ·rename_i hc
  cases h
  obtain⟨rfl,hc⟩:=hc
  obtain⟨a,rfl,ha⟩|⟨a,b,rfl,ha,hb⟩:=smallJ_cases hc
  ·exact⟨4,by rw[join_one_main a sep2 ha,joinB_one]⟩
  ·exact⟨4,by rw[join_two_main a b sep2 ha hb (by decide),joinB_two]⟩
 ·cases h
theorem kids_join {f:Fm} (h:f.ok=true) (hs:f.size<=13) (h1:f.kind≠1) (h2:f.kind≠2):gJoin (f.kids.map Fm.text) sep2=some (joinB (f.kids.map Fm.text) sep2)/\joinF (f.kids.map Fm.text) sep2=some (joinB (f.kids.map Fm.text) sep2)/\(joinB (f.kids.map Fm.text) sep2).size<=500/\1<=f.kids.length/\f.kids.length<=2/\3<=f.kind/\f.kind<=7/\∀x∈f.kids,x.ok=true:=by
 have hz:=Fm.size_eq f
 rcases ok_cases h with⟨c,_⟩|⟨c,_,q0,q1⟩|⟨c,a,hk,ha⟩|⟨c,a,b,hk,ha,hb⟩
 ·exact absurd c h1
 ·exact absurd c h2
 ·rw[hk]at hz
  simp only[List.map_cons,List.map_nil,List.sum_cons,List.sum_nil]at hz
  have:=text_size 13 a (by omega) ha
  have hj:(joinB [Fm.text a] sep2).size<=500:=by rw[joinB_one];omega
  rw[hk]
  simp only[List.map_cons,List.map_nil]
  exact⟨if_pos ⟨rfl,decide_eq_true (by omega)⟩,joinF_eq (by simp) (by omega),hj,by simp,by simp,by omega,by omega,fun x hx=>by rw[List.mem_singleton.1 hx];exact ha⟩
 ·rw[hk]at hz
  simp only[List.map_cons,List.map_nil,List.sum_cons,List.sum_nil]at hz
  have:=text_size 13 a (by omega) ha
  have:=text_size 13 b (by omega) hb
  have s3:sep2.size=2:=rfl
  have hj:(joinB [Fm.text a,Fm.text b] sep2).size<=500:=by rw[joinB_two,app_size,app_size];omega
  rw[hk]
  simp only[List.map_cons,List.map_nil]
  exact⟨if_pos ⟨rfl,by simp only[smallJ,Bool.and_eq_true,decide_eq_true_eq];omega⟩,joinF_eq (by simp) (by omega),hj,by simp,by simp,by omega,by omega,fun x hx=>by
   rcases List.mem_cons.1 hx with e|e
   ·rw[e];exact ha
   ·rw[List.mem_singleton.1 e];exact hb⟩
section
variable {R : Type}
theorem itext_loop (n k:Nat) (gF:Int->Option ByteArray) (gJ:List ByteArray->ByteArray->Option ByteArray) (wd:ByteArray) (kids:List Fm) (hk:∀x∈kids,x.size<=k/\x.size<=13/\x.ok=true) (hl:kids.length<=2) (k0:ByteArray->List ByteArray->Option R):∀m (i:Int) (h0:List ByteArray),0<=i->i<=kids.length->h0.length<=i->(kids.length-i).toNat<m->
  i_formulaText.l19 ⟨gF,gText k,gJ⟩ n m wd kids (kids.length:Int) i h0 k0=k0 wd (h0++(kids.drop i.toNat).map Fm.text):=by
 intro m
 induction m with
 |zero=>intro i h0 _ _ _ hm;omega
 | succ m ih =>
  intro i h0 q0 q1 ql hm
  show i_formulaText.b19 ⟨gF,gText k,gJ⟩ n wd kids (kids.length:Int) i h0 (fun y0 y1 y2 y3 y4=>i_formulaText.l19 ⟨gF,gText k,gJ⟩ n m y0 y1 y2 y3 y4 k0) k0=_
  unfold i_formulaText.b19
  by_cases hi:i<(kids.length:Int)
  ·obtain⟨x,x1,x2,x3,_⟩:=drop_step q0 hi
   rw[x3,List.map_cons,decide_eq_true hi,cond_true,x1,Option.bind_some,Fm.eta]
   show Option.bind (gText k x) _=_
   have e:gText k x=some (Fm.text x):=if_pos (hk x x2)
   rw[e,Option.bind_some,lim_eq (by rw[List.length_append,List.length_singleton];omega),Option.bind_some,wr_in (x:=i+1) (by omega)]
   refine(ih (i+1) _ (by omega) (by omega) (by rw[List.length_append,List.length_singleton];omega) (by omega)).trans ?_
   rw[List.append_assoc];rfl
  ·rw[decide_eq_false hi,cond_false,drop_all hi,List.map_nil,List.append_nil]
theorem stext_loop (n k:Nat) (gF:Int->Option ByteArray) (gJ:List ByteArray->ByteArray->Option ByteArray) (wd:ByteArray) (a b:Int) (kids:List Fm) (hk:∀x∈kids,x.size<=k/\x.size<=13/\x.ok=true) (hl:kids.length<=2) (k0:ByteArray->List ByteArray->Option R):∀m (i:Int) (h0:List ByteArray),0<=i->i<=kids.length->h0.length<=i->(kids.length-i).toNat<m->
  s_l31Text.l8 ⟨gF,gText k,gJ⟩ n m wd i a b kids h0 k0=k0 wd (h0++(kids.drop i.toNat).map Fm.text):=by
 intro m
 induction m with
 |zero=>intro i h0 _ _ _ hm;omega
 | succ m ih =>
  intro i h0 q0 q1 ql hm
  show s_l31Text.b8 ⟨gF,gText k,gJ⟩ n wd i a b kids h0 (fun y0 y1 y2 y3 y4 y5=>s_l31Text.l8 ⟨gF,gText k,gJ⟩ n m y0 y1 y2 y3 y4 y5 k0) k0=_
  unfold s_l31Text.b8
  by_cases hi:i<(kids.length:Int)
  ·obtain⟨x,x1,x2,x3,_⟩:=drop_step q0 hi
   rw[x3,List.map_cons,decide_eq_true hi,cond_true,x1,Option.bind_some,Fm.eta]
   show Option.bind (gText k x) _=_
   have e:gText k x=some (Fm.text x):=if_pos (hk x x2)
   rw[e,Option.bind_some,lim_eq (by rw[List.length_append,List.length_singleton];omega),Option.bind_some,wr_in (x:=i+1) (by omega)]
   refine(ih (i+1) _ (by omega) (by omega) (by rw[List.length_append,List.length_singleton];omega) (by omega)).trans ?_
   rw[List.append_assoc];rfl
  ·rw[decide_eq_false hi,cond_false,drop_all hi,List.map_nil,List.append_nil]
theorem cat4 {w j:ByteArray} (h1:w.size<=5) (h2:j.size<=500) (g:Option ByteArray) (hg:g=some j) (K:ByteArray->Option R):(Option.bind (sCat w (ByteArray.mk #[40])) fun q=>Option.bind g fun r=>Option.bind (sCat q r) fun q2=>Option.bind (sCat q2 (ByteArray.mk #[41])) fun q3=>K q3)=K (w++ByteArray.mk #[40]++j++ByteArray.mk #[41]):=by
 have s1:(ByteArray.mk #[40]).size=1:=rfl
 have s2:(ByteArray.mk #[41]).size=1:=rfl
 rw[sCat_eq (by omega),Option.bind_some,hg,Option.bind_some,sCat_eq (by rw[app_size];omega),Option.bind_some,sCat_eq (by rw[app_size,app_size];omega),Option.bind_some]
theorem c17_eq (n k:Nat) (f:Fm) (wd:ByteArray) (hw:wd=word f.kind) (hf:f.ok=true) (hs:f.size<=13) (hk:∀x∈f.kids,x.size<=k) (h1:f.kind≠1) (h2:f.kind≠2) (hn:2<n) (k0:ByteArray->Option R):i_formulaText.c17 ⟨gNum,gText k,joinF⟩ n wd f.kind f.prop f.kids k0=k0 (Fm.text f):=by
 obtain⟨j1,j2,j3,j4,j5,j6,j7,j8⟩:=kids_join hf hs h1 h2
 unfold i_formulaText.c17
 rw[itext_loop n k gNum joinF wd f.kids (fun x hx=>⟨hk x hx,by have:=size_mem hx;omega,j8 x hx⟩) j5 _ n 0 [] (by omega) (by omega) (by simp) (by omega)]
 simp only[Int.toNat_zero,List.drop_zero,List.nil_append]
 rw[text_eq,if_neg h1,if_neg h2,hw]
 exact cat4 (word_size _) j3 _ j2 k0
theorem itext_main (n k:Nat) (f:Fm) (hf:f.ok=true) (hs:f.size<=13) (hk:∀x∈f.kids,x.size<=k) (hn:2<n) (K:ByteArray->Option R):i_formulaText.main ⟨gNum,gText k,joinF⟩ n f K=K (Fm.text f):=by
 unfold i_formulaText.main
 by_cases h1:f.kind=1
 ·rw[decide_eq_true h1,cond_true,text_eq,if_pos h1]
 rw[decide_eq_false h1,cond_false]
 by_cases h2:f.kind=2
 ·rw[decide_eq_true h2,cond_true,text_eq,if_neg h1,if_pos h2]
  rcases ok_cases hf with⟨c,_⟩|⟨c,_,q0,q1⟩|⟨c,a,hk,ha⟩|⟨c,a,b,hk,ha,hb⟩
  ·omega
  ·show Option.bind (gNum f.prop) _=_
   have e:gNum f.prop=some (numB f.prop):=if_pos ⟨q0,q1⟩
   rw[e,Option.bind_some,sCat_eq,Option.bind_some]
   rw[numB_eq ⟨q0,q1⟩]
   show 1+1<=_
   omega
  ·omega
  ·omega
 rw[decide_eq_false h2,cond_false]
 have hc:=fun wd hw=>c17_eq (R:=R) n k f wd hw hf hs hk h1 h2 hn
 obtain⟨_,_,_,_,_,j6,j7,_⟩:=kids_join hf hs h1 h2
 by_cases h3:f.kind=3
 ·rw[decide_eq_true h3,cond_true,hc _ (by rw[h3];rfl)]
 rw[decide_eq_false h3,cond_false]
 by_cases h4:f.kind=4
 ·rw[decide_eq_true h4,cond_true,hc _ (by rw[h4];rfl)]
 rw[decide_eq_false h4,cond_false]
 by_cases h5:f.kind=5
 ·rw[decide_eq_true h5,cond_true,hc _ (by rw[h5];rfl)]
 rw[decide_eq_false h5,cond_false]
 by_cases h6:f.kind=6
 ·rw[decide_eq_true h6,cond_true,hc _ (by rw[h6];rfl)]
 rw[decide_eq_false h6,cond_false]
 have h7:f.kind=7:=by omega
 rw[decide_eq_true h7,cond_true,hc _ (by rw[h7];rfl)]
theorem stext_main (n k:Nat) (f:Fm) (hf:f.ok=true) (hs:f.size<=13) (hk:∀x∈f.kids,x.size<=k) (hn:2<n) (K:ByteArray->Option R):s_l31Text.main ⟨gNum,gText k,gJoin⟩ n f K=K (Fm.text f):=by
 unfold s_l31Text.main
 by_cases h1:f.kind=1
 ·rw[decide_eq_true h1,cond_true,text_eq,if_pos h1]
 rw[decide_eq_false h1,cond_false]
 by_cases h2:f.kind=2
 ·rw[decide_eq_true h2,cond_true,text_eq,if_neg h1,if_pos h2]
  rcases ok_cases hf with⟨c,_⟩|⟨c,_,q0,q1⟩|⟨c,a,hk,ha⟩|⟨c,a,b,hk,ha,hb⟩
  ·omega
  ·show Option.bind (gNum f.prop) _=_
   have e:gNum f.prop=some (numB f.prop):=if_pos ⟨q0,q1⟩
   rw[e,Option.bind_some,sCat_eq,Option.bind_some]
   rw[numB_eq ⟨q0,q1⟩]
   show 1+1<=_
   omega
  ·omega
  ·omega
 rw[decide_eq_false h2,cond_false]
 obtain⟨j1,j2,j3,j4,j5,j6,j7,j8⟩:=kids_join hf hs h1 h2
 have hx:ix [ByteArray.empty,ByteArray.empty,ByteArray.empty,(ByteArray.mk #[110,111,116]),(ByteArray.mk #[97,110,100]),(ByteArray.mk #[111,114]),(ByteArray.mk #[110,101,120,116]),(ByteArray.mk #[117,110,116,105,108])] f.kind=some (word f.kind):=by
  have hc:f.kind=3\/f.kind=4\/f.kind=5\/f.kind=6\/f.kind=7:=by omega
  rcases hc with e|e|e|e|e<;>(rw[e];rfl)
 rw[hx,Option.bind_some,stext_loop n k gNum gJoin (word f.kind) f.kind f.prop f.kids (fun x hx=>⟨hk x hx,by have:=size_mem hx;omega,j8 x hx⟩) j5 _ n 0 [] (by omega) (by omega) (by simp) (by omega)]
 simp only[Int.toNat_zero,List.drop_zero,List.nil_append]
 rw[text_eq,if_neg h1,if_neg h2]
 exact cat4 (word_size _) j3 _ j1 K
end
theorem gText_zero :gText 0=fun _=>none:=by
 funext f
 unfold gText
 rw[if_neg (by rw[Fm.size_eq];omega)]
theorem formulaText_ok :∀k,EntOK Tryd.prog (i_formulaText.ent (gText k))
 | 0 => by
  rw[gText_zero]
  intro R xs H K r h
  simp only[i_formulaText.ent]at h
  split at h<;>cases h
 | k + 1 => i_formulaText.ok (G := ⟨gNum, gText k, joinF⟩) ⟨i_FormatInt_ok, formulaText_ok k, strings_Join_ok, trivial⟩ fun f r h => by
  unfold gText at h
  split at h
  ·rename_i hs
   cases h
   exact⟨3,itext_main 3 k f hs.2.2 hs.2.1 (fun x hx=>by have:=size_mem hx;omega) (by omega) _⟩
  ·cases h
theorem l31Text_ok :∀k,EntOK Tryd.prog (s_l31Text.ent (gText k))
 | 0 => by
  rw[gText_zero]
  intro R xs H K r h
  simp only[s_l31Text.ent]at h
  split at h<;>cases h
 | k + 1 => s_l31Text.ok (G := ⟨gNum, gText k, gJoin⟩) ⟨s_FormatInt_ok, l31Text_ok k, s_Join_ok, trivial⟩ fun f r h => by
  unfold gText at h
  split at h
  ·rename_i hs
   cases h
   exact⟨3,stext_main 3 k f hs.2.2 hs.2.1 (fun x hx=>by have:=size_mem hx;omega) (by omega) _⟩
  ·cases h
end Go.Proofs.YtjafncnjefnloaaDoor.Den
