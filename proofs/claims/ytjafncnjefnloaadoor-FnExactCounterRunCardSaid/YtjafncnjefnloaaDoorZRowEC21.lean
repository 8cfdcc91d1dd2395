/-
  Texts that the claim rests on, merged: Below, Lib, Fm2, MarkT, MarkI.
-/
import Derived.Test.YtjafncnjefnloaaDoorZRowEC2
import Derived.Test.YtjafncnjefnloaaDoorZRowEC3
import Derived.Test.YtjafncnjefnloaaDoorZRowEC8
import Derived.Test.YtjafncnjefnloaaDoorZRowEC14
import Derived.Test.YtjafncnjefnloaaDoorZRowEC15
import Derived.Test.YtjafncnjefnloaaDoorZRowEC16
import Derived.Test.YtjafncnjefnloaaDoorZRowEC19
import Derived.Test.YtjafncnjefnloaaDoorZRowEC20

namespace Go.Proofs.YtjafncnjefnloaaDoor.Abs
open Go.RowKit
theorem HR.below {ι:List Inf} {I:Nat->Prop} {w w':World} {h:Heap} (hh:HR ι I w h) (hI:∀b,I b->b<w.heap.size) (hb:Below w.heap.size w w'):HR ι I w' h:=
 have hk:Keeps I I w w':=⟨fun _ h=>h,fun b o hb'=>hb.cell (p:=⟨b,o,none⟩) (hI b hb')⟩
 { len := hh.len
   obj := fun id o inf h1 h2 => by
     have ho:=hh.obj id o inf h1 h2
     have hlt:inf.block<w.heap.size:=by
       cases o with
       | row s es =>
         obtain⟨cur,t,e,_⟩:=ho
         rcases Nat.lt_or_ge inf.block w.heap.size with h|h
         · exact h
         · rw[Array.getElem?_eq_none h]at e;cases e
       | map kvs =>
         obtain⟨cur,t,e,_⟩:=ho
         rcases Nat.lt_or_ge inf.block w.heap.size with h|h
         · exact h
         · rw[Array.getElem?_eq_none h]at e;cases e
     exact ho.keep (Grows.refl _) hk (hb.block _ hlt)
   off:=hh.off
   inj:=hh.inj}
theorem fn_of_below {P:Program} {f:FuncId} {xs:List AV} {h:Heap} {u:Value} (hc:callable P f) (hu:okLit u)
  (hh:∀(w:World) (I:Nat->Prop) (ι:List Inf) (cs:Array Value),(∀b,I b->b<w.heap.size)->ARs ι I w xs cs->Calls P f cs w fun e w'=>e= .returned u/\Below w.heap.size w w'):Fn P f xs h (fun r h'=>r= .one (.lit u)/\h'=h):=
 ⟨hc, fun w I ι cs hH hI hA => (hh w I ι cs hI hA).mono fun _ _ ⟨e1, hb⟩ => ⟨_, _, ι, I, u, ⟨rfl, rfl⟩, e1,
  { res := .one (.lit hu)
    heap:=hH.below hI hb
    imm:=fun b hb'=>Nat.lt_of_lt_of_le (hI b hb') hb.size
    immlo:=fun _ hb'=>.inl hb'
    pre:=Grows.refl _
    os:=hb.os
    tape:=hb.tape
    output:=hb.output
    grown:=hb.size
    frame:=fun b hlt _=>hb.block b hlt
    mine:=fun id o inf h1 h2=>.inl ⟨id,o,inf,h1,h2,rfl⟩}⟩⟩
end Go.Proofs.YtjafncnjefnloaaDoor.Abs

namespace Go.Proofs.YtjafncnjefnloaaDoor.Den
open Go.RowKit
open Abs (V AV VR)
def joinB (xs:List ByteArray) (sep:ByteArray):ByteArray:=⟨(Lib.join (xs.map (·.data.toList)) sep.data.toList).toArray⟩
noncomputable def joinF (xs:List ByteArray) (sep:ByteArray):Option ByteArray:=if xs.length<=140737488355328/\(Lib.join (xs.map (·.data.toList)) sep.data.toList).length<=140737488355328 then some (joinB xs sep)else none
def itoaF (n:Int):Option ByteArray:=if 0<=n/\n<100 then some ⟨(Lib.decDigits n.toNat).toArray⟩else none
theorem fr_s {c:C} {v:V} {x:ByteArray} (h:FR c v) (e:c= .s x):v= .lit (.string x):=by
 cases h with
 |s=>cases e;rfl
 |i=>cases e
 |k=>cases e
 |b=>cases e
 |l=>cases e
theorem vr_lit {ι:List Abs.Inf} {I:Nat->Prop} {w:World} {x c:Value} (h:VR I w ι (.lit x) c):c=x:=by
 cases h with
 |lit _=>rfl
theorem CR.strs {ρ:Rho} {H:List Ob} {xs:List ByteArray} {v:V} (h:CR ρ H (.l .s xs) v):∃es:List (List V),v= .imm 1 es/\es.length=xs.length/\∀(m:Nat) (h1:m<xs.length) (h2:m<es.length) (h3:0<es[m].length),es[m][0]= .lit (.string xs[m]):=by
 cases h with
 | fl h =>
  cases h with
  | l hp hl hs hr =>
   refine⟨_,rfl,hl,fun m h1 h2 h3=> ?_⟩
   have:=hr m h1 h2 0 (by show 0<[C.s _].length;simp) h3
   exact fr_s this rfl
theorem CR.str_ {ρ:Rho} {H:List Ob} {x:ByteArray} {v:V} (h:CR ρ H (.s x) v):v= .lit (.string x):=by
 cases h with
 |fl h=>cases h;rfl
theorem CR.int_ {ρ:Rho} {H:List Ob} {x:Int} {v:V} (h:CR ρ H (.i x) v):v= .lit (.int .i64 x):=by
 cases h with
 |fl h=>cases h;rfl
theorem cfn_of_below {P:Program} {f:FuncId} {xs:List AT} {u:Value} {c:C} (hcl:Abs.callable P f) (hu:Abs.okLit u) (hcu:FR c (.lit u))
  (hh:∀(ρ:Rho) (avs:List AV),ATRs ρ [] xs avs->∀(w:World) (I:Nat->Prop) (ι:List Abs.Inf) (cs:Array Value),(∀b,I b->b<w.heap.size)->Abs.ARs ι I w avs cs->Calls P f cs w fun e w'=>e= .returned u/\Below w.heap.size w w'):CFn P f xs [] (.one c) []:=fun ρ h avs hH hA=>
 (Abs.fn_of_below hcl hu (hh ρ avs hA)).mono fun r h' ⟨e1, e2⟩ => by
  subst e1;subst e2
  exact⟨ρ,.one (.fl hcu),hH,Fr.refl ρ [] _⟩
theorem size_le {a:List UInt8} (h:a.length<=140737488355328):(ByteArray.mk a.toArray).size<=maxLen:=by
 unfold maxLen
 simp only[ByteArray.size,List.size_toArray]
 omega
theorem join_cfn (a:List ByteArray) (a2:ByteArray) (hl:a.length<=140737488355328/\(Lib.join (a.map (·.data.toList)) a2.data.toList).length<=140737488355328):CFn Tryd.prog 113 [.one (.l .s a),.one (.s a2)] [] (.one (.s (joinB a a2))) []:=by
 refine cfn_of_below (u:=.string (joinB a a2)) ⟨Tryd.f113,Tryd.func113,by kernel_rfl,by kernel_rfl⟩ ?_ .s fun ρ avs hA w I ι cs hI hAr=> ?_
 ·exact size_le hl.2
 ·obtain⟨hA1,hA2⟩:=hA
  match avs,hA1 with
  | [x, y], _ =>
   have ex:=hA2 0 (by simp) (by simp)
   have ey:=hA2 1 (by simp) (by simp)
   simp only[List.getElem_cons_zero,List.getElem_cons_succ]at ex ey
   cases ex with
   |one ex=>
   cases ey with
   |one ey=>
   obtain⟨es,rfl,e1,e2⟩:=ex.strs
   have ey:=ey.str_
   subst ey
   obtain⟨p,rfl,p1,p2⟩:∃p:Value×Value,cs= #[p.1,p.2]/\Abs.AR ι I w (.one (.imm 1 es)) p.1/\Abs.AR ι I w (.one (.lit (.string a2))) p.2:=by
    obtain⟨h1,h2⟩:=hAr
    obtain⟨u,u1,u2⟩:=h2 0 (by simp)
    obtain⟨z,z1,z2⟩:=h2 1 (by simp)
    rcases cs with⟨l⟩
    match l,h1 with
    |[p,q],_=>simp at u1 z1;subst u1;subst z1;exact⟨(p,q),rfl,u2,z2⟩
   obtain⟨p,q⟩:=p
   cases p1 with
   |one p1=>
   cases p2 with
   |one p2=>
   cases p2 with
   |lit _=>
   cases p1 with
   | imm0 hc =>
    have:a=[]:=List.eq_nil_of_length_eq_zero (by rw[<-e1];rfl)
    subst this
    refine(Tryd.strings_Join_none _ _ a2 w).mono fun e w' ⟨k1,k2⟩=>⟨k1,?_⟩
    subst k2
    exact Below.refl _ _
   | @imm _ _ b off c _ f hs hc hm hI' hcell hr =>
    have key:∀(j:Nat) x,a[j]? =some x->w.cell? ⟨b,off+j,none⟩=some (.string x):=fun j x hx=>by
     have hj:j<a.length:=(List.getElem?_eq_some_iff.1 hx).1
     have hj':j<es.length:=by omega
     have hl1:=hs es[j] (List.getElem_mem hj')
     have hc1:=hcell j 0 hj' (by omega)
     have hr1:=hr j hj' 0 (by omega)
     rw[e2 j hj hj' (by omega)]at hr1
     have:f j 0= .string a[j]:=vr_lit hr1
     rw[this]at hc1
     rw[List.getElem?_eq_getElem hj]at hx
     cases hx
     simpa using hc1
    have:=Tryd.strings_Join b off c a a2 w key (hI b hI') hl.1 (by omega) hl.2
    rw[e1]
    exact this
theorem strings_Join_ok :EntOK Tryd.prog (strings_Join.ent joinF):=fun R xs H K r hc=>by
 simp only[strings_Join.ent]at hc
 split at hc
 ·rename_i a a2
  obtain⟨r,q1,q2⟩:=bind_some hc
  unfold joinF at q1
  split at q1
  ·rename_i hl
   cases q1
   exact⟨_,_,q2,join_cfn a a2 hl⟩
  ·cases q1
 ·cases hc
theorem strconv_Itoa_ok :EntOK Tryd.prog (strconv_Itoa.ent itoaF):=fun R xs H K r hc=>by
 simp only[strconv_Itoa.ent]at hc
 split at hc
 ·rename_i a
  obtain⟨r,q1,q2⟩:=bind_some hc
  unfold itoaF at q1
  split at q1
  ·rename_i hl
   cases q1
   refine⟨_,_,q2,cfn_of_below (u:=.string ⟨(Lib.decDigits a.toNat).toArray⟩) ⟨Tryd.f118,Tryd.func118,by kernel_rfl,by kernel_rfl⟩ ?_ .s fun ρ avs hA w I ι cs hI hAr=> ?_⟩
   ·refine size_le ?_
    unfold Lib.decDigits
    split
    ·simp
    ·unfold Lib.decDigits
     split
     ·simp
     ·omega
   ·obtain⟨hA1,hA2⟩:=hA
    match avs,hA1 with
    | [x], _ =>
     have ex:=hA2 0 (by simp) (by simp)
     simp only[List.getElem_cons_zero]at ex
     cases ex with
     |one ex=>
     have ex:=ex.int_
     subst ex
     obtain⟨h1,h2⟩:=hAr
     obtain⟨u,u1,u2⟩:=h2 0 (by simp)
     rcases cs with⟨l⟩
     match l,h1 with
     | [p], _ =>
      simp at u1
      subst u1
      cases u2 with
      |one u2=>
      cases u2 with
      |lit _=>
      have:=Tryd.strconv_Itoa_small a.toNat (by omega) w
      rw[Int.toNat_of_nonneg hl.1]at this
      exact this.mono fun e w' ⟨k1,k2⟩=>⟨k1,by subst k2;exact Below.refl _ _⟩
  ·cases q1
 ·cases hc
end Go.Proofs.YtjafncnjefnloaaDoor.Den

namespace Go.Proofs.YtjafncnjefnloaaDoor.Den
open Go.RowKit

-- strings of bytes
theorem push_fold {g:Int->UInt8}:∀(l:List Int) (acc:ByteArray),(l.foldl (fun r n=>r.push (g n)) acc).data.toList=acc.data.toList++l.map g
 |[],acc=>by simp
 | x :: l, acc => by
  rw[List.foldl_cons,push_fold l]
  simp[ByteArray.push]
theorem sOf_list (l:List Int):(sOf l).data.toList=l.map fun n=>UInt8.ofNat n.toNat:=by
 unfold sOf
 rw[push_fold]
 rfl
theorem ofS_back (s:ByteArray):(ofS s).map (fun n=>UInt8.ofNat n.toNat)=s.data.toList:=by
 unfold ofS
 rw[List.map_map]
 conv=>rhs;rw[<-List.map_id s.data.toList]
 refine List.map_congr_left fun b _=> ?_
 simp
theorem ba_ext {a b:ByteArray} (h:a.data.toList=b.data.toList):a=b:=by
 cases a with
 | mk a => cases b with
  |mk b=>congr 1;exact Array.toList_inj.1 h
theorem ba_app (a b:ByteArray):(a++b).data.toList=a.data.toList++b.data.toList:=by simp
theorem ba_size (a:ByteArray):a.size=a.data.toList.length:=by cases a;rfl
theorem ofS_len (s:ByteArray):(ofS s).length=s.size:=by unfold ofS;rw[List.length_map,ba_size]
theorem sOf_ofS (s:ByteArray):sOf (ofS s)=s:=ba_ext (by rw[sOf_list,ofS_back])
theorem sOf_app (a b:List Int):sOf (a++b)=sOf a++sOf b:=ba_ext (by rw[ba_app,sOf_list,sOf_list,sOf_list,List.map_append])
theorem app_size (a b:ByteArray):(a++b).size=a.size+b.size:=by rw[ba_size,ba_app,List.length_append,<-ba_size,<-ba_size]
theorem sCat_eq {a b:ByteArray} (h:a.size+b.size<=1099511627776):sCat a b=some (a++b):=by
 unfold sCat
 rw[decide_eq_true h];rfl
theorem joinB_one (a sep:ByteArray):joinB [a] sep=a:=ba_ext (by simp[joinB,Lib.join_one])
theorem joinB_two (a b sep:ByteArray):joinB [a,b] sep=a++sep++b:=ba_ext (by
 rw[ba_app,ba_app]
 simp[joinB,Lib.join,List.intercalate])
theorem joinF_eq {xs:List ByteArray} {sep:ByteArray} (h1:xs.length<=140737488355328) (h2:(joinB xs sep).size<=140737488355328):joinF xs sep=some (joinB xs sep):=by
 unfold joinF
 rw[if_pos ⟨h1,by rw[ba_size]at h2;exact h2⟩]

-- the texts
def sep2 :ByteArray:=ByteArray.mk #[44,32]
def word (k:Int):ByteArray:=if k=3 then ByteArray.mk #[110,111,116]else if k=4 then ByteArray.mk #[97,110,100]else if k=5 then ByteArray.mk #[111,114]else if k=6 then ByteArray.mk #[110,101,120,116]else ByteArray.mk #[117,110,116,105,108]
def numB (q:Int):ByteArray:=⟨(Lib.decDigits q.toNat).toArray⟩
theorem numB_eq {q:Int} (h:0<=q/\q<=7):numB q=⟨#[UInt8.ofNat (48+q.toNat)]⟩:=by
 unfold numB
 rw[Lib.decDigits,dif_pos (by omega)]
theorem word_size (k:Int):(word k).size<=5:=by
 unfold word
 split
 ·decide
 split
 ·decide
 split
 ·decide
 split
 ·decide
 ·decide
def Fm.text (f:Fm):ByteArray:=
 match f with
 |⟨k,q,kids⟩=>if k=1 then ByteArray.mk #[116,114,117,101]else if k=2 then ByteArray.mk #[112]++numB q else word k++ByteArray.mk #[40]++joinB (kids.attach.map fun⟨x,_⟩=>Fm.text x) sep2++ByteArray.mk #[41]
termination_by f
decreasing_by
 rename_i hx
 have:=List.sizeOf_lt_of_mem hx
 simp only[Fm.mk.sizeOf_spec]
 omega
theorem text_eq (f:Fm):Fm.text f=if f.kind=1 then ByteArray.mk #[116,114,117,101]else if f.kind=2 then ByteArray.mk #[112]++numB f.prop else word f.kind++ByteArray.mk #[40]++joinB (f.kids.map Fm.text) sep2++ByteArray.mk #[41]:=by
 obtain⟨k,q,kids⟩:=f
 rw[Fm.text]
 have:(kids.attach.map fun(x:{x // x∈kids})=>match x with|⟨x,_⟩=>Fm.text x)=kids.map Fm.text:=by
  conv=>rhs;rw[<-List.attach_map_subtype_val kids,List.map_map]
  rfl
 rw[this]
theorem ok_cases {f:Fm} (h:f.ok=true):(f.kind=1/\f.kids=[])\/(f.kind=2/\f.kids=[]/\0<=f.prop/\f.prop<=7)\/((f.kind=3\/f.kind=6)/\∃a,f.kids=[a]/\a.ok=true)\/((f.kind=4\/f.kind=5\/f.kind=7)/\∃a b,f.kids=[a,b]/\a.ok=true/\b.ok=true):=by
 rw[ok_parts_eq,Bool.and_eq_true,decide_eq_true_eq]at h
 obtain⟨⟨h1,h2,h3,h4⟩,h5⟩:=h
 rw[List.all_eq_true]at h5
 unfold arity at h1
 by_cases c1:f.kind=1\/f.kind=2
 ·rw[if_pos c1]at h1
  have:f.kids=[]:=List.eq_nil_of_length_eq_zero (by omega)
  rcases c1 with c|c
  ·exact .inl ⟨c,this⟩
  ·exact .inr (.inl ⟨c,this,h2,h3⟩)
 ·rw [if_neg c1] at h1
  by_cases c2:f.kind=3\/f.kind=6
  ·rw[if_pos c2]at h1
   refine .inr (.inr (.inl ⟨c2,?_⟩))
   match hk:f.kids,h1 with
   |[a],_=>exact⟨a,rfl,h5 a (by rw[hk];simp)⟩
  ·rw[if_neg c2]at h1
   by_cases c3:f.kind=4\/f.kind=5\/f.kind=7
   ·rw[if_pos c3]at h1
    refine .inr (.inr (.inr ⟨c3,?_⟩))
    match hk:f.kids,h1 with
    |[a,b],_=>exact⟨a,b,rfl,h5 a (by rw[hk];simp),h5 b (by rw[hk];simp)⟩
   ·rw[if_neg c3]at h1
    omega
theorem text_size :∀(n:Nat) (f:Fm),f.size<=n->f.ok=true->(Fm.text f).size<=16*f.size:=by
 intro n
 induction n with
 |zero=>intro f h;rw[Fm.size_eq]at h;omega
 | succ n ih =>
  intro f hn hf
  have hw:=word_size f.kind
  have s1:(ByteArray.mk #[40]).size=1:=rfl
  have s2:(ByteArray.mk #[41]).size=1:=rfl
  have s3:sep2.size=2:=rfl
  have hs:=Fm.size_eq f
  rw[text_eq]
  rcases ok_cases hf with⟨c,_⟩|⟨c,_,q0,q1⟩|⟨c,a,hk,ha⟩|⟨c,a,b,hk,ha,hb⟩
  ·rw[if_pos c]
   show 4<=_
   omega
  ·rw[if_neg (by omega),if_pos c,app_size,numB_eq ⟨q0,q1⟩]
   show 1+1<=_
   omega
  ·rw[if_neg (by omega),if_neg (by omega),hk]
   rw[hk]at hs
   simp only[List.map_cons,List.map_nil,List.sum_cons,List.sum_nil]at hs ⊢
   rw[joinB_one,app_size,app_size,app_size,s1,s2]
   have:=ih a (by omega) ha
   omega
  ·rw[if_neg (by omega),if_neg (by omega),hk]
   rw[hk]at hs
   simp only[List.map_cons,List.map_nil,List.sum_cons,List.sum_nil]at hs ⊢
   rw[joinB_two,app_size,app_size,app_size,app_size,app_size,s1,s2,s3]
   have:=ih a (by omega) ha
   have:=ih b (by omega) hb
   omega
end Go.Proofs.YtjafncnjefnloaaDoor.Den

namespace Go.Proofs.YtjafncnjefnloaaDoor.Den
open Go.RowKit
open Classical
noncomputable def digs:Nat->Int->ByteArray->ByteArray
 |0,_,out=>out
 |m+1,k,out=>if 0<k then digs m (k / 10) (sOf [IntKind.wrap .u8 (wr (48+k%10))]++out)else out
theorem sOf_one (x:Int):(sOf [x]).size=1:=rfl
theorem digs_size :∀(m:Nat) (k:Int) (out:ByteArray),(digs m k out).size<=out.size+m
 |0,_,_=>Nat.le_refl _
 | m + 1, k, out => by
  unfold digs
  split
  ·have:=digs_size m (k / 10) (sOf [IntKind.wrap .u8 (wr (48+k%10))]++out)
   rw[app_size,sOf_one]at this
   omega
  ·omega
theorem mark_loop {R:Type} (k0:ByteArray->Option R):∀(m:Nat) (k:Int) (out:ByteArray),0<=k->k<2^m->out.size+m<=1000->l_markText.l4 ⟨()⟩ 100 (m+1) k out k0=k0 (digs m k out)
 | 0, k, out, h0, h1, h2 => by
  show l_markText.b4 ⟨()⟩ 100 k out _ k0=_
  unfold l_markText.b4
  rw[decide_eq_false (by omega),cond_false];rfl
 | m + 1, k, out, h0, h1, h2 => by
  show l_markText.b4 ⟨()⟩ 100 k out (fun y0 y1=>l_markText.l4 ⟨()⟩ 100 (m+1) y0 y1 k0) k0=_
  unfold l_markText.b4 digs
  by_cases c:0<k
  ·rw[decide_eq_true c,cond_true,if_pos c,decide_eq_true h0,Bool.true_and,decide_eq_true (by omega),cond_true,cond_true,Option.bind_some,sCat_eq (by rw[sOf_one];omega),Option.bind_some,Option.bind_some]
   exact mark_loop k0 m (k / 10) _ (by omega) (by rw[Int.pow_succ]at h1;omega) (by rw[app_size,sOf_one];omega)
  ·rw[decide_eq_false c,cond_false,if_neg c]
noncomputable def markT (k:Int):ByteArray:=if k<=0 then ByteArray.mk #[109,48]else ByteArray.mk #[109]++digs 99 k ByteArray.empty
theorem mark_main {R : Type} (k : Int) (h0 : 0 ≤ k) (h1 : k ≤ 4611686018427387904) (K : ByteArray → Option R) : l_markText.main ⟨()⟩ 100 k K = K (markT k) := by
 unfold l_markText.main markT
 by_cases hk:k<=0
 ·rw[decide_eq_true hk,cond_true,if_pos hk]
 ·have hs:=digs_size 99 k ByteArray.empty
  have h5:(ByteArray.mk #[109]).size=1:=rfl
  have h6:ByteArray.empty.size=0:=rfl
  rw [decide_eq_false hk, cond_false, if_neg hk, mark_loop _ 99 k _ h0 (by have : (2 : Int) ^ 99 = 633825300114114700748351602688 := by decide
                                                                           omega) (by rw[h6];omega),sCat_eq (by rw[h5];omega),Option.bind_some]
noncomputable def gMark:Int->Option ByteArray:=fun k=>if 0<=k/\k<=4611686018427387904 then some (markT k)else none
theorem mark_ok :EntOK Tryd.prog (l_markText.ent gMark):=l_markText.ok (G:=⟨()⟩) trivial fun k r h=>by
 unfold gMark at h
 split at h
 ·rename_i hp
  cases h
  exact⟨100,mark_main k hp.1 hp.2 _⟩
 ·cases h
end Go.Proofs.YtjafncnjefnloaaDoor.Den
namespace Go.Proofs.YtjafncnjefnloaaDoor
open Go.RowKit
theorem markText_any (k:Int) (w:World) (h0:0<=k) (h1:k<=4611686018427387904):
  Calls Tryd.prog 86 #[.int .i64 k] w fun e w'=>∃s:ByteArray,e= .returned (.string s)/\s.size<=maxLen/\Below w.heap.size w w':=by
 have hcfn:Den.CFn Tryd.prog 86 [.one (.i k)] [] (.one (.s (Den.markT k))) []:=by
  obtain⟨v,H',e,q⟩:=Den.mark_ok (Den.AT×List Den.Ob) [.one (.i k)] [] (fun v H'=>some (v,H')) _ (congrArg (fun o:Option ByteArray=>o.bind fun r=>some (Den.AT.one (.s r),([]:List Den.Ob))) (show Den.gMark k=some _ from if_pos ⟨h0,h1⟩))
  cases e
  exact q
 obtain⟨y,t0,a0⟩:=Den.arg_int (w:=w) (J:=fun b=>b<w.heap.size) (WalkArith.wf_i64 (show -9223372036854775808<=k/\k<=9223372036854775807 by omega))
 refine(Den.calls_cfn hcfn (fun _ h=>h) (Den.atrs_cons t0 Den.atrs_nil) (Den.ars_cons a0 Den.ars_nil)).mono fun e w' ⟨r,h',ι',I',c,ρ',e1,q1,_,D,hb⟩=> ?_
 obtain⟨v,v1,v2⟩:=Den.res_one q1 D.res
 obtain⟨rfl,hs⟩:=Den.res_str v1 v2
 exact⟨_,e1,hs,hb⟩
end Go.Proofs.YtjafncnjefnloaaDoor

namespace Go.Proofs.YtjafncnjefnloaaDoor
open Go.RowKit
theorem Like.cInt {S:Nat->Prop} {w w':World} (h:Like S w w') {b o:Nat} {x:Int} (hc:w.cell? ⟨b,o,none⟩=some (.int .i64 x)):∃y,w'.cell? ⟨b,o,none⟩=some (.int .i64 y):=by
 obtain⟨u,h1,h2⟩:=h.kin _ _ _ hc
 obtain⟨y,rfl⟩:=h2.eqInt
 exact⟨y,h1⟩
theorem Like.cStr {S:Nat->Prop} {w w':World} (h:Like S w w') {b o:Nat} {s:ByteArray} (hc:w.cell? ⟨b,o,none⟩=some (.string s)):∃t,w'.cell? ⟨b,o,none⟩=some (.string t):=by
 obtain⟨u,h1,h2⟩:=h.kin _ _ _ hc
 obtain⟨y,rfl⟩:=h2.eqStr
 exact⟨y,h1⟩
theorem Like.cSlice {S:Nat->Prop} {w w':World} (h:Like S w w') {b o n c:Nat} {A:Option Addr} (hc:w.cell? ⟨b,o,none⟩=some (.slice A n c)):w'.cell? ⟨b,o,none⟩=some (.slice A n c):=by
 obtain⟨u,h1,h2⟩:=h.kin _ _ _ hc
 rw[h2.eqSlice]at h1
 exact h1
set_option maxHeartbeats 400000 in
theorem markIntS_any (xs:List Int) (k:Int) (w:World) (S:Nat->Prop) (v:Value) (h:AtS w S (ints xs) v) (hs:Soft S w) (h0:0<=k) (h1:k+xs.length<=1073741824):
  Calls Tryd.prog 20 #[v,.int .i64 k] w fun e w'=>e= .returned (.int .i64 (k+xs.length))/\Like S w w':=by
 obtain⟨A,c,rfl,hn,hc⟩:=AtS.slice h
 go_enter Tryd.func20,Tryd.ntmps20
 go_wp2
 go_loopw [1,5] (fun kk i wr=>∃j:Nat,j<=xs.length/\i= .int .i64 j/\kk= .int .i64 (k+j)/\Like S w wr) (fun _ i _=>xs.length-(intOf i).toNat)
 case atStart=>exact⟨0,Nat.zero_le _,rfl,by simp,Like.refl _ _⟩
 case round=>
  obtain⟨j,hj,rfl,rfl,hL⟩:=hrel
  by_cases hlt:j<xs.length
  ·obtain⟨b,off,x,rfl,hb,hlb,hc1⟩:=ints_getS (h.next hL) hlt
   have f0:=(hs.like hL b hb).2 (off+j)
   have HC:=Lib.hid hc1
   go_wp2
   go_roundw
   case rel=>exact⟨j+1,by omega,by go_num,by go_num,hL.set HC.out (kin.int _ _ (WalkArith.wf_i64 ⟨by omega,by omega⟩)) hb⟩
   case measure=>simp[intOf];omega
  ·go_wp2
   go_ret
   obtain rfl:j=xs.length:=by omega
   exact⟨rfl,hL⟩
set_option maxHeartbeats 400000 in
theorem markIntSS_any (xss:List (List Int)) (k:Int) (w:World) (S:Nat->Prop) (v:Value) (h:AtS w S (rows xss) v) (hs:Soft S w) (h0:0<=k) (h1:k+rowTotals xss<=1073741824):
  Calls Tryd.prog 52 #[v,.int .i64 k] w fun e w'=>∃k':Int,e= .returned (.int .i64 k')/\k<=k'/\k'<=k+rowTotals xss/\Like S w w':=by
 obtain⟨A,c,rfl,hn,hc⟩:=AtS.slice h
 unfold rowTotals at h1 ⊢
 have HS:=Lib.hid hs
 clear hs
 go_enter Tryd.func52,Tryd.ntmps52
 go_wp2_with fail
 go_loopw [1,5] (fun l i wr=>∃(j:Nat) (kk:Int),j<=xss.length/\i= .int .i64 j/\l= .int .i64 kk/\k<=kk/\kk<=k+sumOf List.length xss j/\Like S w wr) (fun _ i _=>xss.length-(intOf i).toNat)
 case atStart=>exact⟨0,k,Nat.zero_le _,rfl,rfl,Int.le_refl _,by rw[sumOf_zero];omega,Like.refl _ _⟩
 case round=>
  obtain⟨j,kk,hj,rfl,rfl,hk1,hk2,hL⟩:=hrel
  have hle:=sumOf_le List.length xss j
  by_cases hlt:j<xss.length
  ·obtain⟨b,off,xs,u,rfl,hb,hlb,hc1,hu,HX⟩:=rows_getS (h.next hL) hlt
   obtain⟨A',c',rfl,hn',hc'⟩:=AtS.slice hu
   have HS1:=Lib.hid (sumOf_succ (f:=List.length) HX.out)
   have hle1:=sumOf_le List.length xss (j+1)
   have hq:=HS1.out
   go_wp2_with fail
   refine(markIntS_any xs kk _ S _ hu (HS.out.like hL) (by omega) (by omega)).mono ?_
   rintro e w1 ⟨rfl,hL1⟩
   go_wp2_with fail
   go_roundw
   case rel=>exact⟨j+1,kk+xs.length,by omega,by go_num,rfl,by omega,by omega,hL.trans hL1⟩
   case measure=>simp[intOf];omega
  ·go_wp2_with fail
   go_ret
   exact⟨kk,rfl,hk1,by omega,hL⟩
def MkT (t:Tm):Prop:=∀(w:World) (S:Nat->Prop) (v:Value) (k:Int),AtS w S (terms t.args) v->Soft S w->0<=k->k+3*tmTotals t.args<=1073741824->
  Calls Tryd.prog 51 #[v,.int .i64 k] w fun e w'=>∃k':Int,e= .returned (.int .i64 k')/\k<=k'/\k'<=k+3*tmTotals t.args/\Like S w w'
set_option maxHeartbeats 2000000 in
theorem markTermS_of (ts:List Tm) (ih:∀x∈ts,MkT x) (w:World) (S:Nat->Prop) (v:Value) (k:Int) (h:AtS w S (terms ts) v) (hs:Soft S w) (h0:0<=k) (h1:k+3*tmTotals ts<=1073741824):
  Calls Tryd.prog 51 #[v,.int .i64 k] w fun e w'=>∃k':Int,e= .returned (.int .i64 k')/\k<=k'/\k'<=k+3*tmTotals ts/\Like S w w':=by
 obtain⟨A,c,rfl,hn,hc⟩:=AtS.slice h
 unfold tmTotals at h1 ⊢
 have IH:=Lib.hid ih
 have HS:=Lib.hid hs
 clear ih hs
 go_enter Tryd.func51,Tryd.ntmps51
 go_wp2_with fail
 go_loopw [1,5] (fun l i wr=>∃(j:Nat) (kk:Int),j<=ts.length/\i= .int .i64 j/\l= .int .i64 kk/\k<=kk/\kk<=k+3*(j+sumOf Tm.total ts j:Nat)/\Like S w wr) (fun _ i _=>ts.length-(intOf i).toNat)
 case atStart=>exact⟨0,k,Nat.zero_le _,rfl,rfl,Int.le_refl _,by rw[sumOf_zero];omega,Like.refl _ _⟩
 case round=>
  obtain⟨j,kk,hj,rfl,rfl,hk1,hk2,hL⟩:=hrel
  have hle:=sumOf_le Tm.total ts j
  by_cases hlt:j<ts.length
  ·obtain⟨b,off,t,x,s,y,u,rfl,hb,hlb,hc1,hc2,hc3,hc4,hu,HX⟩:=terms_getS (h.next hL) hlt
   obtain⟨A',c',rfl,hn',hc'⟩:=AtS.slice hu
   have hmem:=List.mem_of_getElem? HX.out
   have HS1:=Lib.hid (sumOf_succ (f:=Tm.total) HX.out)
   have hle1:=sumOf_le Tm.total ts (j+1)
   have hq:=HS1.out
   have ht:=Tm.total_eq t
   have hf:=(HS.out.like hL b hb).2
   have f0:=hf (off+j*4)
   have f1:=hf (off+j*4+1)
   have f2:=hf (off+j*4+2)
   have L0:=Lib.hid (Like.setCell_ (S:=S) hc1 (kin.int x kk (WalkArith.wf_i64 ⟨by omega,by omega⟩)) hb)
   clear hf
   go_wp2_with fail
   refine(markText_any (kk+1) _ (by omega) (by omega)).mono ?_
   rintro e w1 ⟨s1,rfl,hs1,hb1⟩
   have L1:=Lib.hid (L0.out.next hb1)
   obtain⟨t2,d2⟩:=L1.out.cStr hc2
   obtain⟨t3,d3⟩:=L1.out.cInt hc3
   have d4:=L1.out.cSlice hc4
   have hf1:=((HS.out.like hL).like L1.out b hb).2
   have g1:=hf1 (off+j*4+1)
   have g2:=hf1 (off+j*4+2)
   clear hf1 f0 f1 f2 hc1 hc2 hc3 hc4
   have L2:=Lib.hid (L1.out.set d2 (kin.str t2 s1 hs1) hb)
   have d3':(w1.setCell ⟨b,off+j*4+1,none⟩ (.string s1)).cell? ⟨b,off+j*4+2,none⟩=some (.int .i64 t3):=by
    rw[World.cell?_setCell_other _ _ _ _ (by simp)];exact d3
   have L3:=Lib.hid (L2.out.set d3' (kin.int t3 (kk+1+1) (WalkArith.wf_i64 ⟨by omega,by omega⟩)) hb)
   go_wp2_with fail
   refine(IH.out t hmem _ S _ _ (hu.next L3.out) ((HS.out.like hL).like L3.out) (by omega) (by omega)).mono ?_
   rintro e w3 ⟨k3,rfl,hk3,hk4,hL3⟩
   go_wp2_with fail
   go_roundw
   case rel=>exact⟨j+1,k3,by omega,by go_num,rfl,by omega,by omega,(hL.trans L3.out).trans hL3⟩
   case measure=>simp[intOf];omega
  ·go_wp2_with fail
   go_ret
   exact⟨kk,rfl,hk1,by omega,hL⟩
theorem markTm_any (t:Tm):MkT t:=by
 induction t using Tm.induct with
 |h o n s args ih=>exact fun w S v k h hs h0 h1=>markTermS_of args ih w S v k h hs h0 h1
theorem markTermS_any (ts:List Tm) (w:World) (S:Nat->Prop) (v:Value) (k:Int) (h:AtS w S (terms ts) v) (hs:Soft S w) (h0:0<=k) (h1:k+3*tmTotals ts<=1073741824):
  Calls Tryd.prog 51 #[v,.int .i64 k] w fun e w'=>∃k':Int,e= .returned (.int .i64 k')/\k<=k'/\k'<=k+3*tmTotals ts/\Like S w w':=markTermS_of ts (fun x _=>markTm_any x) w S v k h hs h0 h1
def MkF (f:Fm):Prop:=∀(w:World) (S:Nat->Prop) (v:Value) (k:Int),AtS w S (forms f.kids) v->Soft S w->0<=k->k+2*totals f.kids<=1073741824->
  Calls Tryd.prog 53 #[v,.int .i64 k] w fun e w'=>∃k':Int,e= .returned (.int .i64 k')/\k<=k'/\k'<=k+2*totals f.kids/\Like S w w'
set_option maxHeartbeats 2000000 in
theorem markFormulaS_of (fs:List Fm) (ih:∀x∈fs,MkF x) (w:World) (S:Nat->Prop) (v:Value) (k:Int) (h:AtS w S (forms fs) v) (hs:Soft S w) (h0:0<=k) (h1:k+2*totals fs<=1073741824):
  Calls Tryd.prog 53 #[v,.int .i64 k] w fun e w'=>∃k':Int,e= .returned (.int .i64 k')/\k<=k'/\k'<=k+2*totals fs/\Like S w w':=by
 obtain⟨A,c,rfl,hn,hc⟩:=AtS.slice h
 unfold totals at h1 ⊢
 have IH:=Lib.hid ih
 have HS:=Lib.hid hs
 clear ih hs
 go_enter Tryd.func53,Tryd.ntmps53
 go_wp2_with fail
 go_loopw [1,5] (fun l i wr=>∃(j:Nat) (kk:Int),j<=fs.length/\i= .int .i64 j/\l= .int .i64 kk/\k<=kk/\kk<=k+2*(j+sumOf Fm.total fs j:Nat)/\Like S w wr) (fun _ i _=>fs.length-(intOf i).toNat)
 case atStart=>exact⟨0,k,Nat.zero_le _,rfl,rfl,Int.le_refl _,by rw[sumOf_zero];omega,Like.refl _ _⟩
 case round=>
  obtain⟨j,kk,hj,rfl,rfl,hk1,hk2,hL⟩:=hrel
  have hle:=sumOf_le Fm.total fs j
  by_cases hlt:j<fs.length
  ·obtain⟨b,off,t,x,y,u,rfl,hb,hlb,hc1,hc2,hc3,hu,HX⟩:=forms_getS (h.next hL) hlt
   obtain⟨A',c',rfl,hn',hc'⟩:=AtS.slice hu
   have hmem:=List.mem_of_getElem? HX.out
   have HS1:=Lib.hid (sumOf_succ (f:=Fm.total) HX.out)
   have hle1:=sumOf_le Fm.total fs (j+1)
   have hq:=HS1.out
   have ht:=Fm.total_eq t
   have hf:=(HS.out.like hL b hb).2
   have f0:=hf (off+j*3)
   have f1:=hf (off+j*3+1)
   have L0:=Lib.hid (Like.setCell_ (S:=S) hc1 (kin.int x kk (WalkArith.wf_i64 ⟨by omega,by omega⟩)) hb)
   have d2:(wr.setCell ⟨b,off+j*3,none⟩ (.int .i64 kk)).cell? ⟨b,off+j*3+1,none⟩=some (.int .i64 y):=by
    rw[World.cell?_setCell_other _ _ _ _ (by simp)];exact hc2
   have L1:=Lib.hid (L0.out.set d2 (kin.int y (kk+1) (WalkArith.wf_i64 ⟨by omega,by omega⟩)) hb)
   have D2:=Lib.hid d2
   clear hf d2
   go_wp2_with fail
   refine(IH.out t hmem _ S _ _ (hu.next L1.out) ((HS.out.like hL).like L1.out) (by omega) (by omega)).mono ?_
   rintro e w3 ⟨k3,rfl,hk3,hk4,hL3⟩
   go_wp2_with fail
   go_roundw
   case rel=>exact⟨j+1,k3,by omega,by go_num,rfl,by omega,by omega,(hL.trans L1.out).trans hL3⟩
   case measure=>simp[intOf];omega
  ·go_wp2_with fail
   go_ret
   exact⟨kk,rfl,hk1,by omega,hL⟩
theorem markFm_any (f:Fm):MkF f:=by
 induction f using Fm.induct with
 |h k q kids ih=>exact fun w S v k h hs h0 h1=>markFormulaS_of kids ih w S v k h hs h0 h1
theorem Soft.alloc {S:Nat->Prop} {w:World} (h:Soft S w) (o:Obj):Soft S (w.alloc o):=h.like (Like.of_below (S:=S) ((Below.refl _ _).alloc (Nat.le_refl _) _))
theorem AtS.alloc {S:Nat->Prop} {w:World} {d:D} {v:Value} (h:AtS w S d v) (o:Obj):AtS (w.alloc o) S d v:=h.next (Like.of_below (S:=S) ((Below.refl _ _).alloc (Nat.le_refl _) _))
theorem Like.front {S:Nat->Prop} {w w':World} (o:Obj) (h:Like S (w.alloc o) w'):Like S w w':=(Like.of_below (S:=S) ((Below.refl _ _).alloc (Nat.le_refl _) _)).trans h
theorem Like.blk {S:Nat->Prop} {w w':World} (h:Like S w w') {g:Nat} {t:TypeId} {cs:Array Value} (hb:Blk w g t cs) (hg:¬S g):Blk w' g t cs:=(h.block g hb.lt hg).trans hb
set_option maxHeartbeats 400000 in
theorem markFormula_any (f:Fm) (w:World) (S:Nat->Prop) (v:Value) (k a b:Int) (h:AtS w S (forms f.kids) v) (hs:Soft S w) (h0:0<=k) (h1:k+2*f.total<=1073741824):
  Calls Tryd.prog 21 #[.agg #[.int .i64 a,.int .i64 b,v],.int .i64 k] w fun e w'=>∃k':Int,e= .returned (.int .i64 k')/\k<=k'/\k'<=k+2*f.total/\Like S w w':=by
 obtain⟨A,c,rfl,hn,hc⟩:=AtS.slice h
 rw[Fm.total_eq]at h1 ⊢
 go_enter Tryd.func21,Tryd.ntmps21
 go_wp2_with fail
 refine(markFm_any f _ S _ k (h.alloc _) (hs.alloc _) h0 h1).mono ?_
 rintro e w1 ⟨k1,rfl,q1,q2,hL⟩
 go_wp2_with fail
 go_ret
 exact⟨k1,rfl,q1,q2,hL.front⟩
set_option maxHeartbeats 400000 in
theorem markGraph_any (g:Gr) (w:World) (S:Nat->Prop) (v u:Value) (k:Int) (h:AtS w S (terms g.states) v) (h':AtS w S (rows g.edges) u) (hs:Soft S w) (h0:0<=k) (h1:k+3*g.total<=1073741824):
  Calls Tryd.prog 19 #[.agg #[v,u,.bool g.whole],.int .i64 k] w fun e w'=>∃k':Int,e= .returned (.int .i64 k')/\k<=k'/\k'<=k+3*g.total/\Like S w w':=by
 obtain⟨A,c,rfl,hn,hc⟩:=AtS.slice h
 obtain⟨A',c',rfl,hn',hc'⟩:=AtS.slice h'
 unfold Gr.total at h1 ⊢
 have hB0:=Blk.new w 38 #[.slice A g.states.length c,.slice A' g.edges.length c',.bool g.whole]
 go_enter Tryd.func19,Tryd.ntmps19
 go_wp2_with fail
 refine(markTermS_any _ _ S _ k (h.alloc _) (hs.alloc _) h0 (by omega)).mono ?_
 rintro e w1 ⟨k1,rfl,q1,q2,hL⟩
 have hB1:=hL.blk hB0 fun q=>by have:=(hs _ q).1;omega
 obtain⟨_,_,_⟩:=hB1.c3
 go_wp2_with fail
 refine(markIntSS_any _ _ _ S _ ((h'.alloc _).next hL) ((hs.alloc _).like hL) (by omega) (by omega)).mono ?_
 rintro e w2 ⟨k2,rfl,q3,q4,hL2⟩
 go_wp2_with fail
 go_ret
 exact⟨k2,rfl,by omega,by omega,(hL.trans hL2).front⟩
def marks (k:Int) (n:Nat):List Int:=(List.range n).map fun(j:Nat)=>k+(j:Int)
set_option maxHeartbeats 400000 in
theorem markRow_any (xs:List Int) (k:Int) (w:World) (S:Nat->Prop) (v:Value) (h:At w S (ints xs) v) (hs:Soft S w) (h0:0<=k) (h1:k+xs.length<=1073741824):
  Calls Tryd.prog 20 #[v,.int .i64 k] w fun e w'=>e= .returned (.int .i64 (k+xs.length))/\Like S w w'/\At w' S (ints (marks k xs.length)) v:=by
 obtain⟨A,c,rfl,hn,hc⟩:=ints_slice h
 have HH:=Lib.hid h.shape
 go_enter Tryd.func20,Tryd.ntmps20
 go_wp2
 go_loopw [1,5] (fun kk i wr=>∃j:Nat,j<=xs.length/\i= .int .i64 j/\kk= .int .i64 (k+j)/\Like S w wr/\∀b off,A=some ⟨b,off,none⟩->∀m,m<j->wr.cell? ⟨b,off+m,none⟩=some (.int .i64 (k+m))) (fun _ i _=>xs.length-(intOf i).toNat)
 case atStart=>exact⟨0,Nat.zero_le _,rfl,by simp,Like.refl _ _,fun _ _ _ m hm=>by omega⟩
 case round=>
  obtain⟨j,hj,rfl,rfl,hL,hd⟩:=hrel
  have HD:=Lib.hid hd
  clear hd
  by_cases hlt:j<xs.length
  ·obtain⟨b,off,x,rfl,hb,hlb,hc1⟩:=ints_getS (HH.out.next hL) hlt
   have f0:=(hs.like hL b hb).2 (off+j)
   have HC:=Lib.hid hc1
   go_wp2
   go_roundw
   case rel=>
    refine⟨j+1,by omega,by go_num,by go_num,hL.set HC.out (kin.int _ _ (WalkArith.wf_i64 ⟨by omega,by omega⟩)) hb,fun b' off' e m hm=> ?_⟩
    cases e
    by_cases hmj:m=j
    ·subst hmj
     exact World.cell?_setCell_same _ _ _ HC.out
    ·rw[World.cell?_setCell_other _ _ _ _ (by intro e;injection e;omega)]
     exact HD.out _ _ rfl m (by omega)
   case measure=>simp[intOf];omega
  ·go_wp2
   go_ret
   obtain rfl:j=xs.length:=by omega
   refine⟨rfl,hL,?_⟩
   have hml:(marks k xs.length).length=xs.length:=by simp[marks]
   have:=ints_mk (w:=wr) (S:=S) (xs:=marks k xs.length) (A:=A) (c:=c) (by omega) (by omega) fun hp=> ?_
   ·rw[hml]at this;exact this
   ·obtain⟨b,off,rfl,hb,_⟩:=ints_at h (by omega)
    refine⟨b,off,rfl,hb,fun m hm=> ?_⟩
    have e1:(marks k xs.length).getD m 0=k+m:=by simp[marks,List.getD,show m<xs.length by omega]
    rw[e1]
    exact⟨HD.out _ _ rfl m (by omega),WalkArith.wf_i64 ⟨by omega,by omega⟩⟩
set_option maxHeartbeats 400000 in
theorem markLasso_any (xs:List Int) (b k:Int) (w:World) (S:Nat->Prop) (v:Value) (h:At w S (ints xs) v) (hs:Soft S w) (h0:0<=k) (h1:k+xs.length<=1073741824):
  Calls Tryd.prog 22 #[.agg #[v,.int .i64 b],.int .i64 k] w fun e w'=>e= .returned (.int .i64 (k+xs.length))/\Like S w w'/\At w' S (ints (marks k xs.length)) v:=by
 obtain⟨A,c,rfl,hn,hc⟩:=ints_slice h
 go_enter Tryd.func22,Tryd.ntmps22
 go_wp2_with fail
 refine(markRow_any xs k _ S _ (h.alloc _) (hs.alloc _) h0 h1).mono ?_
 rintro e w1 ⟨rfl,hL,ha⟩
 go_wp2_with fail
 go_ret
 exact⟨rfl,hL.front,ha⟩
set_option maxHeartbeats 400000 in
theorem heldIntS_any (n:Nat) (k:Int) (w:World) (S:Nat->Prop) (v:Value) (h:At w S (ints (marks k n)) v) (h0:0<=k) (h1:k+n<=1073741824):
  Calls Tryd.prog 54 #[v,.int .i64 k] w fun e w'=>e= .returned (.int .i64 (k+n))/\Below w.heap.size w w':=by
 obtain⟨A,c,rfl,hn,hc⟩:=ints_slice h
 have hml:(marks k n).length=n:=by simp[marks]
 rw[hml]at hn h ⊢
 go_enter Tryd.func54,Tryd.ntmps54
 go_wp2
 go_loopw [1,5] (fun kk i wr=>∃j:Nat,j<=n/\i= .int .i64 j/\kk= .int .i64 (k+j)/\Below w.heap.size w wr) (fun _ i _=>n-(intOf i).toNat)
 case atStart=>exact⟨0,Nat.zero_le _,rfl,by simp,Below.refl _ _⟩
 case round=>
  obtain⟨j,hj,rfl,rfl,hb⟩:=hrel
  by_cases hlt:j<n
  ·obtain⟨b,off,x,rfl,_,hlb,hc1,HX,_⟩:=ints_get (k:=j) (h.below hb) (by omega)
   obtain rfl:x=k+j:=by
    have:=HX.out
    simp[marks,show j<n by omega]at this
    exact this.symm
   have hne:(k+(j:Int) !=k+(j:Int))=false:=by simp
   go_wp2
   go_roundw
   case rel=>exact⟨j+1,by omega,by go_num,by go_num,hb⟩
   case measure=>simp[intOf];omega
  ·go_wp2
   go_ret
   obtain rfl:j=n:=by omega
   exact⟨rfl,hb⟩
set_option maxHeartbeats 400000 in
theorem heldLasso_any (n:Nat) (k b:Int) (w:World) (S:Nat->Prop) (v:Value) (h:At w S (ints (marks k n)) v) (h0:0<=k) (h1:k+n<=1073741824):
  Calls Tryd.prog 23 #[.agg #[v,.int .i64 b],.int .i64 k] w fun e w'=>e= .returned (.int .i64 (k+n))/\Below w.heap.size w w':=by
 obtain⟨A,c,rfl,hn,hc⟩:=ints_slice h
 go_enter Tryd.func23,Tryd.ntmps23
 go_wp2_with fail
 refine(heldIntS_any n k _ S _ (h.alloc _) h0 h1).mono ?_
 rintro e w1 ⟨rfl,hb⟩
 go_wp2_with fail
 go_ret
 refine⟨rfl,?_⟩
 repeat (first|with_reducible exact Below.refl _ _|with_reducible refine Below.setCell ?_ (by first|omega|(simp<;>omega)) _|with_reducible refine Below.drew ?_|with_reducible refine below_drewN ?_ _|with_reducible refine Below.alloc ?_ (by first|omega|(simp<;>omega)) _|with_reducible refine Below.trans ?_ (Below.mono (by assumption) (by first|omega|(simp<;>omega))))
end Go.Proofs.YtjafncnjefnloaaDoor
