/-
  Texts that the claim rests on, merged: TmW, Wrap1.
-/
import Derived.Test.YtjafncnjefnloaaDoorZRowAll12
import Derived.Test.YtjafncnjefnloaaDoorZRowAll18

namespace Go.Proofs.YtjafncnjefnloaaDoor.Den
open Go.RowKit
open Classical
theorem fit_args {f:Tm} (h:Fit (.n 1) f):FitC (.l (.n 1) f.args):=h _ (by simp[explode])
theorem total_args (f:Tm):f.total=f.name.size+tmTotals f.args:=Tm.total_eq f
theorem Tm.eta (t:Tm):Tm.mk t.op t.name t.sort t.args=t:=by cases t;rfl
theorem tmT_cons (x:Tm) (l:List Tm):tmTotals (x::l)=1+x.total+tmTotals l:=by unfold tmTotals;simp only[List.length_cons,List.map_cons,List.sum_cons];omega
theorem tmT_nil :tmTotals []=0:=rfl
theorem tmT_mem {x:Tm} {l:List Tm} (h:x∈l):x.total<tmTotals l:=by
 induction l with
 |nil=>simp at h
 | cons y l ih =>
  rw[tmT_cons]
  rcases List.mem_cons.1 h with rfl|h
  ·omega
  ·have:=ih h;omega
theorem tmT_len (l:List Tm):l.length<=tmTotals l:=by unfold tmTotals;omega
abbrev gToT (k:Nat):Tm->Option Tm:=fun f=>if f.total<k then some f else none
abbrev gToTS (k:Nat):List Tm->Option (List Tm):=fun l=>if tmTotals l<k then some l else none
theorem toTS_ok (k:Nat) (hk:k<=2097152) (e:EntOK Tryd.prog (l_toTerm.ent (gToT k))):EntOK Tryd.prog (l_toTermS.ent (gToTS (k+1))):=l_toTermS.ok (G:=⟨gToT k⟩) ⟨e,trivial⟩ fun xs r h=>by
 unfold gToTS at h
 split at h
 ·rename_i hs
  cases h
  have hlen:=tmT_len xs
  refine⟨xs.length+1,?_⟩
  unfold l_toTermS.main
  rw[mk_nat (by omega),Option.bind_some]
  refine Eq.trans (iter_rule (body:=fun v nx=>l_toTermS.b3 ⟨gToT k⟩ (xs.length+1) v.1 v.2.1 v.2.2 (fun y0 y1 y2=>nx (y0,y1,y2)) (fun h=>some (AT.one (.l (.n 1) h),([]:List Ob)))) (Q:=fun v=>v.1=xs/\0<=v.2.1/\v.2.1<=xs.length/\v.2.2.length=xs.length/\v.2.2.take v.2.1.toNat=xs.take v.2.1.toNat) (μ:=fun v=>(xs.length-v.2.1).toNat) (f:=fun _=>some (AT.one (.l (.n 1) xs),[])) ?_ (xs.length+1) (xs,0,_) ⟨rfl,by simp,by simp,by simp,by simp⟩ (by simp)) rfl
  rintro⟨a,i,h⟩ nx ⟨e0,q0,q1,q2,q3⟩ ih
  simp only at e0 q0 q1 q2 q3 ih ⊢
  subst e0
  unfold l_toTermS.b3
  by_cases hi:i<(List.length a:Int)
  ·obtain⟨x,x1,x2,_,x4⟩:=drop_step q0 hi
   obtain⟨y,y1⟩:=ix_len (a:=h) q0 (by omega)
   rw[decide_eq_true hi,cond_true,x1,Option.bind_some,Tm.eta]
   show Option.bind (gToT k x) _=_
   have e:gToT k x=some x:=if_pos (by have:=tmT_mem x2;omega)
   rw[e,Option.bind_some,y1,Option.bind_some,wr_in (x:=i+1) (by omega),Tm.eta]
   obtain⟨s1,s2⟩:=set_take q0 hi q2 q3 x4
   exact ih (a,i+1,_) ⟨rfl,by simp only;omega,by simp only;omega,s1,s2⟩ (by simp only;omega)
  ·rw[decide_eq_false hi,cond_false,full_take hi q2 q3]
 ·cases h
theorem toT_ok :∀k,k<=2097152->EntOK Tryd.prog (l_toTerm.ent (gToT k))
 | 0, _ => by
  intro R xs H K r h
  simp only[l_toTerm.ent]at h
  split at h
  ·cases h
  ·cases h
 | k + 1, hk => l_toTerm.ok (G := ⟨gToTS (k + 1)⟩) ⟨toTS_ok k (by omega) (toT_ok k (by omega)), trivial⟩ fun f r h => by
  unfold gToT at h
  split at h
  ·rename_i hs
   cases h
   refine⟨1,?_⟩
   unfold l_toTerm.main
   have e:gToTS (k+1) f.args=some f.args:=if_pos (by have:=total_args f;omega)
   show Option.bind (gToTS (k+1) f.args) _=_
   rw[e]
   rfl
  ·cases h
noncomputable def gEqT (k:Nat):Tm->Tm->Option Bool:=fun f g=>if f=g/\f.total<k then some true else none
noncomputable def gEqTS (k:Nat):List Tm->List Tm->Option Bool:=fun f g=>if f=g/\tmTotals f<k then some true else none
theorem eqTS_ok (k:Nat) (hk:k<=2097152) (e:EntOK Tryd.prog (l_eqTerm.ent (gEqT k))):EntOK Tryd.prog (l_eqTermS.ent (gEqTS (k+1))):=l_eqTermS.ok (G:=⟨gEqT k⟩) ⟨e,trivial⟩ fun xs ys r h=>by
 unfold gEqTS at h
 split at h
 ·rename_i hs
  obtain⟨hxy,hs⟩:=hs
  subst hxy
  cases h
  have hlen:=tmT_len xs
  refine⟨xs.length+1,?_⟩
  unfold l_eqTermS.main
  rw[decide_eq_true rfl,Bool.not_true,cond_false]
  refine Eq.trans (iter_rule (body:=fun v nx=>l_eqTermS.b4 ⟨gEqT k⟩ (xs.length+1) v.1 v.2.1 v.2.2 (fun y0 y1 y2=>nx (y0,y1,y2)) (fun t=>some (AT.one (.b t),([]:List Ob))) (some (AT.one (.b true),[]))) (Q:=fun v=>v.1=xs/\v.2.1=xs/\0<=v.2.2/\v.2.2<=xs.length) (μ:=fun v=>(xs.length-v.2.2).toNat) (f:=fun _=>some (AT.one (.b true),[])) ?_ (xs.length+1) (xs,xs,0) ⟨rfl,rfl,by simp,by simp⟩ (by simp)) rfl
  rintro⟨a,b,i⟩ nx ⟨e1,e0,q0,q1⟩ ih
  simp only at e1 e0 q0 q1 ih ⊢
  subst e1
  subst e0
  unfold l_eqTermS.b4
  by_cases hi:i<(List.length b:Int)
  ·obtain⟨x,x1,x2,_,x4⟩:=drop_step q0 hi
   rw[decide_eq_true hi,cond_true,x1,Option.bind_some,Option.bind_some,Tm.eta]
   show Option.bind (gEqT k x x) _=_
   have e:gEqT k x x=some true:=if_pos ⟨rfl,by have:=tmT_mem x2;omega⟩
   rw[e,Option.bind_some,Bool.not_true,cond_false,wr_in (x:=i+1) (by omega)]
   exact ih (b,b,i+1) ⟨rfl,rfl,by simp only;omega,by simp only;omega⟩ (by simp only;omega)
  ·rw[decide_eq_false hi,cond_false]
 ·cases h
theorem eqT_ok :∀k,k<=2097152->EntOK Tryd.prog (l_eqTerm.ent (gEqT k))
 | 0, _ => by
  intro R xs H K r h
  simp only[l_eqTerm.ent]at h
  split at h
  ·simp[gEqT]at h
  ·cases h
 | k + 1, hk => l_eqTerm.ok (G := ⟨gEqTS (k + 1)⟩) ⟨eqTS_ok k (by omega) (eqT_ok k (by omega)), trivial⟩ fun f g r h => by
  unfold gEqT at h
  split at h
  ·rename_i hs
   obtain⟨hxy,hs⟩:=hs
   subst hxy
   cases h
   refine⟨1,?_⟩
   unfold l_eqTerm.main
   have e:gEqTS (k+1) f.args f.args=some true:=if_pos ⟨rfl,by have:=total_args f;omega⟩
   rw[decide_eq_true rfl,decide_eq_true rfl,show sEq f.name f.name=true from decide_eq_true rfl,Bool.not_true,cond_false,cond_false,cond_false]
   show Option.bind (gEqTS (k+1) f.args f.args) _=_
   rw[e]
   rfl
  ·cases h
noncomputable def gSzT (k:Int):Tm->Int->Option Int:=fun f left=>if Fit (.n 1) f/\0<=left/\left<=k then some (if ((Tm.total f:Nat):Int)<=left then left-(Tm.total f:Nat)else (-1:Int))else none
noncomputable def gSzTS (k:Int):List Tm->Int->Option Int:=fun l left=>if FitC (.l (.n 1) l)/\0<=left/\left<=k then some (if ((tmTotals l:Nat):Int)<=left then left-(tmTotals l:Nat)else (-1:Int))else none
section
variable {R : Type}
theorem szT_loop (n:Nat) (k:Int) (xs:List Tm) (hf:FitC (.l (.n 1) xs)) (hl:xs.length<=2097152) (k0 k1:Int->Option R):∀m (L i:Int),0<=L->L<=k->0<=i->i<=xs.length->(xs.length-i).toNat<m->
  l_szTermS.l5 ⟨gSzT k⟩ n m xs L i k0 k1=if ((((xs.drop i.toNat).map Tm.total).sum:Nat):Int)<=L then k1 (L-(((xs.drop i.toNat).map Tm.total).sum:Nat))else k0 (-1):=by
 intro m
 induction m with
 |zero=>intro L i _ _ _ _ hm;omega
 | succ m ih =>
  intro L i l0 l1 q0 q1 hm
  show l_szTermS.b5 ⟨gSzT k⟩ n xs L i (fun y0 y1 y2=>l_szTermS.l5 ⟨gSzT k⟩ n m y0 y1 y2 k0 k1) k0 k1=_
  unfold l_szTermS.b5
  by_cases hi:i<(xs.length:Int)
  ·obtain⟨x,x1,x2,x3,_⟩:=drop_step q0 hi
   rw[decide_eq_true hi,cond_true,x1,Option.bind_some,Tm.eta,x3,List.map_cons,List.sum_cons]
   show Option.bind (gSzT k x L) _=_
   have e:gSzT k x L=some (if ((Tm.total x:Nat):Int)<=L then L-(Tm.total x:Nat)else (-1:Int)):=if_pos ⟨hf.mem x x2,l0,l1⟩
   rw[e,Option.bind_some]
   by_cases c:((Tm.total x:Nat):Int)<=L
   ·rw[if_pos c,decide_eq_false (by omega),cond_false,wr_in (x:=i+1) (by omega)]
    refine(ih _ (i+1) (by omega) (by omega) (by omega) (by omega) (by omega)).trans ?_
    by_cases c2:((((xs.drop (i+1).toNat).map Tm.total).sum:Nat):Int)<=L-(Tm.total x:Nat)
    ·rw[if_pos c2,if_pos (by omega)]
     congr 1
     omega
    ·rw[if_neg c2,if_neg (by omega)]
   ·rw[if_neg c,decide_eq_true (by omega),cond_true,if_neg (by omega)]
  ·rw[decide_eq_false hi,cond_false,drop_all hi,List.map_nil,List.sum_nil,if_pos (by omega)]
   congr 1
   omega
end
theorem szT_nil {R:Type} (G:l_szTermS.Gs) (n m:Nat) (L:Int) (k0 k1:Int->Option R):l_szTermS.l5 G n (m+1) [] L 0 k0 k1=k1 L:=by
 show l_szTermS.b5 G n [] L 0 (fun y0 y1 y2=>l_szTermS.l5 G n m y0 y1 y2 k0 k1) k0 k1=_
 unfold l_szTermS.b5
 rw[decide_eq_false (by simp),cond_false]
theorem szTS_ok (k:Int) (hk:k<=2097151) (e:EntOK Tryd.prog (l_szTerm.ent (gSzT k))):EntOK Tryd.prog (l_szTermS.ent (gSzTS (k+1))):=l_szTermS.ok (G:=⟨gSzT k⟩) ⟨e,trivial⟩ fun xs left r h=>by
 unfold gSzTS at h
 split at h
 ·rename_i hs
  obtain⟨hf,h0,h1⟩:=hs
  cases h
  have hlen:xs.length<=9223372036854775807:=hf.len
  have ht:=tmT_len xs
  refine⟨xs.length+1,?_⟩
  unfold l_szTermS.main
  rw[wr_in (x:=left-(xs.length:Int)) (by omega)]
  by_cases c:(xs.length:Int)<=left
  ·rw [decide_eq_false (by omega), cond_false]
   rcases Nat.eq_zero_or_pos xs.length with hz|hp
   ·have:xs=[]:=List.eq_nil_of_length_eq_zero hz
    subst this
    rw[tmT_nil,if_pos (by omega)]
    simp only[List.length_nil]
    rw[szT_nil]
   ·rw[szT_loop _ k xs hf (by omega) _ _ _ _ 0 (by omega) (by omega) (by omega) (by omega) (by omega)]
    simp only[Int.toNat_zero,List.drop_zero]
    have hT:tmTotals xs=xs.length+(xs.map Tm.total).sum:=rfl
    by_cases c2:(((xs.map Tm.total).sum:Nat):Int)<=left-xs.length
    ·rw[if_pos c2,if_pos (by omega)]
     congr 4
     omega
    ·rw[if_neg c2,if_neg (by omega)]
  ·rw[decide_eq_true (by omega),cond_true,if_neg (by omega)]
 ·cases h
theorem szT_ok :∀k:Nat,k<=2097152->EntOK Tryd.prog (l_szTerm.ent (gSzT ((k:Int)-1)))
 | 0, _ => by
  intro R xs H K r h
  simp only[l_szTerm.ent]at h
  split at h
  ·have:∀t l,gSzT (((0:Nat):Int)-1) t l=none:=fun t l=>if_neg (by omega)
   rw[this]at h
   cases h
  ·cases h
 | k + 1, hk => l_szTerm.ok (G := ⟨gSzTS (k : Int)⟩) ⟨by have := szTS_ok ((k : Int) - 1) (by omega) (szT_ok k (by omega)); rwa [show (k : Int) - 1 + 1 = k by omega] at this, trivial⟩ fun f left r h => by
  unfold gSzT at h
  split at h
  ·rename_i hs
   obtain⟨hf,h0,h1⟩:=hs
   cases h
   refine⟨1,?_⟩
   unfold l_szTerm.main
   have hn:f.name.size<=9223372036854775807:=FitC.str (hf _ (by simp[explode]))
   have ht:=total_args f
   rw[wr_in (x:=left-(f.name.size:Int)) (by omega)]
   by_cases c0:(f.name.size:Int)<=left
   ·have e:gSzTS (k:Int) f.args (left-f.name.size)=some (if ((tmTotals f.args:Nat):Int)<=left-f.name.size then left-f.name.size-(tmTotals f.args:Nat)else (-1:Int)):=if_pos ⟨fit_args hf,by omega,by omega⟩
    rw[decide_eq_false (by omega),cond_false]
    show Option.bind (gSzTS (k:Int) f.args (left-f.name.size)) _=_
    rw[e,Option.bind_some]
    by_cases c:((tmTotals f.args:Nat):Int)<=left-f.name.size
    ·rw[if_pos c,decide_eq_false (by omega),cond_false,if_pos (by omega),show left-(f.name.size:Int)-(tmTotals f.args:Nat)=left-(f.total:Nat) by omega]
    ·rw[if_neg c,if_neg (by omega)];rfl
   ·rw[decide_eq_true (by omega),cond_true,if_neg (by omega)]
  ·cases h
def w_TermS (xs:List Tm):Nat:=tmTotals xs
theorem szTermS_all :∃g,EntOK Tryd.prog (l_szTermS.ent g)/\SZ (.sl (.n 1)) w_TermS g:=by
 refine⟨gSzTS 1048577,?_,fun xs left ⟨hf,h0,h1⟩=>⟨_,if_pos ⟨fit_sl.1 hf,h0,by omega⟩,rfl⟩⟩
 have:=szTS_ok 1048576 (by omega) (szT_ok 1048577 (by omega))
 exact this
theorem toTermS_all :∃g,EntOK Tryd.prog (l_toTermS.ent g)/\TO (.sl (.n 1)) w_TermS g:=
 ⟨gToTS 1048578,toTS_ok 1048577 (by omega) (toT_ok _ (by omega)),fun xs ⟨_,h⟩=>⟨xs,if_pos (by unfold w_TermS at h;omega),rfl⟩⟩
theorem eqTermS_all :∃g,EntOK Tryd.prog (l_eqTermS.ent g)/\EQ (.sl (.n 1)) w_TermS g:=
 ⟨gEqTS 1048578,eqTS_ok 1048577 (by omega) (eqT_ok _ (by omega)),fun xs ys ⟨e,_,h⟩=>⟨true,if_pos ⟨e,by unfold w_TermS at h;omega⟩,rfl⟩⟩
end Go.Proofs.YtjafncnjefnloaaDoor.Den

namespace Go.Proofs.YtjafncnjefnloaaDoor.Den
open Go.RowKit
set_option linter.unusedVariables false
def w_IntS (xs:List Int):Nat:=xs.length
theorem szIntS_ex :∃g,EntOK Tryd.prog (l_szIntS.ent g)/\SZ (.sl .i) w_IntS g:=
 by_pick2 (fun g hg=>l_szIntS.ok (G:=⟨()⟩) trivial hg) fun(xs:List Int) (left:Int) ⟨hf,h0,h1⟩=>by
  have hc:=fit_sl.1 hf
  have hlen:xs.length<=9223372036854775807:=hc.len
  have e1:wr (left-(List.length xs:Int))=left-(List.length xs:Int):=wr_in (by omega)
  refine⟨_,⟨xs.length+1,?_⟩,rfl⟩
  unfold l_szIntS.main
  rw[e1]
  by_cases c1:(List.length xs:Int)<=left
  ·rw[decide_eq_false (by omega),cond_false,if_pos (show ((w_IntS xs:Nat):Int)<=left from c1)];rfl
  ·rw[decide_eq_true (by omega),cond_true,if_neg (show ¬((w_IntS xs:Nat):Int)<=left from c1)]
theorem szIntS_all :∃g,EntOK Tryd.prog (l_szIntS.ent g)/\SZ (.sl .i) w_IntS g:=by
 exact szIntS_ex
theorem le_IntS {xs:List Int} (h:w_IntS xs<=1048576):xs.length<=1048576:=h
theorem toIntS_ex :∃g,EntOK Tryd.prog (l_toIntS.ent g)/\TO (.sl .i) w_IntS g:=
 by_pick (fun g hg=>l_toIntS.ok (G:=⟨()⟩) trivial hg) fun(xs:List Int) ⟨hf,h1⟩=>by
  have hc:=fit_sl.1 hf
  have hlen:xs.length<=1048576:=le_IntS h1
  refine⟨_,⟨xs.length+1,?_⟩,rfl⟩
  unfold l_toIntS.main
  rw[mk_nat (by omega),Option.bind_some]
  refine Eq.trans (iter_rule (body:=fun v nx=>l_toIntS.b3 ⟨()⟩ (xs.length+1) v.1 v.2.1 v.2.2 (fun y0 y1 y2=>nx (y0,y1,y2)) (fun h=>some (AT.one (.l .i h),([]:List Ob)))) (Q:=fun v=>v.1=xs/\0<=v.2.1/\v.2.1<=xs.length/\v.2.2.length=xs.length/\v.2.2.take v.2.1.toNat=xs.take v.2.1.toNat) (μ:=fun v=>(xs.length-v.2.1).toNat) (f:=fun _=>some (AT.one (.l .i xs),[])) ?_ (xs.length+1) (xs,0,_) ⟨rfl,by simp,by simp,by simp,by simp⟩ (by simp)) rfl
  rintro⟨a,i,h⟩ nx ⟨e0,q0,q1,q2,q3⟩ ih
  simp only at e0 q0 q1 q2 q3 ih ⊢
  subst e0
  unfold l_toIntS.b3
  by_cases hi:i<(List.length a:Int)
  ·obtain⟨x,x1,x2,_,x4⟩:=drop_step q0 hi
   obtain⟨y,y1⟩:=ix_len (a:=h) q0 (by omega)
   rw[decide_eq_true hi,cond_true,x1,Option.bind_some]
   rw[y1,Option.bind_some,wr_in (x:=i+1) (by omega)]
   obtain⟨s1,s2⟩:=set_take q0 hi q2 q3 x4
   exact ih (a,i+1,_) ⟨rfl,by simp only;omega,by simp only;omega,s1,s2⟩ (by simp only;omega)
  ·rw[decide_eq_false hi,cond_false,full_take hi q2 q3]
theorem toIntS_all :∃g,EntOK Tryd.prog (l_toIntS.ent g)/\TO (.sl .i) w_IntS g:=by
 exact toIntS_ex
theorem eqIntS_ex :∃g,EntOK Tryd.prog (l_eqIntS.ent g)/\EQ (.sl .i) w_IntS g:=
 by_pick2 (fun g hg=>l_eqIntS.ok (G:=⟨()⟩) trivial hg) fun(xs ys:List Int) ⟨hxy,hf,h1⟩=>by
  subst hxy
  have hc:=fit_sl.1 hf
  have hlen:xs.length<=1048576:=le_IntS h1
  refine⟨_,⟨xs.length+1,?_⟩,rfl⟩
  unfold l_eqIntS.main
  rw[decide_eq_true rfl,Bool.not_true,cond_false]
  refine Eq.trans (iter_rule (body:=fun v nx=>l_eqIntS.b4 ⟨()⟩ (xs.length+1) v.1 v.2.1 v.2.2 (fun y0 y1 y2=>nx (y0,y1,y2)) (fun t=>some (AT.one (.b t),([]:List Ob))) (some (AT.one (.b true),[]))) (Q:=fun v=>v.1=xs/\v.2.1=xs/\0<=v.2.2/\v.2.2<=xs.length) (μ:=fun v=>(xs.length-v.2.2).toNat) (f:=fun _=>some (AT.one (.b true),[])) ?_ (xs.length+1) (xs,xs,0) ⟨rfl,rfl,by simp,by simp⟩ (by simp)) rfl
  rintro⟨a,b,i⟩ nx ⟨e1,e0,q0,q1⟩ ih
  simp only at e1 e0 q0 q1 ih ⊢
  subst e1
  subst e0
  unfold l_eqIntS.b4
  by_cases hi:i<(List.length b:Int)
  ·obtain⟨x,x1,x2,_,x4⟩:=drop_step q0 hi
   rw[decide_eq_true hi,cond_true,x1,Option.bind_some,Option.bind_some]
   rw[decide_eq_true rfl,Bool.not_true,cond_false]
   rw[wr_in (x:=i+1) (by omega)]
   exact ih (b,b,i+1) ⟨rfl,rfl,by simp only;omega,by simp only;omega⟩ (by simp only;omega)
  ·rw[decide_eq_false hi,cond_false]
theorem eqIntS_all :∃g,EntOK Tryd.prog (l_eqIntS.ent g)/\EQ (.sl .i) w_IntS g:=by
 exact eqIntS_ex
def w_IntSS (xs:List (List Int)):Nat:=wL (fun x:List Int=>w_IntS x) xs
theorem szIntSS_ex {gE:List Int->Int->Option Int} (eE:EntOK Tryd.prog (l_szIntS.ent gE)) (hE:SZ (.sl .i) w_IntS gE):∃g,EntOK Tryd.prog (l_szIntSS.ent g)/\SZ (.sl (.sl .i)) w_IntSS g:=
 by_pick2 (fun g hg=>l_szIntSS.ok (G:=⟨gE⟩) ⟨eE,trivial⟩ hg) fun(xs:List (List Int)) (left:Int) ⟨hf,h0,h1⟩=>by
  have hc:=fit_sl.1 hf
  have hlen:xs.length<=9223372036854775807:=hc.len
  have e1:wr (left-(List.length xs:Int))=left-(List.length xs:Int):=wr_in (by omega)
  refine⟨_,⟨xs.length+1,?_⟩,rfl⟩
  unfold l_szIntSS.main
  rw[e1]
  by_cases c1:(List.length xs:Int)<=left
  ·rw [decide_eq_false (by omega), cond_false]
   have key:=iter_rule (body:=fun v nx=>l_szIntSS.b5 ⟨gE⟩ (xs.length+1) v.1 v.2.1 v.2.2 (fun y0 y1 y2=>nx (y0,y1,y2)) (fun t4=>some (AT.one (.i t4),([]:List Ob))) (fun left2=>some (AT.one (.i left2),[]))) (Q:=fun v=>v.1=xs/\0<=v.2.1/\v.2.1<=1048576/\0<=v.2.2/\v.2.2<=xs.length) (μ:=fun v=>(xs.length-v.2.2).toNat) (f:=fun v=>some (AT.one (.i (if (wS (fun x:List Int=>w_IntS x) (xs.drop v.2.2.toNat):Int)<=v.2.1 then v.2.1-wS (fun x:List Int=>w_IntS x) (xs.drop v.2.2.toNat)else -1)),[])) ?_ (xs.length+1) (xs,left-(List.length xs:Int),0) ⟨rfl,by simp only;omega,by simp only;omega,by simp,by simp⟩ (by simp)
   ·refine Eq.trans key ?_
    simp only[Int.toNat_zero,List.drop_zero]
    have e2:(w_IntSS xs:Int)=xs.length+wS (fun x:List Int=>w_IntS x) xs:=by show ((xs.length+_:Nat):Int)=_;omega
    by_cases c2:(wS (fun x:List Int=>w_IntS x) xs:Int)<=left-xs.length
    ·rw[if_pos c2,if_pos (by omega)];congr 4;omega
    ·rw[if_neg c2,if_neg (by omega)]
   ·rintro⟨a,lf,i⟩ nx ⟨e0,q0,q1,q2,q3⟩ ih
    simp only at e0 q0 q1 q2 q3 ih ⊢
    subst e0
    unfold l_szIntSS.b5
    by_cases hi:i<(List.length a:Int)
    ·obtain⟨x,x1,x2,x3,_⟩:=drop_step q2 hi
     rw[decide_eq_true hi,cond_true,x1,Option.bind_some,x3,wS_cons]
     have r1:gE x lf=some (if (w_IntS x:Int)<=lf then lf-w_IntS x else -1):=by
      obtain⟨_,r,q⟩:=hE x lf ⟨hc.mem x x2,q0,q1⟩
      rw[q]at r
      exact r
     dsimp only
     rw[r1,Option.bind_some,wr_in (x:=i+1) (by omega)]
     by_cases c2:(w_IntS x:Int)<=lf
     ·rw[if_pos c2,decide_eq_false (by omega),cond_false]
      refine Eq.trans (ih (a,lf-(w_IntS x:Int),i+1) ⟨rfl,by simp only;omega,by simp only;omega,by simp only;omega,by simp only;omega⟩ (by simp only;omega)) ?_
      simp only
      by_cases c3:(wS (fun x:List Int=>w_IntS x) (a.drop (i+1).toNat):Int)<=lf-(w_IntS x:Int)
      ·rw[if_pos c3,if_pos (by omega)];congr 4;omega
      ·rw[if_neg c3,if_neg (by omega)]
     ·rw[if_neg c2,show decide ((-1:Int)<0)=true from rfl,cond_true,if_neg (by omega)]
    ·rw[decide_eq_false hi,cond_false,drop_all hi]
     simp only[wS,List.map_nil,List.sum_nil,Int.natCast_zero,Int.sub_zero,if_pos q0];first|done|(rw[if_pos q0];rfl)|rfl
  ·rw[decide_eq_true (by omega),cond_true,if_neg (by show ¬((xs.length+wS (fun x:List Int=>w_IntS x) xs:Nat):Int)<=left;omega)]
theorem szIntSS_all :∃g,EntOK Tryd.prog (l_szIntSS.ent g)/\SZ (.sl (.sl .i)) w_IntSS g:=by
 obtain⟨_,e0,h0⟩:=szIntS_all
 exact szIntSS_ex e0 h0
theorem le_IntSS {xs:List (List Int)} (h:w_IntSS xs<=1048576):xs.length<=1048576/\∀x∈xs,w_IntS x<=1048576:=by
 have h:xs.length+wS (fun x:List Int=>w_IntS x) xs<=1048576:=h
 exact⟨by omega,fun x hx=>by have:w_IntS x<=wS (fun x:List Int=>w_IntS x) xs:=wS_mem (f:=fun x:List Int=>w_IntS x) hx;omega⟩
theorem toIntSS_ex {gE:List Int->Option (List Int)} (eE:EntOK Tryd.prog (l_toIntS.ent gE)) (hE:TO (.sl .i) w_IntS gE):∃g,EntOK Tryd.prog (l_toIntSS.ent g)/\TO (.sl (.sl .i)) w_IntSS g:=
 by_pick (fun g hg=>l_toIntSS.ok (G:=⟨gE⟩) ⟨eE,trivial⟩ hg) fun(xs:List (List Int)) ⟨hf,h1⟩=>by
  have hc:=fit_sl.1 hf
  have hlen:xs.length<=1048576:=(le_IntSS h1).1
  refine⟨_,⟨xs.length+1,?_⟩,rfl⟩
  unfold l_toIntSS.main
  rw[mk_nat (by omega),Option.bind_some]
  refine Eq.trans (iter_rule (body:=fun v nx=>l_toIntSS.b3 ⟨gE⟩ (xs.length+1) v.1 v.2.1 v.2.2 (fun y0 y1 y2=>nx (y0,y1,y2)) (fun h=>some (AT.one (.l (.sl .i) h),([]:List Ob)))) (Q:=fun v=>v.1=xs/\0<=v.2.1/\v.2.1<=xs.length/\v.2.2.length=xs.length/\v.2.2.take v.2.1.toNat=xs.take v.2.1.toNat) (μ:=fun v=>(xs.length-v.2.1).toNat) (f:=fun _=>some (AT.one (.l (.sl .i) xs),[])) ?_ (xs.length+1) (xs,0,_) ⟨rfl,by simp,by simp,by simp,by simp⟩ (by simp)) rfl
  rintro⟨a,i,h⟩ nx ⟨e0,q0,q1,q2,q3⟩ ih
  simp only at e0 q0 q1 q2 q3 ih ⊢
  subst e0
  unfold l_toIntSS.b3
  by_cases hi:i<(List.length a:Int)
  ·obtain⟨x,x1,x2,_,x4⟩:=drop_step q0 hi
   obtain⟨y,y1⟩:=ix_len (a:=h) q0 (by omega)
   rw[decide_eq_true hi,cond_true,x1,Option.bind_some]
   have r1:gE x=some x:=by
    obtain⟨_,r,q⟩:=hE x ⟨hc.mem x x2,(le_IntSS h1).2 x x2⟩
    rw[q]at r
    exact r
   dsimp only
   rw[r1,Option.bind_some]
   rw[y1,Option.bind_some,wr_in (x:=i+1) (by omega)]
   obtain⟨s1,s2⟩:=set_take q0 hi q2 q3 x4
   exact ih (a,i+1,_) ⟨rfl,by simp only;omega,by simp only;omega,s1,s2⟩ (by simp only;omega)
  ·rw[decide_eq_false hi,cond_false,full_take hi q2 q3]
theorem toIntSS_all :∃g,EntOK Tryd.prog (l_toIntSS.ent g)/\TO (.sl (.sl .i)) w_IntSS g:=by
 obtain⟨_,e0,h0⟩:=toIntS_all
 exact toIntSS_ex e0 h0
theorem eqIntSS_ex {gE:List Int->List Int->Option Bool} (eE:EntOK Tryd.prog (l_eqIntS.ent gE)) (hE:EQ (.sl .i) w_IntS gE):∃g,EntOK Tryd.prog (l_eqIntSS.ent g)/\EQ (.sl (.sl .i)) w_IntSS g:=
 by_pick2 (fun g hg=>l_eqIntSS.ok (G:=⟨gE⟩) ⟨eE,trivial⟩ hg) fun(xs ys:List (List Int)) ⟨hxy,hf,h1⟩=>by
  subst hxy
  have hc:=fit_sl.1 hf
  have hlen:xs.length<=1048576:=(le_IntSS h1).1
  refine⟨_,⟨xs.length+1,?_⟩,rfl⟩
  unfold l_eqIntSS.main
  rw[decide_eq_true rfl,Bool.not_true,cond_false]
  refine Eq.trans (iter_rule (body:=fun v nx=>l_eqIntSS.b4 ⟨gE⟩ (xs.length+1) v.1 v.2.1 v.2.2 (fun y0 y1 y2=>nx (y0,y1,y2)) (fun t=>some (AT.one (.b t),([]:List Ob))) (some (AT.one (.b true),[]))) (Q:=fun v=>v.1=xs/\v.2.1=xs/\0<=v.2.2/\v.2.2<=xs.length) (μ:=fun v=>(xs.length-v.2.2).toNat) (f:=fun _=>some (AT.one (.b true),[])) ?_ (xs.length+1) (xs,xs,0) ⟨rfl,rfl,by simp,by simp⟩ (by simp)) rfl
  rintro⟨a,b,i⟩ nx ⟨e1,e0,q0,q1⟩ ih
  simp only at e1 e0 q0 q1 ih ⊢
  subst e1
  subst e0
  unfold l_eqIntSS.b4
  by_cases hi:i<(List.length b:Int)
  ·obtain⟨x,x1,x2,_,x4⟩:=drop_step q0 hi
   rw[decide_eq_true hi,cond_true,x1,Option.bind_some,Option.bind_some]
   have r1:gE x x=some true:=by
    obtain⟨_,r,q⟩:=hE x x ⟨rfl,hc.mem x x2,(le_IntSS h1).2 x x2⟩
    rw[q]at r
    exact r
   dsimp only
   rw[r1,Option.bind_some,Bool.not_true,cond_false]
   rw[wr_in (x:=i+1) (by omega)]
   exact ih (b,b,i+1) ⟨rfl,rfl,by simp only;omega,by simp only;omega⟩ (by simp only;omega)
  ·rw[decide_eq_false hi,cond_false]
theorem eqIntSS_all :∃g,EntOK Tryd.prog (l_eqIntSS.ent g)/\EQ (.sl (.sl .i)) w_IntSS g:=by
 obtain⟨_,e0,h0⟩:=eqIntS_all
 exact eqIntSS_ex e0 h0
def w_Graph (x:Gr):Nat:=w_TermS x.states+w_IntSS x.edges
theorem fit_Graph {x:Gr} (h:Fit (.n 3) x):Fit (.sl (.n 1)) x.states/\Fit (.sl (.sl .i)) x.edges/\Fit .b x.whole:=by
 refine⟨fun c hc=>h c ?_,fun c hc=>h c ?_,fun c hc=>h c ?_⟩<;>(simp only[explode,List.mem_cons,List.not_mem_nil,or_false]at hc ⊢;first|(subst hc;simp;done)|(rcases hc with rfl|rfl<;>simp;done)|(rcases hc with rfl|rfl|rfl<;>simp;done))
theorem szGraph_ex {gTermS:List Tm->Int->Option Int} (eTermS:EntOK Tryd.prog (l_szTermS.ent gTermS)) (hTermS:SZ (.sl (.n 1)) w_TermS gTermS) {gIntSS:List (List Int)->Int->Option Int} (eIntSS:EntOK Tryd.prog (l_szIntSS.ent gIntSS)) (hIntSS:SZ (.sl (.sl .i)) w_IntSS gIntSS):∃g,EntOK Tryd.prog (l_szGraph.ent g)/\SZ (.n 3) w_Graph g:=
 by_pick2 (fun g hg=>l_szGraph.ok (G:=⟨gTermS,gIntSS⟩) ⟨eTermS,eIntSS,trivial⟩ hg) fun x left ⟨hf,h0,h1⟩=>by
  obtain⟨hf0,hf1,hf2⟩:=fit_Graph hf
  refine⟨_,⟨1,?_⟩,rfl⟩
  unfold l_szGraph.main
  have ew:(w_Graph x:Int)=(w_TermS x.states:Int)+(w_IntSS x.edges:Int):=by show ((w_TermS x.states+w_IntSS x.edges:Nat):Int)=_;omega
  have r0:gTermS x.states (left)=some (if (w_TermS x.states:Int)<=left then left-(w_TermS x.states:Int)else -1):=by
   obtain⟨_,r,q⟩:=hTermS x.states (left) ⟨hf0,by omega,by omega⟩
   rw[q]at r
   exact r
  try dsimp only
  rw[r0,Option.bind_some]
  by_cases c0:(w_TermS x.states:Int)<=left
  case neg=>rw[if_neg c0,show decide ((-1:Int)<0)=true from rfl,cond_true,if_neg (by omega)]
  rw[if_pos c0,decide_eq_false (by omega),cond_false]
  have r1:gIntSS x.edges (left-(w_TermS x.states:Int))=some (if (w_IntSS x.edges:Int)<=left-(w_TermS x.states:Int)then left-(w_TermS x.states:Int)-(w_IntSS x.edges:Int)else -1):=by
   obtain⟨_,r,q⟩:=hIntSS x.edges (left-(w_TermS x.states:Int)) ⟨hf1,by omega,by omega⟩
   rw[q]at r
   exact r
  try dsimp only
  rw[r1,Option.bind_some]
  by_cases c1:(w_IntSS x.edges:Int)<=left-(w_TermS x.states:Int)
  case neg=>rw[if_neg c1,show decide ((-1:Int)<0)=true from rfl,cond_true,if_neg (by omega)]
  rw[if_pos c1,decide_eq_false (by omega),cond_false]
  rw[if_pos (by omega)]
  first|(congr 4;done)|(congr 4;omega)
theorem szGraph_all :∃g,EntOK Tryd.prog (l_szGraph.ent g)/\SZ (.n 3) w_Graph g:=by
 obtain⟨_,e0,h0⟩:=szTermS_all
 obtain⟨_,e1,h1⟩:=szIntSS_all
 exact szGraph_ex e0 h0 e1 h1
theorem toGraph_ex {gTermS:List Tm->Option (List Tm)} (eTermS:EntOK Tryd.prog (l_toTermS.ent gTermS)) (hTermS:TO (.sl (.n 1)) w_TermS gTermS) {gIntSS:List (List Int)->Option (List (List Int))} (eIntSS:EntOK Tryd.prog (l_toIntSS.ent gIntSS)) (hIntSS:TO (.sl (.sl .i)) w_IntSS gIntSS):∃g,EntOK Tryd.prog (l_toGraph.ent g)/\TO (.n 3) w_Graph g:=
 by_pick (fun g hg=>l_toGraph.ok (G:=⟨gTermS,gIntSS⟩) ⟨eTermS,eIntSS,trivial⟩ hg) fun x ⟨hf,h1⟩=>by
  obtain⟨hf0,hf1,hf2⟩:=fit_Graph hf
  refine⟨_,⟨1,?_⟩,rfl⟩
  unfold l_toGraph.main
  have r0:gTermS x.states=some x.states:=by
   obtain⟨_,r,q⟩:=hTermS x.states ⟨hf0,(by have h1:w_TermS x.states+w_IntSS x.edges<=1048576:=h1;omega)⟩
   rw[q]at r
   exact r
  try dsimp only
  rw[r0,Option.bind_some]
  have r1:gIntSS x.edges=some x.edges:=by
   obtain⟨_,r,q⟩:=hIntSS x.edges ⟨hf1,(by have h1:w_TermS x.states+w_IntSS x.edges<=1048576:=h1;omega)⟩
   rw[q]at r
   exact r
  try dsimp only
  rw[r1,Option.bind_some]
  try rfl
theorem toGraph_all :∃g,EntOK Tryd.prog (l_toGraph.ent g)/\TO (.n 3) w_Graph g:=by
 obtain⟨_,e0,h0⟩:=toTermS_all
 obtain⟨_,e1,h1⟩:=toIntSS_all
 exact toGraph_ex e0 h0 e1 h1
theorem eqGraph_ex {gTermS:List Tm->List Tm->Option Bool} (eTermS:EntOK Tryd.prog (l_eqTermS.ent gTermS)) (hTermS:EQ (.sl (.n 1)) w_TermS gTermS) {gIntSS:List (List Int)->List (List Int)->Option Bool} (eIntSS:EntOK Tryd.prog (l_eqIntSS.ent gIntSS)) (hIntSS:EQ (.sl (.sl .i)) w_IntSS gIntSS):∃g,EntOK Tryd.prog (l_eqGraph.ent g)/\EQ (.n 3) w_Graph g:=
 by_pick2 (fun g hg=>l_eqGraph.ok (G:=⟨gTermS,gIntSS⟩) ⟨eTermS,eIntSS,trivial⟩ hg) fun x y ⟨hxy,hf,h1⟩=>by
  subst hxy
  obtain⟨hf0,hf1,hf2⟩:=fit_Graph hf
  refine⟨_,⟨1,?_⟩,rfl⟩
  unfold l_eqGraph.main
  have r0:gTermS x.states x.states=some true:=by
   obtain⟨_,r,q⟩:=hTermS x.states x.states ⟨rfl,hf0,(by have h1:w_TermS x.states+w_IntSS x.edges<=1048576:=h1;omega)⟩
   rw[q]at r
   exact r
  have r1:gIntSS x.edges x.edges=some true:=by
   obtain⟨_,r,q⟩:=hIntSS x.edges x.edges ⟨rfl,hf1,(by have h1:w_TermS x.states+w_IntSS x.edges<=1048576:=h1;omega)⟩
   rw[q]at r
   exact r
  simp[r0,r1]
theorem eqGraph_all :∃g,EntOK Tryd.prog (l_eqGraph.ent g)/\EQ (.n 3) w_Graph g:=by
 obtain⟨_,e0,h0⟩:=eqTermS_all
 obtain⟨_,e1,h1⟩:=eqIntSS_all
 exact eqGraph_ex e0 h0 e1 h1
end Go.Proofs.YtjafncnjefnloaaDoor.Den
