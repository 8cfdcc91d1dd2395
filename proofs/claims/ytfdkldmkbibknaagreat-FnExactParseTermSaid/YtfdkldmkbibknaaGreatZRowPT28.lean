/-
  Texts that the claim rests on, merged: PL, TmE, SgM.
-/
import Derived.Test.YtfdkldmkbibknaaGreatZRowPT11
import Derived.Test.YtfdkldmkbibknaaGreatZRowPT15
import Derived.Test.YtfdkldmkbibknaaGreatZRowPT26

namespace Go.Proofs.YtfdkldmkbibknaaGreat.Den
open Go.RowKit
set_option maxRecDepth 100000
set_option linter.unusedVariables false
namespace z1d
structure Gs where
 none_:Unit
noncomputable def b4 {R:Type} (G:Gs) (n:Nat) (a b:LI) (i:Int) (nx:LI->LI->Int->Option R) (k0:Bool->Option R) (k1:Option R):Option R:=
 bif decide (i<(List.length a:Int))then
  (
  Option.bind (ix a i) λe2=>
  Option.bind (ix b i) λe4=>
  bif !decide (e2=e4)then
   (k0 false)
  else
   nx a b (wr (i+1))
  )
 else
  k1
noncomputable def l4 {R:Type} (G:Gs) (n m:Nat) (a b:LI) (i:Int) (k0:Bool->Option R) (k1:Option R):Option R:=iter (λ(v:LI×LI×Int) nx=>b4 G n v.1 v.2.1 v.2.2 (λy0 y1 y2=>nx (y0,y1,y2)) k0 k1) m (a,b,i)
noncomputable def dl4 (G:Gs) (n m:Nat) (R:Type) (st:St) (K:Kt R):Option R:=match st with
 |⟨[(0,.one (.l .i a)),(1,.one (.l .i b)),(5,.one (.i i))],[]⟩=>l4 G n m a b i (λt4=>K .ret ⟨[(4,.one (.b t4))],[]⟩) (K (.exit 0) ⟨[],[]⟩)
 |_=>none
noncomputable abbrev bd:=bodyOf Tryz.f152
noncomputable abbrev q4:=nthC [1,1,0,1,0,0] bd
end z1d
namespace z1i
noncomputable abbrev bd:=bodyOf Tryz.f69
noncomputable abbrev q4:=nthC [1,1,0,1,0,0] bd
end z1i
namespace z1j
noncomputable abbrev bd:=bodyOf Tryz.f118
end z1j
namespace z1k
structure Gs where
 z1j:z1j.Q
noncomputable def b4 {R:Type} (G:Gs) (n:Nat) (a b:LS) (i:Int) (nx:LS->LS->Int->Option R) (k0:Bool->Option R) (k1:Option R):Option R:=
 bif decide (i<(List.length a:Int))then
  (
  Option.bind (ix a i) λe2=>
  Option.bind (ix b i) λe4=>
  Option.bind (G.z1j e2 e4) λr2=>
  bif !r2 then
   (k0 false)
  else
   nx a b (wr (i+1))
  )
 else
  k1
noncomputable def l4 {R:Type} (G:Gs) (n m:Nat) (a b:LS) (i:Int) (k0:Bool->Option R) (k1:Option R):Option R:=iter (λ(v:LS×LS×Int) nx=>b4 G n v.1 v.2.1 v.2.2 (λy0 y1 y2=>nx (y0,y1,y2)) k0 k1) m (a,b,i)
noncomputable def dl4 (G:Gs) (n m:Nat) (R:Type) (st:St) (K:Kt R):Option R:=match st with
 |⟨[(0,.one (.l (.n 5) a)),(1,.one (.l (.n 5) b)),(5,.one (.i i))],[]⟩=>l4 G n m a b i (λt4=>K .ret ⟨[(4,.one (.b t4))],[]⟩) (K (.exit 0) ⟨[],[]⟩)
 |_=>none
noncomputable abbrev bd:=bodyOf Tryz.f70
noncomputable abbrev q4:=nthC [1,1,0,1,0,0] bd
end z1k
namespace z1b
noncomputable abbrev bd:=bodyOf Tryz.f140
end z1b
namespace z1c
noncomputable abbrev bd:=bodyOf Tryz.f119
noncomputable abbrev q4:=nthC [1,1,0,1,0,0] bd
end z1c
namespace z1e
noncomputable abbrev bd:=bodyOf Tryz.f71
end z1e
namespace z1f
noncomputable abbrev bd:=bodyOf Tryz.f32
noncomputable abbrev q4:=nthC [1,1,0,1,0,0] bd
end z1f
namespace z1h
noncomputable abbrev bd:=bodyOf Tryz.f31
end z1h
namespace z1g
noncomputable abbrev bd:=bodyOf Tryz.f10
end z1g
namespace z2c
noncomputable abbrev bd:=bodyOf Tryz.f147
noncomputable abbrev q3:=nthC [1,1,0,1,0,0] bd
end z2c
namespace z2h
noncomputable abbrev bd:=bodyOf Tryz.f56
noncomputable abbrev q3:=nthC [1,1,0,1,0,0] bd
end z2h
namespace z2i
noncomputable abbrev bd:=bodyOf Tryz.f102
end z2i
namespace z2j
noncomputable abbrev bd:=bodyOf Tryz.f57
noncomputable abbrev q3:=nthC [1,1,0,1,0,0] bd
end z2j
namespace z2a
noncomputable abbrev bd:=bodyOf Tryz.f133
end z2a
namespace z2b
noncomputable abbrev bd:=bodyOf Tryz.f103
noncomputable abbrev q3:=nthC [1,1,0,1,0,0] bd
end z2b
namespace z2d
noncomputable abbrev bd:=bodyOf Tryz.f58
end z2d
namespace z2e
noncomputable abbrev bd:=bodyOf Tryz.f25
noncomputable abbrev q3:=nthC [1,1,0,1,0,0] bd
end z2e
namespace z2g
noncomputable abbrev bd:=bodyOf Tryz.f24
end z2g
namespace z2f
noncomputable abbrev bd:=bodyOf Tryz.f7
end z2f
namespace z23
noncomputable abbrev bd:=bodyOf Tryz.f146
end z23
namespace z28
noncomputable abbrev bd:=bodyOf Tryz.f43
noncomputable abbrev q5:=nthC [1,1,1,0,1,0,0] bd
end z28
namespace z29
noncomputable abbrev bd:=bodyOf Tryz.f44
end z29
namespace z21
noncomputable abbrev bd:=bodyOf Tryz.f130
end z21
namespace z22
noncomputable abbrev bd:=bodyOf Tryz.f89
noncomputable abbrev q5:=nthC [1,1,1,0,1,0,0] bd
end z22
namespace z24
noncomputable abbrev bd:=bodyOf Tryz.f45
end z24
namespace z25
noncomputable abbrev bd:=bodyOf Tryz.f20
noncomputable abbrev q5:=nthC [1,1,1,0,1,0,0] bd
end z25
namespace z27
noncomputable abbrev bd:=bodyOf Tryz.f19
end z27
namespace z26
noncomputable abbrev bd:=bodyOf Tryz.f5
end z26
namespace z1l
structure Gs where
 z1m:z1m.Q
noncomputable def ents (G:Gs):List Ent:=[z1m.ent G.z1m]
noncomputable def main {R:Type} (G:Gs) (n:Nat) (a b:Tm) (K:Bool->Option R):Option R:=
 bif !decide ((Tm.op a)=(Tm.op b))then
  (K false)
 else
  bif !sEq (Tm.name a) (Tm.name b)then
   (K false)
  else
   bif !decide ((Tm.sort a)=(Tm.sort b))then
    (K false)
   else
    Option.bind (G.z1m (Tm.args a) (Tm.args b)) λr=>
    bif !r then
     (K false)
    else
     K true
noncomputable def pc (_:Gs) (_:Nat):Pcs:=⟨nK,nK,nK⟩
noncomputable def an:Ann:=⟨26,0,[],[],[4],[],[]⟩
noncomputable abbrev bd:=bodyOf Tryz.f9
noncomputable def Does (G:Gs) (a b:Tm) (r:Bool):Prop:=∃n,main (R:=AT×List Ob) G n a b (λr0=>some (.one (.b r0),[]))=some (.one (.b r),[])
theorem ok {G:Gs} (hG:AE (ents G)) {g:Q} (hg:∀a b r,g a b=some r->Does G a b r):EO (ent g):=λR xs H K r hc=>by
 simp only[ent]at hc
 split at hc
 ·obtain⟨r,j1,j2⟩:=bind_some hc
  obtain⟨n,j3⟩:=hg _ _ _ j1
  exact⟨_,_,j2,fnP hG an (pc G n) bd [.tmp 4] Tryz.func9 (.inl rfl) (apl [] trivial) (.trans (by kernel_rfl) j3)⟩
 ·cases hc
end z1l
namespace z1m
structure Gs where
 z1l:z1l.Q
noncomputable def ents (G:Gs):List Ent:=[z1l.ent G.z1l]
noncomputable def b4 {R:Type} (G:Gs) (n:Nat) (a b:LT) (i:Int) (nx:LT->LT->Int->Option R) (k0:Bool->Option R) (k1:Option R):Option R:=
 bif decide (i<(List.length a:Int))then
  (
  Option.bind (ix a i) λe2=>
  Option.bind (ix b i) λe4=>
  Option.bind (G.z1l (Tm.mk (Tm.op e2) (Tm.name e2) (Tm.sort e2) (Tm.args e2)) (Tm.mk (Tm.op e4) (Tm.name e4) (Tm.sort e4) (Tm.args e4))) λr2=>
  bif !r2 then
   (k0 false)
  else
   nx a b (wr (i+1))
  )
 else
  k1
noncomputable def l4 {R:Type} (G:Gs) (n m:Nat) (a b:LT) (i:Int) (k0:Bool->Option R) (k1:Option R):Option R:=iter (λ(v:LT×LT×Int) nx=>b4 G n v.1 v.2.1 v.2.2 (λy0 y1 y2=>nx (y0,y1,y2)) k0 k1) m (a,b,i)
noncomputable def main {R:Type} (G:Gs) (n:Nat) (a b:LT) (K:Bool->Option R):Option R:=
 bif !decide ((List.length a:Int)=(List.length b:Int))then
  (K false)
 else
  l4 G n n a b 0
   (λt4=>K t4)
   (K true)
noncomputable def dl4 (G:Gs) (n m:Nat) (R:Type) (st:St) (K:Kt R):Option R:=match st with
 |⟨[(0,.one (.l (.n 1) a)),(1,.one (.l (.n 1) b)),(5,.one (.i i))],[]⟩=>l4 G n m a b i (λt4=>K .ret ⟨[(4,.one (.b t4))],[]⟩) (K (.exit 0) ⟨[],[]⟩)
 |_=>none
noncomputable def pc (G:Gs) (n:Nat):Pcs:=⟨λR id st K=>bif Nat.beq id 4 then dl4 G n n R st K else none,nK,nK⟩
noncomputable def an:Ann:=⟨27,0,[(4,[0,1,5])],[],[4],[(6,⟨[([0,1,2,3,4,5,6,7,8,9],[],[])],[],[],[],[]⟩)],[]⟩
noncomputable abbrev bd:=bodyOf Tryz.f30
noncomputable abbrev q4:=nthC [1,1,0,1,0,0] bd
theorem pl4 {G:Gs} (hG:AE (ents G)) (n:Nat):∀m,PO an (.loop q4) (dl4 G n m):=lpc hG (pc G n) [0,1,5] ⟨[],[4],[(0,[])]⟩ (apl [] trivial) (λR st K=>by unfold dl4;split<;>rfl) λm R st K r h=>by unfold dl4 at h;split at h;exact .trans (by kernel_rfl) h;cases h
noncomputable def Does (G:Gs) (a b:LT) (r:Bool):Prop:=∃n,main (R:=AT×List Ob) G n a b (λr0=>some (.one (.b r0),[]))=some (.one (.b r),[])
theorem ok {G:Gs} (hG:AE (ents G)) {g:Q} (hg:∀a b r,g a b=some r->Does G a b r):EO (ent g):=λR xs H K r hc=>by
 simp only[ent]at hc
 split at hc
 ·obtain⟨r,j1,j2⟩:=bind_some hc
  obtain⟨n,j3⟩:=hg _ _ _ j1
  exact⟨_,_,j2,fnP hG an (pc G n) bd [.tmp 4] Tryz.func30 (.inl rfl) (apl [(1,4,.loop q4)] ⟨pl4 hG n n,trivial⟩) (.trans (by kernel_rfl) j3)⟩
 ·cases hc
end z1m
open Classical
noncomputable def gEqT (k:Nat):Tm->Tm->Option Bool:=λf g=>if f=g/\f.total<k then some true else none
noncomputable def gEqTS (k:Nat):List Tm->List Tm->Option Bool:=λf g=>if f=g/\tmTotals f<k then some true else none
theorem eqTS_ok (k:Nat) (hk:k<=2097152) (e:EO (z1l.ent (gEqT k))):EO (z1m.ent (gEqTS (k+1))):=z1m.ok (G:=⟨gEqT k⟩) ⟨e,trivial⟩ λxs ys r h=>by
 unfold gEqTS at h
 split at h
 ·rename_i hs
  obtain⟨hxy,hs⟩:=hs
  subst hxy
  cases h
  have hlen:=tmT_len xs
  refine⟨xs.length+1,?_⟩
  unfold z1m.main
  rw[dT rfl,Bool.not_true,cF]
  refine Eq.trans (iter_rule (body:=λv nx=>z1m.b4 ⟨gEqT k⟩ (xs.length+1) v.1 v.2.1 v.2.2 (λy0 y1 y2=>nx (y0,y1,y2)) (λt=>some (AT.one (.b t),([]:List Ob))) (some (AT.one (.b true),[]))) (Q:=λv=>v.1=xs/\v.2.1=xs/\0<=v.2.2/\v.2.2<=xs.length) (μ:=λv=>(xs.length-v.2.2).toNat) (f:=λ_=>some (AT.one (.b true),[])) ?_ (xs.length+1) (xs,xs,0) ⟨rfl,rfl,by simp,by simp⟩ (by simp)) rfl
  rintro⟨a,b,i⟩ nx ⟨e1,e0,q0,q1⟩ ih
  simp only at e1 e0 q0 q1 ih ⊢
  subst e1
  subst e0
  unfold z1m.b4
  by_cases hi:i<(List.length b:Int)
  ·obtain⟨x,x1,x2,_,x4⟩:=drop_step q0 hi
   rw[dT hi,cT,x1,bS,bS,Tm.eta]
   show Option.bind (gEqT k x x) _=_
   have e:gEqT k x x=some true:=if_pos ⟨rfl,by have:=tmT_mem x2;omega⟩
   rw[e,bS,Bool.not_true,cF,wr_in (x:=i+1) (by omega)]
   exact ih (b,b,i+1) ⟨rfl,rfl,by simp only;omega,by simp only;omega⟩ (by simp only;omega)
  ·rw[dF hi,cF]
 ·cases h
theorem eqT_ok :∀k,k<=2097152->EO (z1l.ent (gEqT k))
 | 0, _ => by
  intro R xs H K r h
  simp only[z1l.ent]at h
  split at h
  ·simp[gEqT]at h
  ·cases h
 | k + 1, hk => z1l.ok      (G := ⟨gEqTS (k + 1)⟩) ⟨eqTS_ok k (by omega) (eqT_ok k (by omega)), trivial⟩ fun f g r h => by
  unfold gEqT at h
  split at h
  ·rename_i hs
   obtain⟨hxy,hs⟩:=hs
   subst hxy
   cases h
   refine⟨1,?_⟩
   unfold z1l.main
   have e:gEqTS (k+1) f.args f.args=some true:=if_pos ⟨rfl,by have:=total_args f;omega⟩
   rw[dT rfl,dT rfl,show sEq f.name f.name=true from dT rfl,Bool.not_true,cF,cF,cF]
   show Option.bind (gEqTS (k+1) f.args f.args) _=_
   rw[e]
   rfl
  ·cases h
open Classical
section
variable {w : World}
theorem arg_tm {t:Tm} {v:Value} (h:At w Any (terms t.args) v) (hf:t.fits):∃vs,ATR [] [] (.agg [.i t.op,.s t.name,.i t.sort,.l (.n 1) t.args]) (.agg vs)/\Abs.AR [] (λb=>b<w.heap.size) w (.agg vs) (.agg #[.int .i64 t.op,.string t.name,.int .i64 t.sort,v]):=by
 obtain⟨es,h1,h2⟩:=terms_vr (J:=λb=>b<w.heap.size) (λb _ hb=>hb) h
 obtain⟨f1,f2,f3,f4,f5⟩:=hf
 exact⟨[.lit (.int .i64 t.op),.lit (.string t.name),.lit (.int .i64 t.sort),.imm 4 es],.agg (FRs.cr (frs_cons .i (frs_cons .s (frs_cons .i (frs_cons h1 frs_nil))))),
  ar_agg (vrs_cons (.lit (WalkArith.wf_i64 ⟨f1,f2⟩)) (vrs_cons (.lit (show t.name.size<=maxLen by simp only[maxLen];omega)) (vrs_cons (.lit (WalkArith.wf_i64 ⟨f4,f5⟩)) (vrs1 h2))))⟩
theorem eqTerm_m {t:Tm} {v u:Value} (h:At w Any (terms t.args) v) (k:At w Any (terms t.args) u) (hf:t.fits) (ht:t.total<2097152):
  Calls Tryz.prog 9 #[.agg #[.int .i64 t.op,.string t.name,.int .i64 t.sort,v],.agg #[.int .i64 t.op,.string t.name,.int .i64 t.sort,u]] w λe w'=>e= .returned (.bool true)/\Below w.heap.size w w':=by
 have hr:gEqT 2097152 (Tm.mk t.op t.name t.sort t.args) (Tm.mk t.op t.name t.sort t.args)=some true:=by rw[Tm.eta];exact if_pos ⟨rfl,ht⟩
 have hcfn:CFn Tryz.prog 9 [.agg [.i t.op,.s t.name,.i t.sort,.l (.n 1) t.args],.agg [.i t.op,.s t.name,.i t.sort,.l (.n 1) t.args]] [] (.one (.b true)) []:=by
  obtain⟨v,H',e,q⟩:=eqT_ok 2097152 (Nat.le_refl _) (AT×List Ob) [.agg [.i t.op,.s t.name,.i t.sort,.l (.n 1) t.args],.agg [.i t.op,.s t.name,.i t.sort,.l (.n 1) t.args]] [] (λv H'=>some (v,H')) _ (congrArg (λo:Option Bool=>o.bind λr=>some (AT.one (.b r),([]:List Ob))) hr)
  cases e
  exact q
 obtain⟨v1,t1,a1⟩:=arg_tm h hf
 obtain⟨v2,t2,a2⟩:=arg_tm k hf
 refine(calls_cfn hcfn (λ_ hb=>hb) (atrs_cons t1 (atrs_cons t2 atrs_nil)) (ars_cons a1 (ars_cons a2 ars_nil))).mono λe w' ⟨r,h',ι',I',c,ρ',e1,q1,_,D,hb⟩=> ?_
 obtain⟨x,x1,x2⟩:=res_one q1 D.res
 obtain rfl:=res_bool x1 x2
 exact⟨e1,hb⟩
end
end Go.Proofs.YtfdkldmkbibknaaGreat.Den
