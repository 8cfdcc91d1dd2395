/-
  Texts that the claim rests on, merged: MarkT, Sep, Sep2, Copy, PTM.
-/
import Derived.Deep.RegionHeld3
import Derived.Deep.CutRange
import Derived.Deep.AppendLies
import Derived.Maps.AppendAt
import Derived.Test.YtfdkldmkbibknaaGreatZRowPT11
import Derived.Test.YtfdkldmkbibknaaGreatZRowPT24
import Derived.Test.YtfdkldmkbibknaaGreatZRowPT25
import Derived.Test.YtfdkldmkbibknaaGreatZRowPT26

namespace Go.Proofs.YtfdkldmkbibknaaGreat.Den
open Go.RowKit
open Classical
theorem app_sizeM (a b:ByteArray):(a++b).size=a.size+b.size:=by simp
theorem sCat_eqM {a b:ByteArray} (h:a.size+b.size<=1099511627776):sCat a b=some (a++b):=by
 unfold sCat
 rw[dT h];rfl
noncomputable def digs:Nat->Int->ByteArray->ByteArray
 |0,_,out=>out
 |m+1,k,out=>if 0<k then digs m (k / 10) (sOf [IntKind.wrap .u8 (wr (48+k%10))]++out)else out
theorem sOf_one (x:Int):(sOf [x]).size=1:=rfl
theorem digs_size :∀(m:Nat) (k:Int) (out:ByteArray),(digs m k out).size<=out.size+m
 |0,_,_=>Nat.le_refl _
 | m + 1, k, out => by
  unfold digs
  split
  ·have:=digs_size m (k / 10) (sOf [IntKind.wrap .u8 (wr (48+k%10))]++out)
   rw[app_sizeM,sOf_one]at this
   omega
  ·omega
theorem mark_loop {R:Type} (k0:ByteArray->Option R):∀(m:Nat) (k:Int) (out:ByteArray),0<=k->k<2^m->out.size+m<=1000->z1y.l4 ⟨()⟩ 100 (m+1) k out k0=k0 (digs m k out)
 | 0, k, out, h0, h1, h2 => by
  show z1y.b4 ⟨()⟩ 100 k out _ k0=_
  unfold z1y.b4
  rw[dF (by omega),cF];rfl
 | m + 1, k, out, h0, h1, h2 => by
  show z1y.b4 ⟨()⟩ 100 k out (λy0 y1=>z1y.l4 ⟨()⟩ 100 (m+1) y0 y1 k0) k0=_
  unfold z1y.b4 digs
  by_cases c:0<k
  ·rw[dT c,cT,if_pos c,dT h0,Bool.true_and,dT (by omega),cT,cT,bS,sCat_eqM (by rw[sOf_one];omega),bS,bS]
   exact mark_loop k0 m (k / 10) _ (by omega) (by rw[Int.pow_succ]at h1;omega) (by rw[app_sizeM,sOf_one];omega)
  ·rw[dF c,cF,if_neg c]
noncomputable def markT (k:Int):ByteArray:=if k<=0 then ByteArray.mk #[109,48]else ByteArray.mk #[109]++digs 99 k ByteArray.empty
theorem mark_main {R : Type} (k : Int) (h0 : 0 ≤ k) (h1 : k ≤ 4611686018427387904) (K : ByteArray → Option R) : z1y.main        ⟨()⟩ 100 k K = K (markT k) := by
 unfold z1y.main markT
 by_cases hk:k<=0
 ·rw[dT hk,cT,if_pos hk]
 ·have hs:=digs_size 99 k ByteArray.empty
  have h5:(ByteArray.mk #[109]).size=1:=rfl
  have h6:ByteArray.empty.size=0:=rfl
  rw [decide_eq_false hk, cond_false, if_neg hk, mark_loop _ 99 k _ h0 (by have : (2 : Int) ^ 99 = 633825300114114700748351602688 := by decide
                                                                           omega) (by rw[h6];omega),sCat_eqM (by rw[h5];omega),bS]
noncomputable def gMark:Int->Option ByteArray:=λk=>if 0<=k/\k<=4611686018427387904 then some (markT k)else none
theorem mark_ok :EO (z1y.ent gMark):=z1y.ok (G:=⟨()⟩) trivial λk r h=>by
 unfold gMark at h
 split at h
 ·rename_i hp
  cases h
  exact⟨100,mark_main k hp.1 hp.2 _⟩
 ·cases h
end Go.Proofs.YtfdkldmkbibknaaGreat.Den
namespace Go.Proofs.YtfdkldmkbibknaaGreat
open Go.RowKit
theorem markText_any (k:Int) (w:World) (h0:0<=k) (h1:k<=4611686018427387904):
  Calls Tryz.prog 74 #[.int .i64 k] w λe w'=>∃s:ByteArray,e= .returned (.string s)/\s.size<=maxLen/\Below w.heap.size w w':=by
 have hcfn:Den.CFn Tryz.prog 74 [.one (.i k)] [] (.one (.s (Den.markT k))) []:=by
  obtain⟨v,H',e,q⟩:=Den.mark_ok (Den.AT×List Den.Ob) [.one (.i k)] [] (λv H'=>some (v,H')) _ (congrArg (λo:Option ByteArray=>o.bind λr=>some (Den.AT.one (.s r),([]:List Den.Ob))) (show Den.gMark k=some _ from if_pos ⟨h0,h1⟩))
  cases e
  exact q
 obtain⟨y,t0,a0⟩:=Den.arg_int (w:=w) (J:=λb=>b<w.heap.size) (WalkArith.wf_i64 (show -9223372036854775808<=k/\k<=9223372036854775807 by omega))
 refine(Den.calls_cfn hcfn (λ_ h=>h) (Den.atrs_cons t0 Den.atrs_nil) (Den.ars_cons a0 Den.ars_nil)).mono λe w' ⟨r,h',ι',I',c,ρ',e1,q1,_,D,hb⟩=> ?_
 obtain⟨v,v1,v2⟩:=Den.res_one q1 D.res
 obtain⟨rfl,hs⟩:=Den.res_str v1 v2
 exact⟨_,e1,hs,hb⟩
def Cell4 (w:World) (b o:Nat) (t:Tm) (u:Value):Prop:=w.cell? ⟨b,o,none⟩=some (.int .i64 t.op)/\w.cell? ⟨b,o+1,none⟩=some (.string t.name)/\w.cell? ⟨b,o+2,none⟩=some (.int .i64 t.sort)/\w.cell? ⟨b,o+3,none⟩=some u/\t.fits
theorem Cell4.keep {w w':World} {b o:Nat} {t:Tm} {u:Value} (h:Cell4 w b o t u) (hk:∀p,o<=p->p<o+4->w'.cell? ⟨b,p,none⟩=w.cell? ⟨b,p,none⟩):Cell4 w' b o t u:=
 ⟨(hk _ (by omega) (by omega)).trans h.1,(hk _ (by omega) (by omega)).trans h.2.1,(hk _ (by omega) (by omega)).trans h.2.2.1,(hk _ (by omega) (by omega)).trans h.2.2.2.1,h.2.2.2.2⟩
inductive SepT (w:World):List Tm->(Nat->Prop)->Value->Prop
 |nil {S:Nat->Prop} {A:Option Addr} {c:Nat} (hc:c<=9223372036854775807):SepT w [] S (.slice A 0 c)
 | row {ts : List Tm} {S : Nat → Prop} {b off c : Nat} {U : Nat → Value} {T : Nat → Nat → Prop} (hn : ts.length ≤ c) (hc : c ≤ 9223372036854775807) (hS : S b) (hT : ∀ k x, k < ts.length → T k x → S x ∧ x ≠ b)
   (hd:∀j k x,j<k->k<ts.length->T j x->¬T k x) (hcell:∀(k:Nat) (t:Tm),ts[k]? =some t->Cell4 w b (off+k*4) t (U k)) (hr:∀(k:Nat) (t:Tm),ts[k]? =some t->SepT w t.args (T k) (U k)):SepT w ts S (.slice (some ⟨b,off,none⟩) ts.length c)
theorem SepT.at_ {w:World} {ts:List Tm} {S:Nat->Prop} {v:Value} (h:SepT w ts S v):At w S (terms ts) v:=by
 induction h with
 |nil hc=>exact terms_mk (ts:=[]) (Nat.zero_le _) hc λh=>by simp at h
 | row hn hc hS hT hd hcell hr ih =>
  refine terms_mk hn hc λ_=>⟨_,_,rfl,hS,λk t ht=> ?_⟩
  obtain⟨c0,c1,c2,c3,c4⟩:=hcell k t ht
  exact⟨_,c0,c1,c2,c3,(ih k t ht).mono λx hx _=>(hT k x (gI.1 ht).1 hx).1,c4⟩
theorem SepT.keep {w w':World} {ts:List Tm} {S:Nat->Prop} {v:Value} (h:SepT w ts S v) (hk:∀x o,S x->w'.cell? ⟨x,o,none⟩=w.cell? ⟨x,o,none⟩):SepT w' ts S v:=by
 induction h with
 |nil hc=>exact .nil hc
 |row hn hc hS hT hd hcell hr ih=>exact .row hn hc hS hT hd (λk t ht=>(hcell k t ht).keep λp _ _=>hk _ _ hS) λk t ht=>ih k t ht λx o hx=>hk x o (hT k x (gI.1 ht).1 hx).1
theorem SepT.nx {w w':World} {ts:List Tm} {S:Nat->Prop} {v:Value} (h:SepT w ts S v) (hb:Below w.heap.size w w') (hS:∀x,S x->x<w.heap.size):SepT w' ts S v:=h.keep λx o hx=>hb.cell (p:=⟨x,o,none⟩) (hS x hx)
theorem SepT.like {w w':World} {ts:List Tm} {S R:Nat->Prop} {v:Value} (h:SepT w ts S v) (hL:Like R w w') (hS:∀x,S x->x<w.heap.size/\¬R x):SepT w' ts S v:=h.keep λx o hx=>by
 unfold World.cell?
 rw[hL.block x (hS x hx).1 (hS x hx).2]
theorem SepT.get {w:World} {ts:List Tm} {S:Nat->Prop} {A:Option Addr} {n c k:Nat} {t:Tm} (h:SepT w ts S (.slice A n c)) (hk:ts[k]? =some t):
  ∃ b off u T, A = some ⟨b, off, none⟩ ∧ S b ∧ (∀ x, T x → S x ∧ x ≠ b) ∧ Cell4 w b (off + k * 4) t u ∧ SepT w t.args T u ∧
   ∀(w':World) (t':Tm),(∀x o,S x->¬T x->(x=b->o<off+k*4\/off+k*4+4<=o)->w'.cell? ⟨x,o,none⟩=w.cell? ⟨x,o,none⟩)->Cell4 w' b (off+k*4) t' u->SepT w' t'.args T u->SepT w' (ts.set k t') S (.slice A n c):=by
 have hkl:=(gI.1 hk).1
 generalize hv:Value.slice A n c=v at h
 cases h with
 |nil hc=>simp at hk
 | @row _ _ b off c' U T hn hc hS hT hd hcell hr =>
  injection hv with e1 e2 e3
  subst e1 e2 e3
  refine⟨b,off,U k,T k,rfl,hS,λx hx=>hT k x hkl hx,hcell k t hk,hr k t hk,λw' t' h1 h2 h3=> ?_⟩
  have hl:(ts.set k t').length=ts.length:=by simp
  have:=SepT.row (w:=w') (ts:=ts.set k t') (S:=S) (b:=b) (off:=off) (c:=c) (U:=U) (T:=T) (by rw[hl];exact hn) hc hS (λj x hj=>hT j x (by rw[hl]at hj;exact hj)) (λi j x h4 h5=>hd i j x h4 (by rw[hl]at h5;exact h5)) (λj q hq=> ?_) (λj q hq=> ?_)
  ·rw[hl]at this;exact this
  ·by_cases e:k=j
   ·subst e
    rw[sS hkl]at hq
    cases hq
    exact h2
   ·rw[sN e]at hq
    exact(hcell j q hq).keep λp p1 p2=>h1 b p hS (λhx=>(hT k b hkl hx).2 rfl) λ_=>by omega
  ·by_cases e:k=j
   ·subst e
    rw[sS hkl]at hq
    cases hq
    exact h3
   ·rw[sN e]at hq
    have hjl:=(gI.1 hq).1
    refine(hr j q hq).keep λx o hx=>h1 x o (hT j x hjl hx).1 (λhx2=> ?_) λe2=>absurd e2 (hT j x hjl hx).2
    rcases Nat.lt_or_gt_of_ne e with h4|h4
    ·exact hd k j x h4 hjl hx2 hx
    ·exact hd j k x h4 hkl hx hx2
noncomputable def mkTs (k:Int):List Tm->List Tm×Int
 |[]=>([],k)
 |⟨_,_,_,args⟩::ts=>(⟨k,Den.markT (k+1),k+2,(mkTs (k+3) args).1⟩::(mkTs (mkTs (k+3) args).2 ts).1,(mkTs (mkTs (k+3) args).2 ts).2)
termination_by ts =>SizeOf.sizeOf ts
theorem mkTs_nil (k:Int):mkTs k []=([],k):=by unfold mkTs;rfl
theorem mkTs_cons (k:Int) (t:Tm) (ts:List Tm):mkTs k (t::ts)=(⟨k,Den.markT (k+1),k+2,(mkTs (k+3) t.args).1⟩::(mkTs (mkTs (k+3) t.args).2 ts).1,(mkTs (mkTs (k+3) t.args).2 ts).2):=by
 obtain⟨o,n,s,args⟩:=t
 rw[mkTs]
theorem mkTs_app :∀(a:List Tm) (k:Int) (b:List Tm),mkTs k (a++b)=((mkTs k a).1++(mkTs (mkTs k a).2 b).1,(mkTs (mkTs k a).2 b).2)
 |[],k,b=>by rw[List.nil_append,mkTs_nil];rfl
 | t :: a, k, b => by
  rw[List.cons_append,mkTs_cons,mkTs_cons,mkTs_app a]
  rfl
theorem mkTs_len :∀(a:List Tm) (k:Int),(mkTs k a).1.length=a.length
 |[],k=>by rw[mkTs_nil]
 |t::a,k=>by rw[mkTs_cons,List.length_cons,List.length_cons,mkTs_len a]
theorem mkTs_le (t:Tm):∀(k:Int),k<=(mkTs k t.args).2/\(mkTs k t.args).2<=k+3*tmTotals t.args:=by
 induction t using Tm.induct with
 | h o n s args ih =>
  show ∀k:Int,k<=(mkTs k args).2/\(mkTs k args).2<=k+3*tmTotals args
  induction args with
  |nil=>intro k;rw[mkTs_nil];exact⟨Int.le_refl _,by simp[tmTotals]⟩
  | cons x l ih2 =>
   intro k
   rw[mkTs_cons]
   have h1:=ih x (by simp) (k+3)
   have h2:=ih2 (λy hy=>ih y (by simp[hy])) (mkTs (k+3) x.args).2
   have h3:=Tm.total_eq x
   have h4:tmTotals (x::l)=1+x.total+tmTotals l:=by simp only[tmTotals,List.length_cons,List.map_cons,List.sum_cons];omega
   simp only
   omega
theorem mkL_le (ts:List Tm) (k:Int):k<=(mkTs k ts).2/\(mkTs k ts).2<=k+3*tmTotals ts:=mkTs_le ⟨0,ByteArray.empty,0,ts⟩ k
theorem mkTs_step {ts:List Tm} {j:Nat} {t:Tm} (h:ts[j]? =some t) (k:Int):mkTs k (ts.take (j+1))=((mkTs k (ts.take j)).1++[⟨(mkTs k (ts.take j)).2,Den.markT ((mkTs k (ts.take j)).2+1),(mkTs k (ts.take j)).2+2,(mkTs ((mkTs k (ts.take j)).2+3) t.args).1⟩],(mkTs ((mkTs k (ts.take j)).2+3) t.args).2):=by
 have e:ts.take (j+1)=ts.take j++[t]:=by rw[List.take_add_one,h];rfl
 rw[e,mkTs_app,mkTs_cons,mkTs_nil]
noncomputable def mixT (k:Int) (j:Nat) (ts:List Tm):List Tm:=(mkTs k (ts.take j)).1++ts.drop j
theorem mixT_get {ts:List Tm} {j:Nat} {t:Tm} (h:ts[j]? =some t) (k:Int):(mixT k j ts)[j]? =some t:=by
 have hj:=(gI.1 h).1
 have hl:(mkTs k (ts.take j)).1.length=j:=by rw[mkTs_len,List.length_take];omega
 unfold mixT
 rw[aR (by omega),hl,Nat.sub_self,List.getElem?_drop]
 exact h
theorem mixT_set {ts:List Tm} {j:Nat} {t:Tm} (h:ts[j]? =some t) (k:Int):(mixT k j ts).set j ⟨(mkTs k (ts.take j)).2,Den.markT ((mkTs k (ts.take j)).2+1),(mkTs k (ts.take j)).2+2,(mkTs ((mkTs k (ts.take j)).2+3) t.args).1⟩=mixT k (j+1) ts:=by
 have hj:=(gI.1 h).1
 have hl:(mkTs k (ts.take j)).1.length=j:=by rw[mkTs_len,List.length_take];omega
 unfold mixT
 rw[mkTs_step h,List.drop_eq_getElem_cons hj,List.set_append_right _ _ (by omega),hl,Nat.sub_self,List.set_cons_zero]
 simp
theorem markText_val (k:Int) (w:World) (h0:0<=k) (h1:k<=4611686018427387904):
  Calls Tryz.prog 74 #[.int .i64 k] w λe w'=>e= .returned (.string (Den.markT k))/\(Den.markT k).size<=maxLen/\Below w.heap.size w w':=by
 have hcfn:Den.CFn Tryz.prog 74 [.one (.i k)] [] (.one (.s (Den.markT k))) []:=by
  obtain⟨v,H',e,q⟩:=Den.mark_ok (Den.AT×List Den.Ob) [.one (.i k)] [] (λv H'=>some (v,H')) _ (congrArg (λo:Option ByteArray=>o.bind λr=>some (Den.AT.one (.s r),([]:List Den.Ob))) (show Den.gMark k=some _ from if_pos ⟨h0,h1⟩))
  cases e
  exact q
 obtain⟨y,t0,a0⟩:=Den.arg_int (w:=w) (J:=λb=>b<w.heap.size) (WalkArith.wf_i64 (show -9223372036854775808<=k/\k<=9223372036854775807 by omega))
 refine(Den.calls_cfn hcfn (λ_ h=>h) (Den.atrs_cons t0 Den.atrs_nil) (Den.ars_cons a0 Den.ars_nil)).mono λe w' ⟨r,h',ι',I',c,ρ',e1,q1,_,D,hb⟩=> ?_
 obtain⟨v,v1,v2⟩:=Den.res_one q1 D.res
 obtain⟨rfl,hs⟩:=Den.res_str v1 v2
 exact⟨e1,hs,hb⟩
theorem tmTotals_app (a b:List Tm):tmTotals (a++b)=tmTotals a+tmTotals b:=by simp only[tmTotals,List.length_append,List.map_append,List.sum_append];omega
theorem tmTotals_at {ts : List Tm} {j : Nat} {t : Tm} (h : ts[j]? = some t) : tmTotals (ts.take j) + (1 + t.total) ≤ tmTotals ts := by
 have hj:=(gI.1 h).1
 have e:ts=ts.take j++(t::ts.drop (j+1)):=by
  have:=List.drop_eq_getElem_cons hj
  rw[(gI.1 h).2]at this
  rw[<-this,List.take_append_drop]
 have e2 : tmTotals ts = tmTotals (ts.take j) + tmTotals (t :: ts.drop (j + 1)) := by conv => lhs; rw [e]
                                                                                      exact tmTotals_app _ _
 have:tmTotals (t::ts.drop (j+1))=1+t.total+tmTotals (ts.drop (j+1)):=by simp only[tmTotals,List.length_cons,List.map_cons,List.sum_cons];omega
 omega
def MkS (t:Tm):Prop:=∀(w:World) (S:Nat->Prop) (v:Value) (k:Int),SepT w t.args S v->Soft S w->0<=k->k+3*tmTotals t.args<=1073741824->
  Calls Tryz.prog 35 #[v,.int .i64 k] w λe w'=>e= .returned (.int .i64 (mkTs k t.args).2)/\Like S w w'/\SepT w' (mkTs k t.args).1 S v
set_option maxHeartbeats 2000000 in
theorem markTermS_sepOf (ts:List Tm) (ih:∀x∈ts,MkS x) (w:World) (S:Nat->Prop) (v:Value) (k:Int) (h:SepT w ts S v) (hs:Soft S w) (h0:0<=k) (h1:k+3*tmTotals ts<=1073741824):
  Calls Tryz.prog 35 #[v,.int .i64 k] w λe w'=>e= .returned (.int .i64 (mkTs k ts).2)/\Like S w w'/\SepT w' (mkTs k ts).1 S v:=by
 obtain⟨A,c,rfl,hn,hc⟩:=terms_slice h.at_
 have IH:=Lib.hid ih
 have HS:=Lib.hid hs
 clear ih hs
 go_enter Tryz.func35,Tryz.ntmps35
 go_wp2_with fail
 go_loopw [1,5] (λl i wr=>∃(j:Nat) (kk:Int),j<=ts.length/\i= .int .i64 j/\l= .int .i64 kk/\kk=(mkTs k (ts.take j)).2/\Like S w wr/\SepT wr (mixT k j ts) S (.slice A ts.length c)) (λ_ i _=>ts.length-(intOf i).toNat)
 case atStart=>exact⟨0,k,Nat.zero_le _,rfl,rfl,by rw[List.take_zero,mkTs_nil],Like.refl _ _,by unfold mixT;rw[List.take_zero,mkTs_nil,List.drop_zero];exact h⟩
 case round=>
  obtain⟨j,kk,hj,rfl,rfl,hkk,hL,hSj⟩:=hrel
  by_cases hlt:j<ts.length
  ·obtain⟨t,ht⟩:∃t,ts[j]? =some t:=⟨_,gE hlt⟩
   have hb1:=mkL_le (ts.take j) k
   have hb2:=tmTotals_at ht
   have hb3:=Tm.total_eq t
   rw[<-hkk]at hb1
   obtain⟨b,off,u,T,rfl,hb,hT,hC,hu,hupd⟩:=hSj.get (mixT_get ht k)
   have hq:=mixT_set ht k
   rw[<-hkk]at hq
   have hst:=congrArg Prod.snd (mkTs_step ht k)
   rw[<-hkk]at hst
   rw[show kk+3=kk+1+1+1 by omega]at hq hst
   have HUPD:=Lib.hid hupd
   have HQ:=Lib.hid hq
   have HST:=Lib.hid hst
   have HKK:=Lib.hid hkk
   obtain⟨A',c',rfl,hn',hc'⟩:=terms_slice hu.at_
   obtain⟨hc1,hc2,hc3,hc4,hfit⟩:=hC
   have HF:=Lib.hid hfit
   have hmem:=mG ht
   have HX:=Lib.hid ht
   have hlb:=(HS.out.like hL b hb).1
   have hf:=(HS.out.like hL b hb).2
   have f0:=hf (off+j*4)
   have f1:=hf (off+j*4+1)
   have f2:=hf (off+j*4+2)
   have L0:=Lib.hid (Like.setCell_ (S:=λx=>x=b) hc1 (kin.int t.op kk (WalkArith.wf_i64 ⟨by omega,by omega⟩)) rfl)
   have HC1:=Lib.hid (World.cell?_setCell_same wr ⟨b,off+j*4,none⟩ (.int .i64 kk) (by rw[hc1]))
   clear hf hupd hq hst hkk hfit ht
   go_wp2_with fail
   refine(markText_val (kk+1) _ (by omega) (by omega)).mono ?_
   rintro e w1 ⟨rfl,hs1,hb1'⟩
   have L1:=Lib.hid (L0.out.next hb1')
   obtain⟨t2,d2⟩:=L1.out.cStr hc2
   obtain⟨t3,d3⟩:=L1.out.cInt hc3
   have d4:=L1.out.cSlice hc4
   have d1:w1.cell? ⟨b,off+j*4,none⟩=some (.int .i64 kk):=(hb1'.cell (p:=⟨b,off+j*4,none⟩) (by simpa using hlb)).trans HC1.out
   have hf1:=((HS.out.like hL).like L1.out b hb).2
   have g1:=hf1 (off+j*4+1)
   have g2:=hf1 (off+j*4+2)
   have HW1:Hid (∀o,(o<off+j*4\/off+j*4+4<=o)->w1.cell? ⟨b,o,none⟩=wr.cell? ⟨b,o,none⟩):=Lib.hid λo ho=>(hb1'.cell (p:=⟨b,o,none⟩) (by simpa using hlb)).trans (World.cell?_setCell_other _ _ _ _ (by intro e;injection e;omega))
   clear hf1 f0 f1 f2 hc1 hc2 hc3 hc4
   have L2:=Lib.hid (L1.out.set d2 (kin.str t2 _ hs1) rfl)
   have d3':(w1.setCell ⟨b,off+j*4+1,none⟩ (.string (Den.markT (kk+1)))).cell? ⟨b,off+j*4+2,none⟩=some (.int .i64 t3):=by
    rw[World.cell?_setCell_other _ _ _ _ (by simp)];exact d3
   have L3:=Lib.hid (L2.out.set d3' (kin.int t3 (kk+1+1) (WalkArith.wf_i64 ⟨by omega,by omega⟩)) rfl)
   have C4:Hid (Cell4 ((w1.setCell ⟨b,off+j*4+1,none⟩ (.string (Den.markT (kk+1)))).setCell ⟨b,off+j*4+2,none⟩ (.int .i64 (kk+1+1))) b (off+j*4) ⟨kk,Den.markT (kk+1),kk+2,(mkTs (kk+1+1+1) t.args).1⟩ (.slice A' t.args.length c')):=by
    refine Lib.hid ⟨?_,?_,?_,?_,by show -9223372036854775808<=kk;omega,by show kk<=_;omega,by simp only[maxLen]at hs1;show (Den.markT (kk+1)).size<=_;omega,by show _<=kk+2;omega,by show kk+2<=_;omega⟩
    ·rw[World.cell?_setCell_other _ _ _ _ (by simp),World.cell?_setCell_other _ _ _ _ (by simp)];exact d1
    ·rw[World.cell?_setCell_other _ _ _ _ (by simp)];exact World.cell?_setCell_same _ _ _ (by rw[d2])
    ·rw[World.cell?_setCell_same _ _ _ (by rw[d3'])]
     show _=some (Value.int .i64 (kk+2))
     rw[show kk+1+1=kk+2 by omega]
    ·rw[World.cell?_setCell_other _ _ _ _ (by simp),World.cell?_setCell_other _ _ _ _ (by simp)];exact d4
   have HW3:Hid (∀o,(o<off+j*4\/off+j*4+4<=o)->((w1.setCell ⟨b,off+j*4+1,none⟩ (.string (Den.markT (kk+1)))).setCell ⟨b,off+j*4+2,none⟩ (.int .i64 (kk+1+1))).cell? ⟨b,o,none⟩=wr.cell? ⟨b,o,none⟩):=Lib.hid λo ho=>by
    rw[World.cell?_setCell_other _ _ _ _ (by intro e;injection e;omega),World.cell?_setCell_other _ _ _ _ (by intro e;injection e;omega)]
    exact HW1.out o ho
   have hTs:Hid (∀x,T x->x<wr.heap.size/\¬x=b):=Lib.hid λx hx=>⟨(HS.out.like hL x (hT x hx).1).1,(hT x hx).2⟩
   have HT:=Lib.hid hT
   clear hT
   have hLS:Hid (Like S w ((w1.setCell ⟨b,off+j*4+1,none⟩ (.string (Den.markT (kk+1)))).setCell ⟨b,off+j*4+2,none⟩ (.int .i64 (kk+1+1)))):=Lib.hid (hL.trans (L3.out.mono λx hx=>by subst hx;exact hb))
   go_wp2_with fail
   refine(IH.out t hmem _ T _ _ (hu.like L3.out hTs.out) (λx hx=>HS.out.like hLS.out x (HT.out x hx).1) (by omega) (by omega)).mono ?_
   rintro e w3 ⟨rfl,hL3,hS3⟩
   have C5:=C4.out.keep (w':=w3) λp _ _=>by
    unfold World.cell?
    rw[hL3.block b (Nat.lt_of_lt_of_le hlb L3.out.size) λq=>(HT.out b q).2 rfl]
   have hfin:=HUPD.out w3 _ (λx o hx hnt ho=>by
    have hx1:=(HS.out.like hL x hx).1
    have e1:w3.cell? ⟨x,o,none⟩=((w1.setCell ⟨b,off+j*4+1,none⟩ (.string (Den.markT (kk+1)))).setCell ⟨b,off+j*4+2,none⟩ (.int .i64 (kk+1+1))).cell? ⟨x,o,none⟩:=by
     unfold World.cell?
     rw[hL3.block x (Nat.lt_of_lt_of_le hx1 L3.out.size) hnt]
    rw[e1]
    by_cases hxb:x=b
    ·subst hxb
     exact HW3.out o (ho rfl)
    ·unfold World.cell?
     rw[L3.out.block x hx1 hxb]) C5 hS3
   rw[HQ.out]at hfin
   have hLf:=hLS.out.trans (hL3.mono λx hx=>(HT.out x hx).1)
   clear C5 C4 HW3 HW1 L3 L2 L1 L0
   go_wp2_with fail
   go_roundw
   case rel=>exact⟨j+1,_,by omega,by go_num,rfl,HST.out.symm,hLf,hfin⟩
   case measure=>simp[intOf];omega
  ·have HK:Hid (kk=(mkTs k ts).2/\SepT wr (mkTs k ts).1 S (.slice A ts.length c)):=by
    obtain rfl:j=ts.length:=by omega
    rw[List.take_length]at hkk
    unfold mixT at hSj
    rw[List.take_length,List.drop_length,List.append_nil]at hSj
    exact⟨hkk,hSj⟩
   clear hkk hSj
   go_wp2_with fail
   go_ret
   exact⟨by have e:=HK.out.1;subst e;rfl,hL,HK.out.2⟩
theorem markTm_sep (t:Tm):MkS t:=by
 induction t using Tm.induct with
 |h o n s args ih=>exact λw S v k h hs h0 h1=>markTermS_sepOf args ih w S v k h hs h0 h1
theorem bne_text (s:ByteArray):(s !=s)=false:=by
 cases s with
 | mk d =>
  show (!(d==d))=false
  rw[beq_self_eq_true]
  rfl
def HdT (t:Tm):Prop:=∀(w:World) (S:Nat->Prop) (v:Value) (k:Int),At w S (terms (mkTs k t.args).1) v->0<=k->k+3*tmTotals t.args<=1073741824->
  Calls Tryz.prog 36 #[v,.int .i64 k] w λe w'=>e= .returned (.int .i64 (mkTs k t.args).2)/\Below w.heap.size w w'
set_option maxHeartbeats 2000000 in
theorem heldTermS_of (ts:List Tm) (ih:∀x∈ts,HdT x) (w:World) (S:Nat->Prop) (v:Value) (k:Int) (h:At w S (terms (mkTs k ts).1) v) (h0:0<=k) (h1:k+3*tmTotals ts<=1073741824):
  Calls Tryz.prog 36 #[v,.int .i64 k] w λe w'=>e= .returned (.int .i64 (mkTs k ts).2)/\Below w.heap.size w w':=by
 obtain⟨A,c,rfl,hn,hc⟩:=terms_slice h
 have hml:=mkTs_len ts k
 rw[hml]at hn h ⊢
 have IH:=Lib.hid ih
 clear ih
 go_enter Tryz.func36,Tryz.ntmps36
 go_wp2_with fail
 go_loopw [1,5] (λl i wr=>∃(j:Nat) (kk:Int),j<=ts.length/\i= .int .i64 j/\l= .int .i64 kk/\kk=(mkTs k (ts.take j)).2/\Below w.heap.size w wr) (λ_ i _=>ts.length-(intOf i).toNat)
 case atStart=>exact⟨0,k,Nat.zero_le _,rfl,rfl,by rw[List.take_zero,mkTs_nil],Below.refl _ _⟩
 case round=>
  obtain⟨j,kk,hj,rfl,rfl,hkk,hb⟩:=hrel
  by_cases hlt:j<ts.length
  ·obtain⟨t,ht⟩:∃t,ts[j]? =some t:=⟨_,gE hlt⟩
   have hb1:=mkL_le (ts.take j) k
   have hb2:=tmTotals_at ht
   have hb3:=Tm.total_eq t
   rw[<-hkk]at hb1
   obtain⟨b,off,q,u,rfl,_,hlb,hc1,hc2,hc3,hc4,hu,HX,_⟩:=terms_get (k:=j) (h.below hb) (by omega)
   have hst:=mkTs_step ht k
   rw[<-hkk]at hst
   have hst2:=congrArg Prod.snd hst
   have hq:q=⟨kk,Den.markT (kk+1),kk+2,(mkTs (kk+3) t.args).1⟩:=by
    have e1:(mkTs k (ts.take (j+1))).1[j]? =some ⟨kk,Den.markT (kk+1),kk+2,(mkTs (kk+3) t.args).1⟩:=by
     rw[hst]
     have hl:(mkTs k (ts.take j)).1.length=j:=by rw[mkTs_len,List.length_take];omega
     show ((mkTs k (ts.take j)).1++_)[j]? =_
     rw[aR (by omega),hl,Nat.sub_self];rfl
    have e2:(mkTs k ts).1[j]? =(mkTs k (ts.take (j+1))).1[j]? :=by
     conv=>lhs;rw[<-List.take_append_drop (j+1) ts,mkTs_app]
     show ((mkTs k (ts.take (j+1))).1++_)[j]? =_
     rw[aL (by rw[mkTs_len,List.length_take];omega)]
    have e3:=HX.out
    rw[e2,e1]at e3
    injection e3 with e3
    exact e3.symm
   subst hq
   have hmem:=mG ht
   have HST:=Lib.hid hst2
   have hlt0:=(mkL_le t.args (kk+3)).1
   have hge:decide ((mkTs (kk+1+1+1) t.args).2<0)=false:=dF (by rw[show kk+1+1+1=kk+3 by omega];omega)
   obtain⟨A',c',rfl,hn',hc'⟩:=terms_slice hu
   dsimp only at hc1 hc2 hc3 hc4 hu
   have e1:(kk !=kk)=false:=by simp
   have e2:(Den.markT (kk+1) !=Den.markT (kk+1))=false:=bne_text _
   have e3:(kk+2 !=kk+1+1)=false:=by rw[show kk+1+1=kk+2 by omega];exact bne_self_eq_false _
   clear hst hst2 hkk HX
   go_upto_region 7 with fail
   have hb:=hb.drew
   have HC3:=Lib.hid (show wr.drew.cell? ⟨b,off+j*4+2,none⟩=_ from hc3)
   have HC4:=Lib.hid (show wr.drew.cell? ⟨b,off+j*4+3,none⟩=_ from hc4)
   have HU:=Lib.hid (hu.below (Below.refl wr.heap.size wr).drew)
   have hc2:wr.drew.cell? ⟨b,off+j*4+1,none⟩=_:=hc2
   have hlb:b<wr.drew.heap.size:=hlb
   clear hc3 hc4 hu hc1
   go_region_held3 (λw'=>w'.cell? ⟨b,off+j*4+1,none⟩=some (.string (Den.markT (kk+1)))) (go_keep)
    (first|(go_at_call 74;refine(markText_val (kk+1) _ (by omega) (by omega)).mono ?_;rintro e w1 ⟨rfl,_,hb1'⟩;have hc2:=(hb1'.cell (p:=⟨b,off+j*4+1,none⟩) hlb).trans hc2))
   have hc3:=(hb1'.cell (p:=⟨b,off+j*4+2,none⟩) hlb).trans HC3.out
   have hc4:=(hb1'.cell (p:=⟨b,off+j*4+3,none⟩) hlb).trans HC4.out
   have HU:=Lib.hid (HU.out.below hb1')
   rw[mkTs_len]at HU
   have hb:=hb.trans (hb1'.mono hb.size)
   have hml2:=mkTs_len t.args (kk+3)
   go_wp2_with fail
   have e4:kk+1+1+1=kk+3:=by omega
   refine(IH.out t hmem _ S _ _ (by rw[e4];exact HU.out) (by omega) (by omega)).mono ?_
   rintro e w3 ⟨rfl,hb3⟩
   have hb:=hb.trans (hb3.mono hb.size)
   clear hc3 hc4 hml2
   go_wp2_with fail
   go_roundw
   case rel=>exact⟨j+1,_,by omega,by go_num,rfl,HST.out.symm,hb⟩
   case measure=>simp[intOf];omega
  ·have HK:Hid (kk=(mkTs k ts).2):=by
    obtain rfl:j=ts.length:=by omega
    rw[List.take_length]at hkk
    exact hkk
   clear hkk
   go_wp2_with fail
   go_ret
   exact⟨by have e:=HK.out;subst e;rfl,hb⟩
theorem heldTm_any (t:Tm):HdT t:=by
 induction t using Tm.induct with
 |h o n s args ih=>exact λw S v k h h0 h1=>heldTermS_of args ih w S v k h h0 h1
theorem markTerm_sep (t:Tm) (w:World) (S:Nat->Prop) (v:Value) (k:Int) (h:SepT w t.args S v) (hs:Soft S w) (h0:0<=k) (h1:k+3*tmTotals t.args<=1073741824):
  Calls Tryz.prog 12 #[.agg #[.int .i64 t.op,.string t.name,.int .i64 t.sort,v],.int .i64 k] w λe w'=>e= .returned (.int .i64 (mkTs k t.args).2)/\Like S w w'/\SepT w' (mkTs k t.args).1 S v:=by
 obtain⟨A,c,rfl,hn,hc⟩:=terms_slice h.at_
 have HS:=Lib.hid (hs.alloc (.cells #[.int .i64 t.op,.string t.name,.int .i64 t.sort,.slice A t.args.length c] 32))
 have HT:=Lib.hid (h.nx ((Below.refl _ _).alloc (Nat.le_refl _) (.cells #[.int .i64 t.op,.string t.name,.int .i64 t.sort,.slice A t.args.length c] 32)) λx hx=>(hs x hx).1)
 clear h hs
 go_enter Tryz.func12,Tryz.ntmps12
 go_wp2_with fail
 refine(markTm_sep t _ S _ k HT.out HS.out h0 h1).mono ?_
 rintro e w1 ⟨rfl,hL,hT⟩
 have HL:=Lib.hid (Like.front _ hL)
 have HT:=Lib.hid hT
 clear hL hT
 go_wp2_with fail
 go_ret
 exact⟨rfl,HL.out,HT.out⟩
theorem heldTerm_any (t:Tm) (w:World) (S:Nat->Prop) (o:Int) (nm:ByteArray) (s:Int) (v:Value) (k:Int) (h:At w S (terms (mkTs k t.args).1) v) (h0:0<=k) (h1:k+3*tmTotals t.args<=1073741824):
  Calls Tryz.prog 13 #[.agg #[.int .i64 o,.string nm,.int .i64 s,v],.int .i64 k] w λe w'=>e= .returned (.int .i64 (mkTs k t.args).2)/\Below w.heap.size w w':=by
 obtain⟨A,c,rfl,hn,hc⟩:=terms_slice h
 have hlt0:=(mkL_le t.args k).1
 have hge:decide ((mkTs k t.args).2<0)=false:=dF (by omega)
 have HT:=Lib.hid (h.alloc (.cells #[.int .i64 o,.string nm,.int .i64 s,.slice A (mkTs k t.args).1.length c] 32))
 clear h
 go_enter Tryz.func13,Tryz.ntmps13
 go_wp2_with fail
 refine(heldTm_any t _ S _ k HT.out h0 h1).mono ?_
 rintro e w1 ⟨rfl,hb⟩
 go_wp2_with fail
 go_ret
 exact⟨rfl,by repeat with_reducible (first|exact Below.refl _ _|refine Below.setCell ?_ (by first|omega|(simp<;>omega)) _|refine Below.drew ?_|refine below_drewN ?_ _|refine Below.alloc ?_ (by first|omega|(simp<;>omega)) _|refine Below.trans ?_ (Below.mono (by assumption) (by first|omega|(simp<;>omega))))⟩
theorem Tryz.infoTermI :(Tryz.prog.info? 32).map (λi=>(i.zero,i.size,i.bytes))=some (some (.agg #[.int .i64 0,.string ⟨#[]⟩,.int .i64 0,.slice none 0 0]),4,56):=by kernel_rfl
theorem SepT.setCell {w:World} {ts:List Tm} {S:Nat->Prop} {v:Value} (h:SepT w ts S v) {p:Addr} (hp:¬S p.block) (u:Value):SepT (w.setCell p u) ts S v:=h.keep λx o hx=>World.cell?_setCell_other w p ⟨x,o,none⟩ u (λe=>by subst e;exact hp hx)
theorem Soft.setCell {w:World} {S:Nat->Prop} (h:Soft S w) (p:Addr) (u:Value):Soft S (w.setCell p u):=λb hb=>⟨by rw[World.size_setCell];exact(h b hb).1,λo=>(World.frozen?_setCell _ _ _ _).trans ((h b hb).2 o)⟩
def CopT (t:Tm):Prop:=∀(w:World) (S:Nat->Prop) (v:Value),At w S (terms t.args) v->tmTotals t.args<=1048576->
  Calls Tryz.prog 29 #[.agg #[.int .i64 t.op,.string t.name,.int .i64 t.sort,v]] w λe w'=>∃v' T,e= .returned (.agg #[.int .i64 t.op,.string t.name,.int .i64 t.sort,v'])/\(∀x,T x->w.heap.size<=x)/\Soft T w'/\SepT w' t.args T v'/\Below w.heap.size w w'
structure CRow (w:World) (B:Nat) (kv:Value) (j:Nat) (ts:List Tm) (vs:List Value) (U:Nat->Value) (T:Nat->Nat->Prop):Prop where
 own:w.ownsRow B 32 4 kv j vs
 cells:∀(k:Nat) (t:Tm),k<j->ts[k]? =some t->vs[k*4]? =some (.int .i64 t.op)/\vs[k*4+1]? =some (.string t.name)/\vs[k*4+2]? =some (.int .i64 t.sort)/\vs[k*4+3]? =some (U k)
 sep:∀(k:Nat) (t:Tm),k<j->ts[k]? =some t->SepT w t.args (T k) (U k)
 from_:∀k x,k<j->T k x->B<=x/\some x≠kv.ownBlock
 soft:∀k,k<j->Soft (T k) w
 dis:∀i k x,i<k->k<j->T i x->¬T k x
theorem CRow.below {w w':World} {B:Nat} {kv:Value} {j:Nat} {ts:List Tm} {vs:List Value} {U:Nat->Value} {T:Nat->Nat->Prop} (h:CRow w B kv j ts vs U T) (hb:Below w.heap.size w w'):CRow w' B kv j ts vs U T where
 own:=by
  have hg:w.grownBy w' none:=⟨hb.os,hb.tape,hb.output,hb.size,λk hk _=>hb.block k hk⟩
  refine h.own.kept hg ?_
  cases kv.ownBlock with
  |none=>exact .inl rfl
  |some b=>exact .inr (by simp)
 cells:=h.cells
 sep:=λk t hk ht=>(h.sep k t hk ht).nx hb λx hx=>(h.soft k hk x hx).1
 from_:=h.from_
 soft:=λk hk=>(h.soft k hk).like (Like.of_below (S:=T k) hb)
 dis:=h.dis
theorem CRow.step {w2 w3:World} {B:Nat} {kv:Value} {j:Nat} {ts:List Tm} {vs:List Value} {U:Nat->Value} {T:Nat->Nat->Prop} {t:Tm} {u:Value} {S:Nat->Prop} {g cap H:Nat} (h:CRow w2 B kv j ts vs U T) (hB:B<=H)
  (ht:ts[j]? =some t) (hs:SepT w2 t.args S u) (hS:∀x,S x->B<=x/\some x≠kv.ownBlock) (hsoft:Soft S w2) (hd:∀k x,k<j->T k x->¬S x)
  (hown:w3.ownsRow B 32 4 (.slice (some ⟨g,0,none⟩) (j+1) cap) (j+1) (vs++[.int .i64 t.op,.string t.name,.int .i64 t.sort,u])) (hg:w2.grownBy w3 kv.ownBlock) (hat:kv.ownBlock=some g\/g=H) (hH:w2.heap.size=H):
  CRow w3 B (.slice (some ⟨g,0,none⟩) (j+1) cap) (j+1) ts (vs++[.int .i64 t.op,.string t.name,.int .i64 t.sort,u]) (λk=>if k=j then u else U k) (λk=>if k=j then S else T k):=by
 have hl:vs.length=j*4:=h.own.1
 have ne:∀{x:Nat} {R:Nat->Prop},R x->Soft R w2->some x≠kv.ownBlock->x≠g:=λ{x R} hx hR hk e=>by
  subst e
  rcases hat with e|e
  ·exact hk e.symm
  ·have:=(hR x hx).1;omega
 have keep:∀{a:List Tm} {R:Nat->Prop} {z:Value},SepT w2 a R z->(∀x,R x->some x≠kv.ownBlock)->Soft R w2->SepT w3 a R z/\Soft R w3:=λ{a R z} ha hR hso=>
  ⟨ha.keep λx o hx=>World.cell?_of_block (hg.block x (hso x hx).1 (hR x hx)),λx hx=>⟨Nat.lt_of_lt_of_le (hso x hx).1 hg.size,λo=>(World.frozen?_of_block (hg.block x (hso x hx).1 (hR x hx))).trans ((hso x hx).2 o)⟩⟩
 refine⟨hown,λk q hk hq=> ?_,λk q hk hq=> ?_,λk x hk hx=> ?_,λk hk=> ?_,λi k x hik hk hx=> ?_⟩
 ·by_cases e:k=j
  ·subst e
   rw[ht]at hq
   cases hq
   rw[if_pos rfl]
   refine⟨?_,?_,?_,?_⟩<;>(rw[aR (by omega),hl];simp)
  ·rw[if_neg e]
   obtain⟨c0,c1,c2,c3⟩:=h.cells k q (by omega) hq
   refine⟨?_,?_,?_,?_⟩<;>(rw[aL (by omega)];assumption)
 ·by_cases e:k=j
  ·subst e
   rw[ht]at hq
   cases hq
   rw[if_pos rfl,if_pos rfl]
   exact(keep hs (λx hx=>(hS x hx).2) hsoft).1
  ·rw[if_neg e,if_neg e]
   exact(keep (h.sep k q (by omega) hq) (λx hx=>(h.from_ k x (by omega) hx).2) (h.soft k (by omega))).1
 ·have key:∀{R:Nat->Prop},R x->Soft R w2->B<=x/\some x≠kv.ownBlock->B<=x/\some x≠(Value.slice (some ⟨g,0,none⟩) (j+1) cap).ownBlock:=λ{R} hx hso h0=>⟨h0.1,λe=>by
   simp only[Value.ownBlock,Option.some.injEq]at e
   exact ne hx hso h0.2 e⟩
  by_cases e:k=j
  ·subst e
   rw[if_pos rfl]at hx
   exact key hx hsoft (hS x hx)
  ·rw[if_neg e]at hx
   exact key hx (h.soft k (by omega)) (h.from_ k x (by omega) hx)
 ·by_cases e:k=j
  ·subst e
   rw[if_pos rfl]
   exact(keep hs (λx hx=>(hS x hx).2) hsoft).2
  ·rw[if_neg e]
   have hk':k<j:=by omega
   intro x hx
   have h1:=h.soft k hk' x hx
   have h2:=(h.from_ k x hk' hx).2
   exact⟨Nat.lt_of_lt_of_le h1.1 hg.size,λo=>(World.frozen?_of_block (hg.block x h1.1 h2)).trans (h1.2 o)⟩
 ·rw[if_neg (show i≠j by omega)]at hx
  by_cases e:k=j
  ·subst e
   rw[if_pos rfl]
   exact hd i x hik hx
  ·rw[if_neg e]
   exact h.dis i k x hik (by omega) hx
theorem CRow.done {w:World} {B:Nat} {kv:Value} {ts:List Tm} {vs:List Value} {U:Nat->Value} {T:Nat->Nat->Prop} (h:CRow w B kv ts.length ts vs U T) (hf:∀t∈ts,t.fits):
  ∃S,(∀x,S x->B<=x)/\Soft S w/\SepT w ts S kv:=by
 have nn:ts=[]->kv= .slice none 0 0->∃S,(∀x,S x->B<=x)/\Soft S w/\SepT w ts S kv:=λe1 e2=>by
  subst e1 e2
  exact⟨λ_=>False,λ_ h=>h.elim,λ_ h=>h.elim,.nil (by omega)⟩
 rcases h.own.2 with⟨e1,e2⟩|⟨g,cap,cur,e1,e2,e3,e4,e5,e6,e7⟩
 ·exact nn (nZ e2) e1
 ·have hlt:g<w.heap.size:=by
   rcases Nat.lt_or_ge g w.heap.size with h|h
   ·exact h
   ·rw[Array.getElem?_eq_none h]at e3;cases e3
  have hl:vs.length=ts.length*4:=h.own.1
  have hcell:∀m u,vs[m]? =some u->w.cell? ⟨g,m,none⟩=some u:=λm u hm=>by
   have h1:m<vs.length:=(gI.1 hm).1
   rw[cell_of_row w g m cur 32 (0,0) e3,<-Array.getElem?_toList]
   rw[<-e7,List.getElem?_take]at hm
   split at hm
   ·exact hm
   ·cases hm
  refine⟨λx=>x=g\/∃k,k<ts.length/\T k x,λx hx=> ?_,λx hx=> ?_,?_⟩
  ·rcases hx with rfl|⟨k,hk,hx⟩
   ·exact e2
   ·exact(h.from_ k x hk hx).1
  ·rcases hx with rfl|⟨k,hk,hx⟩
   ·exact⟨hlt,λo=>by simp[World.frozen?,e3]⟩
   ·exact h.soft k hk x hx
  ·subst e1
   refine .row (U:=U) (T:=T) (off:=0) e4 (by simp only[maxLen]at e5;omega) (.inl rfl) (λk x hk hx=>⟨.inr ⟨k,hk,hx⟩,λe=>(h.from_ k x hk hx).2 (by rw[e];rfl)⟩) (λi k x hik hk hx=>h.dis i k x hik hk hx) (λk t ht=> ?_) (λk t ht=>h.sep k t (gI.1 ht).1 ht)
   have hk:=(gI.1 ht).1
   obtain⟨c0,c1,c2,c3⟩:=h.cells k t hk ht
   rw[Nat.zero_add]
   exact⟨hcell _ _ c0,hcell _ _ c1,hcell _ _ c2,hcell _ _ c3,hf t (mG ht)⟩
theorem CRow.nil (w:World) (B:Nat) (ts:List Tm):CRow w B (.slice none 0 0) 0 ts [] (λ_=>undef) (λ_ _=>False):=⟨World.ownsRow_nil _ _ _ _,λ_ _ h=>by omega,λ_ _ h=>by omega,λ_ _ h=>by omega,λ_ h=>by omega,λ_ _ _ _ h=>by omega⟩
set_option maxRecDepth 20000 in
set_option maxHeartbeats 2000000 in
theorem copyTerms_of (ts:List Tm) (ih:∀x∈ts,CopT x) (w:World) (S:Nat->Prop) (v:Value) (h:At w S (terms ts) v) (h1:tmTotals ts<=1048576):
  Calls Tryz.prog 68 #[v] w λe w'=>∃v' T,e= .returned v'/\(∀x,T x->w.heap.size<=x)/\Soft T w'/\SepT w' ts T v'/\Below w.heap.size w w':=by
 obtain⟨A,c,rfl,hn,hc⟩:=terms_slice h
 have IH:=Lib.hid ih
 clear ih
 unfold tmTotals at h1
 obtain⟨i0,hi0,hz0,hz1,hz2⟩:=info_parts Tryz.infoTermI
 go_enter Tryz.func68,Tryz.ntmps68
 go_wp2_with fail
 go_loopw [3,8] (λkv i wr=>∃(j:Nat) (vs:List Value) (U:Nat->Value) (T:Nat->Nat->Prop),j<=ts.length/\i= .int .i64 j/\CRow wr w.heap.size kv j ts vs U T/\Below w.heap.size w wr) (λ_ i _=>ts.length-(intOf i).toNat)
 case atStart=>exact⟨0,_,_,_,Nat.zero_le _,rfl,CRow.nil _ _ _,Below.refl _ _⟩
 case round =>
  obtain⟨j,vs,U,T,hj,rfl,hR,hb⟩:=hrel
  by_cases hlt:j<ts.length
  ·obtain⟨b,off,t,u,rfl,_,hlb,hc1,hc2,hc3,hc4,hu,HX,_⟩:=terms_get (h.below hb) hlt
   obtain⟨Au,cu,rfl,hnu,hcu⟩:=terms_slice hu
   have hmem:=mG HX.out
   have hle:=le_sum_of_mem (f:=Tm.total) hmem
   have htt:=Tm.total_eq t
   have HR0:=Lib.hid hR
   have HR:=Lib.hid (hR.below ((Below.refl _ _).alloc (Nat.le_refl _) (.cells #[.int .i64 t.op,.string t.name,.int .i64 t.sort,.slice Au t.args.length cu] 32)))
   clear hR
   go_wp2_with fail
   refine(IH.out t hmem _ S _ (hu.alloc _) (by omega)).mono ?_
   rintro e w1 ⟨v',T1,rfl,hT1,hTs,ha,hb1⟩
   obtain⟨A',c',rfl,hn',hc'⟩:=terms_slice ha.at_
   have hz1':=hb1.size
   simp only[World.size_alloc]at hz1'
   have hR1:=HR.out.below hb1
   have hR2:=hR1.below ((Below.refl _ _).alloc (Nat.le_refl _) (.cells #[.int .i64 t.op,.string t.name,.int .i64 t.sort,.slice A' t.args.length c'] 32))
   have HR2:=Lib.hid hR2
   have hown2:=hR2.own
   have HA2:=Lib.hid (ha.nx ((Below.refl _ _).alloc (Nat.le_refl _) (.cells #[.int .i64 t.op,.string t.name,.int .i64 t.sort,.slice A' t.args.length c'] 32)) λx hx=>(hTs x hx).1)
   have HS2:=Lib.hid (hTs.alloc (.cells #[.int .i64 t.op,.string t.name,.int .i64 t.sort,.slice A' t.args.length c'] 32))
   have HB:=Lib.hid ((hb.alloc hb.size (.cells #[.int .i64 t.op,.string t.name,.int .i64 t.sort,.slice Au t.args.length cu] 32)).trans (hb1.mono (by simp;have:=hb.size;omega)))
   have HT1:=Lib.hid hT1
   have hwz:=hb.size
   clear hR1 hR2 ha hTs HR hT1
   go_wp2_with (first
    |(at_builtin;refine wpList_append_lies _ rfl _ _ 30 rfl w.heap.size 32 i0 (.agg #[.int .i64 0,.string ⟨#[]⟩,.int .i64 0,.slice none 0 0]) 4 56 Tryz.underlying30 hi0 hz0 hz1 hz2 rfl (by decide) _ _ _ rfl hown2 ⟨w1.heap.size,0,none⟩ 1 1 [.int .i64 t.op,.string t.name,.int .i64 t.sort,.slice A' t.args.length c'] rfl rfl ?c1 ?c2 (by omega) ?c3 ?c4 ?c5 (w1.heap.size+1) ?c6 ?_)
    |go_in)
   case c1=>exact World.news_of_block (Blk.new w1 32 #[.int .i64 t.op,.string t.name,.int .i64 t.sort,.slice A' t.args.length c'])
   case c2=>
    intro u hu
    simp only[List.mem_cons,List.not_mem_nil,or_false]at hu
    rcases hu with rfl|rfl|rfl|rfl<;>rfl
   case c3=>unfold maxLen;omega
   case c4=>omega
   case c5=>rw[World.size_alloc];omega
   case c6=>rw[World.size_alloc]
   ·intro g cap w3 hown' hgrow hat hlt'
    go_wp2_with fail
    go_roundw
    case rel=>
     have hx1:∀x,T1 x->wr.heap.size+1<=x:=λx hx=>by have:=HT1.out x hx;rw[World.size_alloc]at this;exact this
     refine⟨j+1,_,_,_,by omega,by go_num,HR2.out.step (S:=T1) (H:=w1.heap.size+1) (by omega) HX.out HA2.out (λx hx=>⟨by have:=hx1 x hx;omega,λe=> ?_⟩) HS2.out (λk x hk hx hs=> ?_) hown' hgrow hat (World.size_alloc _ _),?_⟩
     ·have:=(HR0.out.own.lt x e.symm).2
      have:=hx1 x hx
      omega
     ·have:=(HR0.out.soft k hk x hx).1
      have:=hx1 x hs
      omega
     ·exact Below.grown (HB.out.alloc (by omega) _) hgrow (by rw[World.size_alloc];omega) (λk hk=>(HR0.out.own.lt k hk).1)
    case measure=>simp[intOf];omega
  ·obtain rfl:j=ts.length:=by omega
   obtain⟨R,r1,r2,r3⟩:=hR.done λt ht=>by
    obtain⟨k,hk⟩:=List.mem_iff_getElem?.1 ht
    obtain⟨_,_,t',_,_,_,_,_,_,_,_,_,hX,hfit⟩:=terms_get h (gI.1 hk).1
    have e:=hX.out
    rw[hk]at e
    cases e
    exact hfit
   clear hR
   have R1:=Lib.hid r1
   have R2:=Lib.hid r2
   have R3:=Lib.hid r3
   clear r1 r2 r3
   obtain⟨A',c',rfl,_,_⟩:=terms_slice R3.out.at_
   go_wp2_with fail
   go_ret
   exact⟨_,R,rfl,R1.out,R2.out,R3.out,hb⟩
set_option maxHeartbeats 400000 in
theorem copyTerm_any (t:Tm):CopT t:=by
 induction t using Tm.induct with
 | h o n s args ih =>
  intro w S v h h1
  have IH:=Lib.hid ih
  clear ih
  obtain⟨A,c,rfl,hn,hc⟩:=terms_slice h
  have B0:=Lib.hid ((Blk.new w 32 #[.int .i64 o,.string n,.int .i64 s,.slice A args.length c]).alloc (.cells #[.int .i64 0,.string ⟨#[]⟩,.int .i64 0,.slice none 0 0] 32))
  have B1:=Lib.hid (Blk.new (w.alloc (.cells #[.int .i64 o,.string n,.int .i64 s,.slice A args.length c] 32)) 32 #[.int .i64 0,.string ⟨#[]⟩,.int .i64 0,.slice none 0 0])
  simp only[World.size_alloc]at B1
  go_enter Tryz.func29,Tryz.ntmps29
  go_wp2_with fail
  refine(copyTerms_of args IH.out _ S _ ((h.alloc _).alloc _) h1).mono ?_
  rintro e w1 ⟨v',T,rfl,hT,hTs,ha,hb⟩
  obtain⟨A',c',rfl,hn',hc'⟩:=terms_slice ha.at_
  have B0:=Lib.hid (B0.out.next hb)
  have B1:=Lib.hid (B1.out.next hb)
  have hx1:∀x,T x->w.heap.size+1+1<=x:=λx hx=>by have:=hT x hx;simp only[World.size_alloc]at this;exact this
  have q0:=B0.out.cell 0
  have q1:=B0.out.cell 1
  have q2:=B0.out.cell 2
  have q3:=B0.out.cell 3
  have p0:=B1.out.cell 0
  have p1:=B1.out.cell 1
  have p2:=B1.out.cell 2
  have p3:=B1.out.cell 3
  simp at q0 q1 q2 q3 p0 p1 p2 p3
  have f0:=B0.out.frozen 3
  have g0:=B1.out.frozen 0
  have g1:=B1.out.frozen 1
  have g2:=B1.out.frozen 2
  have g3:=B1.out.frozen 3
  have HA:=Lib.hid ha
  have HTs:=Lib.hid hTs
  have hz:=hb.size
  simp only[World.size_alloc]at hz
  clear ha hTs hT
  go_wp2_with fail
  refine bodyPost_ret (v:=.agg #[.int .i64 o,.string n,.int .i64 s,.slice A' args.length c']) (by simp[results,Tryz.results29,go_sem,p0,p1,p2,p3]) rfl ⟨_,T,rfl,λx hx=>by have:=hx1 x hx;omega,?_,?_,?_⟩
  ·exact((((HTs.out.setCell _ _).setCell _ _).setCell _ _).setCell _ _).setCell _ _
  ·have nT:∀x,x<w.heap.size+1+1->¬T x:=λx hx q=>by have:=hx1 x q;omega
   exact((((HA.out.setCell (nT _ (by simp;omega)) _).setCell (nT _ (by simp)) _).setCell (nT _ (by simp)) _).setCell (nT _ (by simp)) _).setCell (nT _ (by simp)) _
  ·repeat with_reducible (first|exact Below.refl _ _|refine Below.setCell ?_ (by first|omega|(simp<;>omega)) _|refine Below.drew ?_|refine below_drewN ?_ _|refine Below.alloc ?_ (by first|omega|(simp<;>omega)) _|refine Below.trans ?_ (Below.mono (by assumption) (by first|omega|(simp<;>omega))))
theorem copyTerm_sep (t:Tm) (w:World) (S:Nat->Prop) (v:Value) (h:At w S (terms t.args) v) (h1:tmTotals t.args<=1048576):
  Calls Tryz.prog 29 #[.agg #[.int .i64 t.op,.string t.name,.int .i64 t.sort,v]] w λe w'=>∃v' T,e= .returned (.agg #[.int .i64 t.op,.string t.name,.int .i64 t.sort,v'])/\(∀x,T x->w.heap.size<=x)/\Soft T w'/\SepT w' t.args T v'/\Below w.heap.size w w':=copyTerm_any t w S v h h1
end Go.Proofs.YtfdkldmkbibknaaGreat
namespace Go.Proofs.YtfdkldmkbibknaaGreat.Den
open Go.RowKit
open Classical
open Abs (Cx Rel)
section
variable {s : Sg} {t : ByteArray} {w : World} {v u z : Value} (h : At w Any (strs s.sorts.names) v) (k : At w Any (subs s.sorts.subs) u) (l : At w Any (oprs s.ops) z) (ht : t.size ≤ maxLen)
include h k l ht
theorem spec_pt :Calls Tryz.prog 6 #[.agg #[v,u,z],.string t] w λe w'=>∃sv,e= .returned (.tuple #[.agg #[.int .i64 (parseF s t).1.op,.string (parseF s t).1.name,.int .i64 (parseF s t).1.sort,sv],.bool (parseF s t).2])/\
  At w' Any (terms (parseF s t).1.args) sv/\(parseF s t).1.fits/\Below w.heap.size w w':=by
 have hcfn:CFn Tryz.prog 6 [.agg [.l .s s.sorts.names,.l (.n 5) s.sorts.subs,.l (.n 8) s.ops],.one (.s t)] [] (.tup [.agg [.i (parseF s t).1.op,.s (parseF s t).1.name,.i (parseF s t).1.sort,.l (.n 1) (parseF s t).1.args],.one (.b (parseF s t).2)]) []:=by
  obtain⟨v,H',e,q⟩:=z2y (AT×List Ob) [.agg [.l .s s.sorts.names,.l (.n 5) s.sorts.subs,.l (.n 8) s.ops],.one (.s t)] [] (λv H'=>some (v,H')) _ rfl
  cases e
  exact q
 obtain⟨v1,t1,a1⟩:=arg_sig (J:=λb=>b<w.heap.size) (λb _ hb=>hb) h k l
 obtain⟨v2,t2,a2⟩:=arg_str (w:=w) (J:=λb=>b<w.heap.size) ht
 refine(calls_cfn hcfn (λ_ hb=>hb) (atrs_cons t1 (atrs_cons t2 atrs_nil)) (ars_cons a1 (ars_cons a2 ars_nil))).mono λe w' ⟨r,h',ι',I',c,ρ',e1,q1,_,D,hb⟩=> ?_
 obtain⟨r1,r2,c1,c2,rfl,y1,y2,y3,y4⟩:=res_tup2 q1 D.res
 obtain⟨z,rfl,p2,pf⟩:=res_tm y1 y2
 obtain⟨x3,p5,p6⟩:=res_one y3 y4
 obtain rfl:=res_bool p5 p6
 exact⟨_,e1,p2.any,pf,hb⟩
end
section
variable {F : In} {E : Cx} {ρ : Rho} {st : St} {L : Abs.Env} {h : Abs.Heap} {ι : List Abs.Inf} {I : Nat → Prop} {a : Act} {w : World}
theorem box_at (hs:SR F ρ st L h) (r:Rel E L h ι I a w) {t id:Nat} {cs:List C} (h9:st.L.lookup t=some (.one (.p id 0))) (hb:st.H[id]? =some (.box cs)):
  ∃B o cur ty vs,a.tmps[t]? =some (.pointer (some ⟨B,o,none⟩))/\w.heap[B]? =some (.cells cur ty (0,0))/\o+cs.length<=cur.size/\CRs ρ st.H cs vs/\(∀(j:Nat) (hj:j<vs.length),∃u,w.cell? ⟨B,o+j,none⟩=some u/\Abs.VR I w ι vs[j] u)/\(E.pass B\/E.w0.heap.size<=B):=by
 obtain⟨av,k1,k2⟩:=hs.slots t _ h9
 obtain⟨x,rfl,k3⟩:=k2.one'
 obtain⟨b,rfl,k4⟩:=k3.ptr
 obtain⟨b',vs,k5,k6,k7⟩:=hs.heap.box id cs hb
 rw[k4]at k5
 cases k5
 obtain⟨c,c1,c2⟩:=r.slots t _ k1
 cases c2 with
 | one c2 => cases c2 with
  | @ptr _ _ _ _ inf hi=>
   obtain⟨cur,ty,e1,e2,e3,e4,e5,e6,e7⟩:=r.heap.obj b _ inf k6 hi
   have hcap:1<=inf.cap:=by simpa using e5
   have hmul:1*vs.length<=inf.cap*vs.length:=Nat.mul_le_mul_right _ hcap
   have hl:=k7.1
   refine⟨inf.block,inf.base,cur,ty,vs,by simpa using c1,e1,by omega,k7,λj hj=> ?_,r.mine b _ inf k6 hi⟩
   obtain⟨u,u1,u2⟩:=e7 0 (by simp) j hj
   refine⟨u,?_,u2⟩
   rw[cell_of_row w inf.block _ cur ty (0,0) e1]
   simpa using u1
theorem cons_of {α:Type} {l:List α} {n:Nat} (h:l.length=n+1):∃x k,l=x::k/\k.length=n:=by
 cases l with
 |nil=>cases h
 |cons x k=>exact⟨x,k,rfl,Nat.succ.inj h⟩
theorem arr43 {cs:Array Value} (h:cs.size=43):∃x0 x1 x2 x3 x4 x5 x6 x7 x8 x9 x10 x11 x12 x13 x14 x15 x16 x17 x18 x19 x20 x21 x22 x23 x24 x25 x26 x27 x28 x29 x30 x31 x32 x33 x34 x35 x36 x37 x38 x39 x40 x41 x42,cs= #[x0,x1,x2,x3,x4,x5,x6,x7,x8,x9,x10,x11,x12,x13,x14,x15,x16,x17,x18,x19,x20,x21,x22,x23,x24,x25,x26,x27,x28,x29,x30,x31,x32,x33,x34,x35,x36,x37,x38,x39,x40,x41,x42]:=by
 rcases cs with⟨l⟩
 have h:l.length=43:=h
 obtain⟨x0,l0,rfl,h0⟩:=cons_of h
 obtain⟨x1,l1,rfl,h1⟩:=cons_of h0
 obtain⟨x2,l2,rfl,h2⟩:=cons_of h1
 obtain⟨x3,l3,rfl,h3⟩:=cons_of h2
 obtain⟨x4,l4,rfl,h4⟩:=cons_of h3
 obtain⟨x5,l5,rfl,h5⟩:=cons_of h4
 obtain⟨x6,l6,rfl,h6⟩:=cons_of h5
 obtain⟨x7,l7,rfl,h7⟩:=cons_of h6
 obtain⟨x8,l8,rfl,h8⟩:=cons_of h7
 obtain⟨x9,l9,rfl,h9⟩:=cons_of h8
 obtain⟨x10,l10,rfl,h10⟩:=cons_of h9
 obtain⟨x11,l11,rfl,h11⟩:=cons_of h10
 obtain⟨x12,l12,rfl,h12⟩:=cons_of h11
 obtain⟨x13,l13,rfl,h13⟩:=cons_of h12
 obtain⟨x14,l14,rfl,h14⟩:=cons_of h13
 obtain⟨x15,l15,rfl,h15⟩:=cons_of h14
 obtain⟨x16,l16,rfl,h16⟩:=cons_of h15
 obtain⟨x17,l17,rfl,h17⟩:=cons_of h16
 obtain⟨x18,l18,rfl,h18⟩:=cons_of h17
 obtain⟨x19,l19,rfl,h19⟩:=cons_of h18
 obtain⟨x20,l20,rfl,h20⟩:=cons_of h19
 obtain⟨x21,l21,rfl,h21⟩:=cons_of h20
 obtain⟨x22,l22,rfl,h22⟩:=cons_of h21
 obtain⟨x23,l23,rfl,h23⟩:=cons_of h22
 obtain⟨x24,l24,rfl,h24⟩:=cons_of h23
 obtain⟨x25,l25,rfl,h25⟩:=cons_of h24
 obtain⟨x26,l26,rfl,h26⟩:=cons_of h25
 obtain⟨x27,l27,rfl,h27⟩:=cons_of h26
 obtain⟨x28,l28,rfl,h28⟩:=cons_of h27
 obtain⟨x29,l29,rfl,h29⟩:=cons_of h28
 obtain⟨x30,l30,rfl,h30⟩:=cons_of h29
 obtain⟨x31,l31,rfl,h31⟩:=cons_of h30
 obtain⟨x32,l32,rfl,h32⟩:=cons_of h31
 obtain⟨x33,l33,rfl,h33⟩:=cons_of h32
 obtain⟨x34,l34,rfl,h34⟩:=cons_of h33
 obtain⟨x35,l35,rfl,h35⟩:=cons_of h34
 obtain⟨x36,l36,rfl,h36⟩:=cons_of h35
 obtain⟨x37,l37,rfl,h37⟩:=cons_of h36
 obtain⟨x38,l38,rfl,h38⟩:=cons_of h37
 obtain⟨x39,l39,rfl,h39⟩:=cons_of h38
 obtain⟨x40,l40,rfl,h40⟩:=cons_of h39
 obtain⟨x41,l41,rfl,h41⟩:=cons_of h40
 obtain⟨x42,l42,rfl,h42⟩:=cons_of h41
 obtain rfl:=nZ h42
 exact⟨_,_,_,_,_,_,_,_,_,_,_,_,_,_,_,_,_,_,_,_,_,_,_,_,_,_,_,_,_,_,_,_,_,_,_,_,_,_,_,_,_,_,_,rfl⟩
theorem pre_ret {r:AT} (hs:SR F ρ st L h) (rl:Rel E L h ι I a w) (hK:preK .ret st=some (.inr r)):∃c av,(results Tryz.f8 a.tmps).run Tryz.prog w= .ok c w/\ATR ρ st.H r av/\Abs.AR ι I w av c:=by
 unfold preK at hK
 simp only at hK
 split at hK
 ·rename_i vs hvs
  split at hK
  ·rename_i us hus
   cases hK
   obtain⟨avs',a1,a2⟩:=resDs_ok tb_ok hs hvs
   obtain⟨bvs,b1,b2,b3⟩:=peekAs0_ok hus a1
   obtain⟨c,c1,c2⟩:=(res_pack (fn:=Tryz.f8) (by kernel_rfl) a2 b3).get _ _ _ _ _ rl
   exact⟨c,_,c1,packR_ok (peekAs_up hus b1),c2⟩
  ·cases hK
 ·cases hK
theorem pre_norm {st:St} {cs:List C} (hK:preK .normal st=some (.inl cs)):∃i9 i4 ds,st.L.lookup 9=some (.one (.p i9 0))/\st.L.lookup 4=some (.one (.p i4 0))/\st.H[i9]? =some (.box cs)/\st.H[i4]? =some (.box ds)/\ds.length=4:=by
 unfold preK at hK
 simp only at hK
 split at hK
 ·rename_i i9 i4 h9 h4
  split at hK
  ·rename_i cs' ds b9 b4
   cases hl:Nat.beq ds.length 4 with
   | true =>
    rw[hl,cT]at hK
    cases hK
    exact⟨i9,i4,ds,h9,h4,b9,b4,nB hl⟩
   |false=>rw[hl,cF]at hK;cases hK
  ·cases hK
 ·cases hK
end
section
variable {s : Sg} {t : ByteArray} {w : World} {v u z : Value} (h : At w Any (strs s.sorts.names) v) (k : At w Any (subs s.sorts.subs) u) (l : At w Any (oprs s.ops) z) (ht : t.size ≤ maxLen)
include h k l ht
set_option maxRecDepth 20000 in
set_option maxHeartbeats 4000000 in
theorem impl_pt :Calls Tryz.prog 8 #[.agg #[v,u,z],.string t] w λe w'=>∃sv T,e= .returned (.tuple #[.agg #[.int .i64 (parseF s t).1.op,.string (parseF s t).1.name,.int .i64 (parseF s t).1.sort,sv],.bool (parseF s t).2])/\
  (∀x,T x->w.heap.size<=x)/\Soft T w'/\SepT w' (parseF s t).1.args T sv/\Below w.heap.size w w':=by
 obtain⟨v1,t1,a1⟩:=arg_sig (J:=λb=>b<w.heap.size) (λb _ hb=>hb) h k l
 obtain⟨v2,t2,a2⟩:=arg_str (w:=w) (J:=λb=>b<w.heap.size) ht
 cases hb:(parseF s t).2 with
 | false =>
  obtain⟨he,_⟩:=parseF_no hb
  refine calls_tail (tb:=tb) (O:=orcOf preL) (an:=z0g.an) (pc:=z0g.pc ⟨gNewA,gTm 21,gSkI,λt=>some t⟩ 1) (c:=z0g.bd) (xs:=[.agg [.l .s s.sorts.names,.l (.n 5) s.sorts.subs,.l (.n 8) s.ops],.one (.s t)]) 7 (K:=preK)
   mixed tb_ok (orc_ok preL_ok) Tryz.func8 (by kernel_rfl) (by kernel_rfl) (by kernel_rfl) rfl (by kernel_rfl) (apl [] trivial) ((pre_den s t).trans (pre_no hb)) (λ_ hb=>hb) (atrs_cons t1 (atrs_cons t2 atrs_nil)) (ars_cons a1 (ars_cons a2 ars_nil)) λe ρ st L h ι I a w' hK hS rl=> ?_
  have bel:Below w.heap.size w w':=⟨rl.os,rl.tape,rl.output,rl.grown,λb hb=>rl.frame b hb (Abs.noPass b)⟩
  cases e with
  | ret =>
   obtain⟨c,av,c1,c2,c3⟩:=pre_ret hS rl hK
   obtain⟨r1,r2,z1,z2,rfl,y1,y2,y3,y4⟩:=res_tup2 c2 c3
   obtain⟨sv,rfl,p2,_⟩:=res_tm (t:=Zt) y1 y2
   obtain⟨x3,p5,p6⟩:=res_one y3 y4
   obtain rfl:=res_bool p5 p6
   simp only[Exit.then]
   refine bodyPost_ret c1 rl.defers ?_
   refine⟨sv,λ_=>False,by rw[he],λ_ h=>h.elim,λ_ h=>h.elim,?_,bel⟩
   rw[he]
   obtain⟨A,c,rfl,_,hc⟩:=terms_slice p2
   exact .nil hc
  | normal =>
   exfalso
   unfold preK at hK
   simp only at hK
   split at hK
   ·split at hK
    ·rename_i ds _ _
     cases hl:Nat.beq ds.length 4 with
     |true=>rw[hl,cT]at hK;cases hK
     |false=>rw[hl,cF]at hK;cases hK
    ·cases hK
   ·cases hK
  |_=>cases hK
 | true =>
  obtain⟨hM,hsm⟩:=pre_yes hb
  refine calls_tail (tb:=tb) (O:=orcOf preL) (an:=z0g.an) (pc:=z0g.pc ⟨gNewA,gTm 21,gSkI,λt=>some t⟩ 1) (c:=z0g.bd) (xs:=[.agg [.l .s s.sorts.names,.l (.n 5) s.sorts.subs,.l (.n 8) s.ops],.one (.s t)]) 7 (K:=preK)
   mixed tb_ok (orc_ok preL_ok) Tryz.func8 (by kernel_rfl) (by kernel_rfl) (by kernel_rfl) rfl (by kernel_rfl) (apl [] trivial) ((pre_den s t).trans hM) (λ_ hb=>hb) (atrs_cons t1 (atrs_cons t2 atrs_nil)) (ars_cons a1 (ars_cons a2 ars_nil)) λe ρ st L h ι I a w' hK hS rl=> ?_
  have bel:Below w.heap.size w w':=⟨rl.os,rl.tape,rl.output,rl.grown,λb hb=>rl.frame b hb (Abs.noPass b)⟩
  cases e with
  | ret =>
   exfalso
   unfold preK at hK
   simp only at hK
   split at hK
   ·split at hK<;>cases hK
   ·cases hK
  | normal =>
   obtain⟨i9,i4,ds,h9,h4,b9,b4,hl⟩:=pre_norm hK
   obtain⟨B9,o9,cur9,ty9,vs9,s9,e9,l9,c9,q9,_⟩:=box_at hS rl h9 b9
   obtain⟨B4,o4,cur4,ty4,vs4,s4,e4,l4,c4,q4,b4n⟩:=box_at hS rl h4 b4
   have e43:=rl.size
   have hd:=rl.defers
   obtain⟨tm,df⟩:=a
   simp only at hd s9 s4
   subst hd
   obtain⟨x0,x1,x2,x3,x4,x5,x6,x7,x8,x9,x10,x11,x12,x13,x14,x15,x16,x17,x18,x19,x20,x21,x22,x23,x24,x25,x26,x27,x28,x29,x30,x31,x32,x33,x34,x35,x36,x37,x38,x39,x40,x41,x42,rfl⟩:=arr43 (show tm.size=43 from e43)
   have r9:x9= .pointer (some ⟨B9,o9,none⟩):=by simpa using s9
   have r4:x4= .pointer (some ⟨B4,o4,none⟩):=by simpa using s4
   subst r9 r4
   show Code.wp _ (spine 7 z0g.bd).2 _ _ _
   clear s9 s4 e43 hM
   obtain⟨g1,g2⟩:=c9
   match vs9,g1 with
   | [v0, v1, v2, v3], _ =>
    have g0:=g2 0 (by simp) (by simp)
    have g1:=g2 1 (by simp) (by simp)
    have g3:=g2 3 (by simp) (by simp)
    have g2:=g2 2 (by simp) (by simp)
    obtain⟨u0,n0,m0⟩:=q9 0 (by simp)
    obtain⟨u1,n1,m1⟩:=q9 1 (by simp)
    obtain⟨u2,n2,m2⟩:=q9 2 (by simp)
    obtain⟨u3,n3,m3⟩:=q9 3 (by simp)
    simp only[List.getElem_cons_zero,List.getElem_cons_succ]at g0 g1 g2 g3 m0 m1 m2 m3
    obtain⟨rfl,_⟩:=res_int g0 m0
    obtain⟨rfl,_⟩:=res_str g1 m1
    obtain⟨rfl,_⟩:=res_int g2 m2
    have hat:=res_terms g3 m3
    have hcells:∀j,j<4->∃d,w'.cell? ⟨B4,o4+j,none⟩=some d:=λj hj=>⟨_,(cell_of_row w' B4 (o4+j) cur4 ty4 (0,0) e4).trans (gA (by omega))⟩
    have hfr:∀j,w'.frozen? ⟨B4,j,none⟩=false:=λj=>by simp[World.frozen?,e4]
    have hB4:B4<w'.heap.size:=by
     rcases Nat.lt_or_ge B4 w'.heap.size with h|h
     ·exact h
     ·rw[Array.getElem?_eq_none h]at e4;cases e4
    obtain⟨d0,p0⟩:=hcells 0 (by omega)
    obtain⟨d1,p1⟩:=hcells 1 (by omega)
    obtain⟨d2,p2⟩:=hcells 2 (by omega)
    obtain⟨d3,p3⟩:=hcells 3 (by omega)
    have f0:=hfr o4
    have f1:=hfr (o4+1)
    have f2:=hfr (o4+2)
    have f3:=hfr (o4+3)
    rw[Nat.add_zero]at n0 p0
    have hB5:w.heap.size<=B4:=b4n.elim (λq=>(Abs.noPass B4 q).elim) id
    have E4:=Lib.hid e4
    have BL:=Lib.hid bel
    have HZ:=Lib.hid hsm.total
    clear b4n hcells hfr e4 e9 l9 l4 q9 q4 c4 g0 g1 g2 g3 m0 m1 m2 m3 hS rl bel hsm t1 t2 a1 a2 h k l
    generalize hQ:bodyPost Tryz.prog Tryz.f8 _=Q
    simp only[z0g.bd,bodyOf,Tryz.f8,Option.getD_some,spine]
    subst hQ
    obtain⟨A,c,rfl,hn,hc⟩:=terms_slice hat
    have HT:=Lib.hid hat
    clear hat
    go_wp2_with fail
    refine(copyTerm_sep (parseF s t).1 _ _ _ HT.out (by have:=Tm.total_eq (parseF s t).1;have:=HZ.out;omega)).mono ?_
    rintro e w2 ⟨sv,T,rfl,hT,hTs,hsep,hb2⟩
    obtain⟨A2,c2,rfl,hn2,hc2⟩:=terms_slice hsep.at_
    have p0:=(hb2.cell (p:=⟨B4,o4,none⟩) hB4).trans p0
    have p1:=(hb2.cell (p:=⟨B4,o4+1,none⟩) hB4).trans p1
    have p2:=(hb2.cell (p:=⟨B4,o4+2,none⟩) hB4).trans p2
    have p3:=(hb2.cell (p:=⟨B4,o4+3,none⟩) hB4).trans p3
    have f0:=(hb2.frozen (p:=⟨B4,o4,none⟩) hB4).trans f0
    have f1:=(hb2.frozen (p:=⟨B4,o4+1,none⟩) hB4).trans f1
    have f2:=(hb2.frozen (p:=⟨B4,o4+2,none⟩) hB4).trans f2
    have f3:=(hb2.frozen (p:=⟨B4,o4+3,none⟩) hB4).trans f3
    have HTs:=Lib.hid hTs
    have HSp:=Lib.hid hsep
    have HT1:=Lib.hid hT
    have HB2:=Lib.hid hb2
    clear hTs hsep hT n0 n1 n2 n3 hb2
    go_wp2_with fail
    refine bodyPost_ret (v:=.tuple #[.agg #[.int .i64 (parseF s t).1.op,.string (parseF s t).1.name,.int .i64 (parseF s t).1.sort,.slice A2 (parseF s t).1.args.length c2],.bool true]) (by simp[results,Tryz.results8,go_sem,p0,p1,p2,p3]) rfl ⟨_,T,rfl,λx hx=>by have:=HT1.out x hx;omega,?_,?_,?_⟩
    ·exact(((HTs.out.setCell _ _).setCell _ _).setCell _ _).setCell _ _
    ·have nT:¬T B4:=λq=>by have:=HT1.out _ q;omega
     exact(((HSp.out.setCell (p:=⟨B4,o4,none⟩) nT _).setCell (p:=⟨B4,o4+1,none⟩) nT _).setCell (p:=⟨B4,o4+2,none⟩) nT _).setCell (p:=⟨B4,o4+3,none⟩) nT _
    ·have bel:=BL.out
     have bel2:=HB2.out
     have zz:=bel.size
     exact((((bel.trans (bel2.mono zz)).setCell (p:=⟨B4,o4,none⟩) hB5 _).setCell (p:=⟨B4,o4+1,none⟩) hB5 _).setCell (p:=⟨B4,o4+2,none⟩) hB5 _).setCell (p:=⟨B4,o4+3,none⟩) hB5 _
  |_=>cases hK
end
end Go.Proofs.YtfdkldmkbibknaaGreat.Den
