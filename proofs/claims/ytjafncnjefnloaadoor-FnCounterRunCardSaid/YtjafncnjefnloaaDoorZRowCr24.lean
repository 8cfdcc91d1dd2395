/-
  Texts that the claim rests on, merged: Hol, Fair.
-/
import Derived.Test.YtjafncnjefnloaaDoorZRowCr22
import Derived.Test.YtjafncnjefnloaaDoorZRowCr23

namespace Go.Proofs.YtjafncnjefnloaaDoor.Den
open Go.RowKit
open Classical
def TabOK (labels:List Int) (T:List Fm) (index:List (ByteArray×Int)):Prop:=(∀l∈labels,0<=l/\l<=255)/\(∀x∈T,goodF x)/\T.Nodup/\T.length<=4/\index=idxMapFrom T 0 []
def labAt (labels:List Int) (s:Nat):Nat:=(labels[s]?.getD 0).toNat
theorem labAt_get {labels:List Int} (h:∀l∈labels,0<=l/\l<=255) {s:Nat} (hs:s<labels.length):ix labels (s:Int)=some ((labAt labels s:Nat):Int)/\labAt labels s<256:=by
 obtain⟨x,hx,hm⟩:=get_lt hs
 have:=h x hm
 unfold labAt
 rw[ix_get hx,hx]
 simp only[Option.getD_some]
 exact⟨by congr 1;omega,by omega⟩
def PreH (k:Nat) (labels:List Int) (T:List Fm) (index:List (ByteArray×Int)) (f:Fm) (state set:Int):Prop:=f.size<=k/\goodF f/\TabOK labels T index/\(0<=state/\state<labels.length)/\0<=set/\set<16
noncomputable def gHolds (k:Nat):List Tm->List (List Int)->Bool->List Int->List Fm->(List (ByteArray×Int))->Fm->Int->Int->Option (Bool×List (ByteArray×Int)):=fun _ _ _ labels T index f state set=>if PreH k labels T index f state set then some (val (labAt labels state.toNat) (tvF T set.toNat) f,index)else none
theorem gHolds_eq {k:Nat} {gs:List Tm} {ge:List (List Int)} {gw:Bool} {labels:List Int} {T:List Fm} {index:List (ByteArray×Int)} {f:Fm} {s set:Nat} (h:f.size<=k) (hf:goodF f) (ht:TabOK labels T index) (h1:s<labels.length) (h2:set<16):gHolds k gs ge gw labels T index f (s:Int) (set:Int)=some (val (labAt labels s) (tvF T set) f,index):=by
 unfold gHolds
 rw[if_pos ⟨h,hf,ht,⟨by omega,by omega⟩,by omega,by omega⟩,Int.toNat_natCast,Int.toNat_natCast]
theorem holds_main {R:Type} (k:Nat) (gs:List Tm) (ge:List (List Int)) (gw:Bool) (labels:List Int) (T:List Fm) (index:List (ByteArray×Int)) (f:Fm) (s set:Nat) (h:f.size<=k+1) (hf:goodF f) (ht:TabOK labels T index) (h1:s<labels.length) (h2:set<16) (K:Bool->List (ByteArray×Int)->Option R):
  i_tableau_holds.main ⟨gHolds k,gText 13⟩ 1 gs ge gw labels T index f s set K=K (val (labAt labels s) (tvF T set) f) index:=by
 have hkid:∀x∈f.kids,∀t:Nat,t<labels.length->gHolds k gs ge gw labels T index x (t:Int) (set:Int)=some (val (labAt labels t) (tvF T set) x,index):=fun x hx t ht'=>gHolds_eq (by have:=size_mem hx;omega) (hf.kid hx) ht ht' h2
 have hv:=val_eq (labAt labels s) (tvF T set) f
 unfold i_tableau_holds.main
 simp only[Fm.eta]
 rcases ok_cases hf.2 with⟨c,hk⟩|⟨c,hk,q0,q1⟩|⟨c,a,hk,ha⟩|⟨c,a,b,hk,ha,hb⟩
 ·rw[if_pos c]at hv
  rw[decide_eq_true c,cond_true,hv]
 ·rw[if_neg (by omega),if_pos c]at hv
  rw[decide_eq_false (p:=f.kind=1) (by omega),decide_eq_true c,cond_false,cond_true,hv]
  obtain⟨l1,l2⟩:=labAt_get ht.1 h1
  rw[l1,Option.bind_some]
  obtain⟨q,hq⟩:∃q:Nat,f.prop=(q:Int):=⟨f.prop.toNat,by omega⟩
  rw[hq,bit_bind (by omega) (by omega) (fun b=>K b index),Int.toNat_natCast]
 ·rcases c with c|c
  ·rw[if_neg (by omega),if_neg (by omega),if_pos c,hk,kidv_zero]at hv
   rw[decide_eq_false (p:=f.kind=1) (by omega),decide_eq_false (p:=f.kind=2) (by omega),decide_eq_true c,cond_false,cond_false,cond_true,hk,ix_zero,Option.bind_some,hkid a (by simp[hk]) s h1,Option.bind_some,hv]
  ·rw[if_neg (by omega),if_neg (by omega),if_neg (by omega),if_neg (by omega),if_neg (by omega)]at hv
   rw[decide_eq_false (p:=f.kind=1) (by omega),decide_eq_false (p:=f.kind=2) (by omega),decide_eq_false (p:=f.kind=3) (by omega),decide_eq_false (p:=f.kind=4) (by omega),decide_eq_false (p:=f.kind=5) (by omega),cond_false,cond_false,cond_false,cond_false,cond_false,gText_good hf,Option.bind_some,ht.2.2.2.2,mval_idx hf ht.2.1 ht.2.2.1,hv]
   exact bit_bind (by omega) (posF_lt (n:=63) (by have:=ht.2.2.2.1;omega) (by omega)) (fun b=>K b _)
 ·rcases c with c|c|c
  ·rw[if_neg (by omega),if_neg (by omega),if_neg (by omega),if_pos c,hk,kidv_zero,kidv_one]at hv
   rw[decide_eq_false (p:=f.kind=1) (by omega),decide_eq_false (p:=f.kind=2) (by omega),decide_eq_false (p:=f.kind=3) (by omega),decide_eq_true c,cond_false,cond_false,cond_false,cond_true,hk,ix_zero,Option.bind_some,hkid a (by simp[hk]) s h1,Option.bind_some,hv]
   cases val (labAt labels s) (tvF T set) a
   ·rfl
   ·rw[cond_true,ix_one,Option.bind_some,hkid b (by simp[hk]) s h1,Option.bind_some,Bool.true_and]
  ·rw[if_neg (by omega),if_neg (by omega),if_neg (by omega),if_neg (by omega),if_pos c,hk,kidv_zero,kidv_one]at hv
   rw[decide_eq_false (p:=f.kind=1) (by omega),decide_eq_false (p:=f.kind=2) (by omega),decide_eq_false (p:=f.kind=3) (by omega),decide_eq_false (p:=f.kind=4) (by omega),decide_eq_true c,cond_false,cond_false,cond_false,cond_false,cond_true,hk,ix_zero,Option.bind_some,hkid a (by simp[hk]) s h1,Option.bind_some,hv]
   cases val (labAt labels s) (tvF T set) a
   ·rw[cond_false,ix_one,Option.bind_some,hkid b (by simp[hk]) s h1,Option.bind_some,Bool.false_or]
   ·rfl
  ·rw[if_neg (by omega),if_neg (by omega),if_neg (by omega),if_neg (by omega),if_neg (by omega)]at hv
   rw[decide_eq_false (p:=f.kind=1) (by omega),decide_eq_false (p:=f.kind=2) (by omega),decide_eq_false (p:=f.kind=3) (by omega),decide_eq_false (p:=f.kind=4) (by omega),decide_eq_false (p:=f.kind=5) (by omega),cond_false,cond_false,cond_false,cond_false,cond_false,gText_good hf,Option.bind_some,ht.2.2.2.2,mval_idx hf ht.2.1 ht.2.2.1,hv]
   exact bit_bind (by omega) (posF_lt (n:=63) (by have:=ht.2.2.2.1;omega) (by omega)) (fun b=>K b _)
theorem gHolds_zero :gHolds 0=fun _ _ _ _ _ _ _ _ _=>none:=by
 funext _ _ _ _ _ _ f _ _
 exact if_neg fun q=>by have:=q.1;rw[Fm.size_eq]at this;omega
theorem holds_ok :∀k,EntOK Tryd.prog (i_tableau_holds.ent (gHolds k))
 | 0 => by
  rw[gHolds_zero]
  intro R xs H K r h
  simp only[i_tableau_holds.ent]at h
  split at h<;>cases h
 | k + 1 => i_tableau_holds.ok (G := ⟨gHolds k, gText 13⟩) ⟨holds_ok k, formulaText_ok 13, trivial⟩ fun gs ge gw labels T index f state set r h => by
  unfold gHolds at h
  split at h
  ·rename_i hp
   cases h
   obtain⟨p1,p2,p3,⟨p4,p5⟩,p6,p7⟩:=hp
   obtain⟨s,rfl⟩:=Int.eq_ofNat_of_zero_le p4
   obtain⟨t,rfl⟩:=Int.eq_ofNat_of_zero_le p6
   exact⟨1,holds_main k gs ge gw labels T index f s t p1 p2 p3 (by omega) (by omega) _⟩
  ·cases h
noncomputable def due (labels:List Int) (T:List Fm) (s set s' set':Nat) (i:Nat) (t:Fm):Bool:=
 if t.kind=6 then kidv (val (labAt labels s') (tvF T set')) t.kids 0
 else kidv (val (labAt labels s) (tvF T set)) t.kids 1||(kidv (val (labAt labels s) (tvF T set)) t.kids 0&&set'.testBit i)
noncomputable def folL (labels:List Int) (T:List Fm) (s set s' set':Nat):List Fm->Nat->Bool
 |[],_=>true
 |t::ts,i=>(due labels T s set s' set' i t==set.testBit i)&&folL labels T s set s' set' ts (i+1)
noncomputable def gFol:List Tm->List (List Int)->Bool->List Int->List Fm->(List (ByteArray×Int))->Int->Int->Int->Int->Option (Bool×List (ByteArray×Int)):=fun _ _ _ labels T index state set next later=>if (TabOK labels T index/\(∀t∈T,6<=t.kind))/\(0<=state/\state<labels.length)/\(0<=set/\set<16)/\(0<=next/\next<labels.length)/\0<=later/\later<16 then some (folL labels T state.toNat set.toNat next.toNat later.toNat T 0,index)else none
theorem c8_fol {R:Type} (n:Nat) (gs:List Tm) (ge:List (List Int)) (gw:Bool) (labels:List Int) (T t17:List Fm) (index:List (ByteArray×Int)) (s nx later t18 t19:Int) (set i:Nat) (hs:set<16) (hi:i<16) (du:Bool) (k0:Bool->Option R) (k1:Option R) (G:i_tableau_follows.Gs):
  i_tableau_follows.c8 G n gs ge gw labels T s (set:Int) nx later (i:Int) du t17 t18 t19 index k0 k1=bif du==set.testBit i then k1 else k0 false:=by
 unfold i_tableau_follows.c8
 rw[bit_bind (a:=set) (k:=i) (by omega) (by omega) (fun b=>bif !(du==b)then k0 false else k1)]
 cases du==set.testBit i<;>rfl
theorem fol_main {R:Type} (gs:List Tm) (ge:List (List Int)) (gw:Bool) (labels:List Int) (T:List Fm) (index:List (ByteArray×Int)) (s set s' set':Nat) (ht:TabOK labels T index) (h6:∀t∈T,6<=t.kind) (h1:s<labels.length) (h2:set<16) (h3:s'<labels.length) (h4:set'<16) (K:Bool->List (ByteArray×Int)->Option R):
  i_tableau_follows.main ⟨gHolds 13⟩ 5 gs ge gw labels T index s set s' set' K=K (folL labels T s set s' set' T 0) index:=by
 unfold i_tableau_follows.main i_tableau_follows.l2
 have h5:=ht.2.2.2.1
 refine(count T.length (fun t19 h nx=>i_tableau_follows.b2 ⟨gHolds 13⟩ 5 gs ge gw labels T (s:Int) (set:Int) (s':Int) (set':Int) T (T.length:Int) t19 h nx (fun a b=>K a b) (fun b=>K true b)) (fun _ h=>h=index) (fun i _=>K (folL labels T s set s' set' (T.drop i) i) index) (fun h nx e=> ?_) (fun i h nx hi e hnx=> ?_) 5 0 index rfl (by omega) (by omega)).trans ?_
 ·subst e
  unfold i_tableau_follows.b2
  rw[nlt_nat (by omega),cond_false,drop_nat];rfl
 ·subst e
  obtain⟨t,hx,hm⟩:=get_lt hi
  obtain⟨hlt,e⟩:=List.getElem?_eq_some_iff.1 hx
  have hnx:=hnx h rfl
  have hd:folL labels T s set s' set' (T.drop i) i=((due labels T s set s' set' i t==set.testBit i)&&folL labels T s set s' set' (T.drop (i+1)) (i+1)):=by
   rw[List.drop_eq_getElem_cons hlt,e];rfl
  have hg:=ht.2.1 t hm
  have fin:∀{b:Bool},due labels T s set s' set' i t=b->(bif b==set.testBit i then nx ((i+1:Nat):Int) h else K false h)=K (folL labels T s set s' set' (T.drop i) i) h:=fun {b} q=>by
   rw[hd,q,hnx]
   cases b==set.testBit i
   ·rw[cond_false,Bool.false_and]
   ·rw[cond_true,Bool.true_and]
  unfold i_tableau_follows.b2
  simp only[Fm.eta]
  rw[lt_nat hi,cond_true,ix_get hx,Option.bind_some]
  have h7:=h6 t hm
  rw[wr_one (by omega)]
  rcases ok_cases hg.2 with⟨c,hk⟩|⟨c,hk,q0,q1⟩|⟨c,a,hk,ha⟩|⟨c,a,b,hk,ha,hb⟩
  ·exfalso;omega
  ·exfalso;omega
  ·have c:t.kind=6:=by omega
   rw[decide_eq_true c,cond_true,hk,ix_zero,Option.bind_some,gHolds_eq (hg.kid (by simp[hk])).1 (hg.kid (by simp[hk])) ht h3 h4,Option.bind_some,c8_fol _ _ _ _ _ _ _ _ _ _ _ _ _ _ _ h2 (by omega)]
   exact fin (by unfold due;rw[if_pos c,hk,kidv_zero])
  ·have c:t.kind=7:=by omega
   rw[decide_eq_false (p:=t.kind=6) (by omega),cond_false,hk,ix_one,Option.bind_some,gHolds_eq (hg.kid (by simp[hk])).1 (hg.kid (by simp[hk])) ht h1 h2,Option.bind_some]
   have hdu:due labels T s set s' set' i t=(val (labAt labels s) (tvF T set) b||(val (labAt labels s) (tvF T set) a&&set'.testBit i)):=by unfold due;rw[if_neg (by omega),hk,kidv_zero,kidv_one]
   simp only[c8_fol _ _ _ _ _ _ _ _ _ _ _ _ _ _ _ h2 (show i<16 by omega)]
   cases e1:val (labAt labels s) (tvF T set) b
   ·rw[cond_false,ix_zero,Option.bind_some,gHolds_eq (hg.kid (by simp[hk])).1 (hg.kid (by simp[hk])) ht h1 h2,Option.bind_some]
    cases e2:val (labAt labels s) (tvF T set) a
    ·rw[cond_false]
     exact fin (by rw[hdu,e1,e2];rfl)
    ·rw[cond_true]
     refine(bit_bind (a:=set') (k:=i) (by omega) (by omega) (fun du=>bif du==set.testBit i then nx ((i+1:Nat):Int) h else K false h)).trans ?_
     exact fin (by rw[hdu,e1,e2,Bool.false_or,Bool.true_and])
   ·rw[cond_true]
    exact fin (by rw[hdu,e1,Bool.true_or])
 ·rw[List.drop_zero]
theorem fol_ok :EntOK Tryd.prog (i_tableau_follows.ent gFol):=i_tableau_follows.ok (G:=⟨gHolds 13⟩) ⟨holds_ok 13,trivial⟩ fun gs ge gw labels T index state set next later r h=>by
 unfold gFol at h
 split at h
 ·rename_i hp
  cases h
  obtain⟨⟨p0,p1⟩,⟨p2,p3⟩,⟨p4,p5⟩,⟨p6,p7⟩,p8,p9⟩:=hp
  obtain⟨a,rfl⟩:=Int.eq_ofNat_of_zero_le p2
  obtain⟨b,rfl⟩:=Int.eq_ofNat_of_zero_le p4
  obtain⟨c,rfl⟩:=Int.eq_ofNat_of_zero_le p6
  obtain⟨d,rfl⟩:=Int.eq_ofNat_of_zero_le p8
  exact⟨5,fol_main gs ge gw labels T index a b c d p0 p1 (by omega) (by omega) (by omega) (by omega) _⟩
 ·cases h
end Go.Proofs.YtjafncnjefnloaaDoor.Den

namespace Go.Proofs.YtjafncnjefnloaaDoor.Den
open Go.RowKit
open Classical
theorem iterV {S R:Type} (N:Nat) (B:S->(S->Option R)->Option R) (Q:Nat->S->Prop) (val:Nat->S->Option R) (hend:∀s nx,Q N s->B s nx=val N s) (hstep:∀i s nx,i<N->Q i s->(∀s',Q (i+1) s'->nx s'=val (i+1) s')->B s nx=val i s):∀m i s,Q i s->i<=N->N-i<m->iter B m s=val i s
 |0,i,s,_,_,hm=>absurd hm (Nat.not_lt_zero _)
 | m + 1, i, s, hq, hi, hm => by
  show B s (fun v=>iter B m v)=_
  rcases Nat.eq_or_lt_of_le hi with rfl|hlt
  ·exact hend s _ hq
  ·exact hstep i s _ hlt hq fun s' hs'=>iterV N B Q val hend hstep m (i+1) s' hs' hlt (by omega)
theorem iterE {S A R:Type} (N:Nat) (B:(A->Option R)->S->(S->Option R)->Option R) (Q:Nat->S->Prop) (out:S->A) (hend:∀k0 s nx,Q N s->B k0 s nx=k0 (out s)) (hstep:∀i s,i<N->Q i s->∃s',Q (i+1) s'/\∀k0 nx,B k0 s nx=nx s'):∀m i s,Q i s->i<=N->N-i<m->∃s',Q N s'/\∀k0,iter (B k0) m s=k0 (out s')
 |0,i,s,_,_,hm=>absurd hm (Nat.not_lt_zero _)
 | m + 1, i, s, hq, hi, hm => by
  rcases Nat.eq_or_lt_of_le hi with rfl|hlt
  ·exact⟨s,hq,fun k0=>hend k0 s _ hq⟩
  ·obtain⟨s',h1,h2⟩:=hstep i s hlt hq
   obtain⟨s'',h3,h4⟩:=iterE N B Q out hend hstep m (i+1) s' h1 hlt (by omega)
   exact⟨s'',h3,fun k0=>(h2 k0 (fun v=>iter (B k0) m v)).trans (h4 k0)⟩
def metI (labels:List Int) (T:List Fm) (es:List (List Int)) (node i:Nat) (t:Fm):Prop:=∃k,Plus (edge es) node k/\Star (edge es) k node/\((k%2^T.length).testBit i=false\/kidv (val (labAt labels (k / 2^T.length)) (tvF T (k%2^T.length))) t.kids 1=true)
def fairI (labels:List Int) (T:List Fm) (es:List (List Int)) (node:Nat):Prop:=Plus (edge es) node node/\∀i t,T[i]? =some t->t.kind=7->metI labels T es node i t
def PreF (labels:List Int) (T:List Fm) (index:List (ByteArray×Int)) (es:List (List Int)) (node sets:Int):Prop:=
 (goodE es/\(∀row∈es,row.length<=1000)/\es.length<=640)/\(TabOK labels T index/\∀t∈T,6<=t.kind)/\sets=((2^T.length:Nat):Int)/\es.length=labels.length*2^T.length/\0<=node/\node<es.length
noncomputable def gFair:List Tm->List (List Int)->Bool->List Int->List Fm->(List (ByteArray×Int))->List (List Int)->Int->Int->Option (Bool×List (ByteArray×Int)):=fun _ _ _ labels T index es node sets=>if PreF labels T index es node sets then some (decide (fairI labels T es node.toNat),index)else none
def half (es:List (List Int)) (i t:Nat) (a w:Nat):Prop:=(a<i/\edge es a w)\/(a=i/\∃row,es[i]? =some row/\(w:Int)∈row.take t)
def BackAt (es:List (List Int)) (i t:Nat) (b:List (List Int)):Prop:=b.length=es.length/\∀w,w<es.length->∃r,b[w]? =some r/\r.length<=i*1000+t/\∀x,x∈r↔∃a:Nat,x=(a:Int)/\half es i t a w
theorem half_zero {es:List (List Int)} {i a w:Nat}:half es i 0 a w↔a<i/\edge es a w:=by
 unfold half
 simp
theorem half_next {es:List (List Int)} {i t a w:Nat} {row:List Int} (hr:es[i]? =some row) (ht:row.length<=t):half es i t a w↔half es (i+1) 0 a w:=by
 rw[half_zero]
 unfold half edge
 constructor
 ·rintro(⟨h1,h2⟩|⟨h1,r,h2,h3⟩)
  ·exact⟨by omega,h2⟩
  ·subst h1;exact⟨by omega,r,h2,List.mem_of_mem_take h3⟩
 ·rintro⟨h1,r,h2,h3⟩
  by_cases e:a=i
  ·subst e
   rw[hr]at h2;cases h2
   exact .inr ⟨rfl,row,hr,by rw[List.take_of_length_le ht];exact h3⟩
  ·exact .inl ⟨by omega,r,h2,h3⟩
theorem BackAt.next {es:List (List Int)} {i t:Nat} {b:List (List Int)} {row:List Int} (h:BackAt es i t b) (hr:es[i]? =some row) (ht:row.length<=t) (h1000:t<=1000):BackAt es (i+1) 0 b:=by
 refine⟨h.1,fun w hw=> ?_⟩
 obtain⟨r,r1,r2,r3⟩:=h.2 w hw
 have e1:(i+1)*1000+0=i*1000+1000:=by rw[Nat.succ_mul]
 exact⟨r,r1,by rw[e1];exact Nat.le_trans r2 (Nat.add_le_add_left h1000 _),fun x=>(r3 x).trans ⟨fun⟨a,e,q⟩=>⟨a,e,(half_next hr ht).1 q⟩,fun⟨a,e,q⟩=>⟨a,e,(half_next hr ht).2 q⟩⟩⟩
theorem BackAt.zero {es:List (List Int)}:BackAt es 0 0 (List.replicate es.length []):=by
 refine⟨by simp,fun w hw=>⟨[],by rw[List.getElem?_replicate,if_pos hw],by simp,fun x=> ?_⟩⟩
 simp[half_zero]
theorem BackAt.add {es:List (List Int)} {i t:Nat} {b:List (List Int)} {row:List Int} {v:Nat} (h:BackAt es i t b) (hr:es[i]? =some row) (hv:row[t]? =some (v:Int)) (hvl:v<es.length):
  ∃ys,b[v]? =some ys/\ys.length<=i*1000+t/\BackAt es i (t+1) (b.set v (ys++[(i:Int)])):=by
 obtain⟨ys,y1,y2,y3⟩:=h.2 v hvl
 have ht:row.take (t+1)=row.take t++[(v:Int)]:=by
  obtain⟨hlt,e⟩:=List.getElem?_eq_some_iff.1 hv
  rw[List.take_succ_eq_append_getElem hlt,e]
 have hh:∀a w,half es i (t+1) a w↔half es i t a w\/(a=i/\w=v):=fun a w=>by
  unfold half
  constructor
  ·rintro(q|⟨q,r,q2,q3⟩)
   ·exact .inl (.inl q)
   ·rw[hr]at q2;cases q2
    rw[ht]at q3
    rcases List.mem_append.1 q3 with q3|q3
    ·exact .inl (.inr ⟨q,row,hr,q3⟩)
    ·simp at q3;exact .inr ⟨q,by omega⟩
  ·rintro((q|⟨q,r,q2,q3⟩)|⟨q,rfl⟩)
   ·exact .inl q
   ·rw[hr]at q2;cases q2
    exact .inr ⟨q,row,hr,by rw[ht];exact List.mem_append.2 (.inl q3)⟩
   ·exact .inr ⟨q,row,hr,by rw[ht];simp⟩
 refine⟨ys,y1,y2,by simp[h.1],fun w hw=> ?_⟩
 rw[List.getElem?_set]
 by_cases e:v=w
 ·subst e
  rw[if_pos rfl,if_pos (by have:=h.1;omega)]
  refine⟨_,rfl,by simp;omega,fun x=> ?_⟩
  rw[List.mem_append,y3,List.mem_singleton]
  constructor
  ·rintro(⟨a,q,q2⟩|q)
   ·exact⟨a,q,(hh a v).2 (.inl q2)⟩
   ·exact⟨i,q,(hh i v).2 (.inr ⟨rfl,rfl⟩)⟩
  ·rintro⟨a,q,q2⟩
   rcases(hh a v).1 q2 with q2|⟨q2,_⟩
   ·exact .inl ⟨a,q,q2⟩
   ·subst q2;exact .inr q
 ·rw[if_neg e]
  obtain⟨r,r1,r2,r3⟩:=h.2 w hw
  refine⟨r,r1,by omega,fun x=>(r3 x).trans ⟨fun⟨a,q,q2⟩=>⟨a,q,(hh a w).2 (.inl q2)⟩,fun⟨a,q,q2⟩=>⟨a,q,?_⟩⟩⟩
  rcases(hh a w).1 q2 with q2|⟨_,q2⟩
  ·exact q2
  ·exact absurd q2.symm e
theorem BackAt.edge {es b:List (List Int)} (he:goodE es) (h:BackAt es es.length 0 b) (x y:Nat):Den.edge b x y↔Den.edge es y x:=by
 constructor
 ·rintro⟨row,h1,h2⟩
  obtain⟨hlt,_⟩:=List.getElem?_eq_some_iff.1 h1
  obtain⟨r,r1,r2,r3⟩:=h.2 x (by have:=h.1;omega)
  rw[h1]at r1;cases r1
  obtain⟨a,e,q⟩:=(r3 _).1 h2
  have:y=a:=by omega
  subst this
  exact(half_zero.1 q).2
 ·intro e
  have hy:y<es.length:=by obtain⟨row,h1,_⟩:=e;exact(List.getElem?_eq_some_iff.1 h1).1
  obtain⟨r,r1,r2,r3⟩:=h.2 x (edge_lt he e).2
  exact⟨r,r1,(r3 _).2 ⟨y,rfl,half_zero.2 ⟨hy,e⟩⟩⟩
theorem BackAt.good {es b:List (List Int)} (h:BackAt es es.length 0 b) (hl:es.length<=640):goodE b:=by
 refine⟨by rw[h.1];omega,fun row hrow=> ?_⟩
 obtain⟨w,hw,e⟩:=List.getElem_of_mem hrow
 obtain⟨r,r1,r2,r3⟩:=h.2 w (by have:=h.1;omega)
 rw[List.getElem?_eq_getElem hw,e]at r1
 cases r1
 refine⟨by omega,fun x hx=> ?_⟩
 obtain⟨a,q,q2⟩:=(r3 x).1 hx
 have:=(half_zero.1 q2).1
 have:=h.1
 exact⟨by omega,by omega⟩
theorem pow_le {n:Nat} (h:n<=4):1<=(2:Nat)^n/\(2:Nat)^n<=16:=by
 refine⟨Nat.two_pow_pos n,?_⟩
 have:=Nat.pow_le_pow_right (n:=2) (by omega) h
 simpa using this
theorem ahead_fold {es:List (List Int)} (he:goodE es) {v:Nat} {row:List Int} (hr:es[v]? =some row):
  let A:=row.foldl (fun m w=>spreadF es 1001 w.toNat m) (List.replicate es.length false)
  A.length=es.length/\∀j,mkd A j↔Plus (edge es) v j:=by
 have hrm:=List.mem_of_getElem? hr
 have q:=post_fold (es:=es) (k:=1001) (n:=es.length) (fun v m h1 h2 h3=>spread_post he 1001 v m h1 h2 h3) row (List.replicate es.length false) (he.2 row hrm).2 (by simp) (by have:=cnt_len (List.replicate es.length false);have:=he.1;rw[List.length_replicate]at*;omega)
 refine⟨by rw[q.len];simp,fun j=>(q.iff closed_rep j).trans ⟨fun h=> ?_,fun⟨w,⟨r,e1,e2⟩,h2⟩=> ?_⟩⟩
 ·rcases h with h|⟨w,h1,h2⟩
  ·exact absurd h mkd_rep
  ·exact⟨w,⟨row,hr,h1⟩,h2⟩
 ·rw[hr]at e1;cases e1
  exact .inr ⟨w,e2,h2⟩
theorem behind {es b:List (List Int)} (he:goodE es) (h:BackAt es es.length 0 b) (hb:goodE b) {v:Nat} (hv:v<es.length):
  (spreadF b 1001 v (List.replicate es.length false)).length=es.length/\∀j,mkd (spreadF b 1001 v (List.replicate es.length false)) j↔Star (edge es) j v:=by
 have hl:=h.1
 have q:=spread_post hb 1001 v (List.replicate es.length false) (by omega) (by simp[hl]) (by have:=cnt_len (List.replicate es.length false);have:=he.1;rw[List.length_replicate]at*;omega)
 have e:edge b=fun x y=>edge es y x:=by funext x y;exact propext (h.edge he x y)
 refine⟨by rw[q.len];simp,fun j=>(q.iff closed_rep j).trans ⟨fun h=> ?_,fun h2=> ?_⟩⟩
 ·rcases h with h|⟨w,rfl,h2⟩
  ·exact absurd h mkd_rep
  ·rw[e]at h2;exact h2.rev
 ·refine .inr ⟨v,rfl,?_⟩
  rw[e];exact h2.rev
section
variable {R : Type}
theorem back_row (n:Nat) (hn:1000<n) (gs:List Tm) (ge:List (List Int)) (gw:Bool) (labels:List Int) (T:List Fm) (es:List (List Int)) (nd sets:Int) (t47:List (List Int)) (t48 t49:Int) (h1:List (ByteArray×Int)) (h2:List Bool) (G:i_tableau_fair.Gs)
  (he:goodE es) (hl:es.length<=640) {i:Nat} {row:List Int} (hr:es[i]? =some row) (h1000:row.length<=1000) (b:List (List Int)) (hb:BackAt es i 0 b):
  ∃b',BackAt es (i+1) 0 b'/\∀k0:List (List Int)->Option R,i_tableau_fair.l14 G n n gs ge gw labels T es nd sets (i:Int) t47 t48 t49 row (row.length:Int) h1 h2 0 b k0=k0 b':=by
 have hi:i<es.length:=(List.getElem?_eq_some_iff.1 hr).1
 unfold i_tableau_fair.l14
 obtain⟨s,q1,q2⟩:=iterE (R:=R) row.length (fun k0 (v:Int×List (List Int)) nx=>i_tableau_fair.b14 G n gs ge gw labels T es nd sets (i:Int) t47 t48 t49 row (row.length:Int) h1 h2 v.1 v.2 (fun y0 y1=>nx (y0,y1)) k0) (fun t s=>s.1=(t:Int)/\BackAt es i t s.2) (fun s=>s.2) (fun k0 s nx hq=>by
   obtain⟨t,b⟩:=s
   obtain⟨e,hq⟩:=hq
   dsimp only at e hq
   subst e
   unfold i_tableau_fair.b14
   dsimp only
   rw[nlt_nat (by omega),cond_false]) (fun t s ht hq=>by
   obtain⟨t',b⟩:=s
   obtain⟨e,hq⟩:=hq
   dsimp only at e hq
   subst e
   obtain⟨x,hx,hxm⟩:=get_lt ht
   have hxr:=(he.2 row (List.mem_of_getElem? hr)).2 x hxm
   obtain⟨v,rfl⟩:=Int.eq_ofNat_of_zero_le hxr.1
   obtain⟨ys,y1,y2,y3⟩:=hq.add hr hx (by omega)
   have hbl:=hq.1
   refine⟨(((t+1:Nat):Int),_),⟨rfl,y3⟩,fun k0 nx=> ?_⟩
   unfold i_tableau_fair.b14
   dsimp only
   rw[lt_nat ht,cond_true,ix_get hx,Option.bind_some,ix_get y1,Option.bind_some,Int.toNat_natCast,y1,Option.bind_some]
   have hlim:lim (ys++[(i:Int)])=some (ys++[(i:Int)]):=lim_eq (by simp;omega)
   rw[hlim,Option.bind_some,Option.bind_some,eqN_self (by omega),Option.bind_some,wr_one (by omega)]) n 0 ((0:Int),b) ⟨rfl,hb⟩ (by omega) (by omega)
 exact⟨s.2,q1.2.next hr (Nat.le_refl _) h1000,q2⟩
theorem back_all (n:Nat) (hn:1000<n) (gs:List Tm) (ge:List (List Int)) (gw:Bool) (labels:List Int) (T:List Fm) (es:List (List Int)) (nd sets:Int) (h1:List (ByteArray×Int)) (h2:List Bool) (G:i_tableau_fair.Gs)
  (he:goodE es) (hr1:∀row∈es,row.length<=1000) (hl:es.length<=640):
  ∃b',BackAt es es.length 0 b'/\∀k0:List (List Int)->Option R,i_tableau_fair.l11 G n n gs ge gw labels T es nd sets es (es.length:Int) h1 h2 0 (List.replicate es.length []) k0=k0 b':=by
 unfold i_tableau_fair.l11
 obtain⟨s,q1,q2⟩:=iterE (R:=R) es.length (fun k0 (v:Int×List (List Int)) nx=>i_tableau_fair.b11 G n gs ge gw labels T es nd sets es (es.length:Int) h1 h2 v.1 v.2 (fun y0 y1=>nx (y0,y1)) k0) (fun t s=>s.1=(t:Int)/\BackAt es t 0 s.2) (fun s=>s.2) (fun k0 s nx hq=>by
   obtain⟨t,b⟩:=s
   obtain⟨e,hq⟩:=hq
   dsimp only at e hq
   subst e
   unfold i_tableau_fair.b11
   dsimp only
   rw[nlt_nat (by omega),cond_false]) (fun t s ht hq=>by
   obtain⟨t',b⟩:=s
   obtain⟨e,hq⟩:=hq
   dsimp only at e hq
   subst e
   obtain⟨row,hr,hrm⟩:=get_lt ht
   obtain⟨b',b1,b2⟩:=back_row (R:=R) n hn gs ge gw labels T es nd sets es (es.length:Int) (t:Int) h1 h2 G he hl hr (hr1 row hrm) b hq
   refine⟨(((t+1:Nat):Int),b'),⟨rfl,b1⟩,fun k0 nx=> ?_⟩
   unfold i_tableau_fair.b11
   dsimp only
   rw[lt_nat ht,cond_true,ix_get hr,Option.bind_some,b2,wr_one (by omega)]) n 0 ((0:Int),List.replicate es.length []) ⟨rfl,.zero⟩ (by omega) (by omega)
 exact⟨s.2,q1.2,q2⟩
def paid (labels:List Int) (T:List Fm) (i:Nat) (t:Fm) (k:Nat):Prop:=(k%2^T.length).testBit i=false\/kidv (val (labAt labels (k / 2^T.length)) (tvF T (k%2^T.length))) t.kids 1=true
theorem met_loop (n : Nat) (hn : 1000 < n) (gs : List Tm) (ge : List (List Int)) (gw : Bool) (labels : List Int) (T : List Fm) (index : List (ByteArray × Int)) (es : List (List Int)) (t82 : List Fm) (t83 t84 : Int) (A B : List Bool) (gSp : List (List Int) → Int → List Bool → Option (List Bool))
  (ht:TabOK labels T index) (hl:es.length<=640) (hln:es.length=labels.length*2^T.length) (hA:A.length=es.length) (hB:B.length=es.length) {i:Nat} {t:Fm} (hi:i<4) (hg:goodF t) (h7:t.kind=7):
  ∃met:Bool,(met=true↔∃k,k<es.length/\mkd A k/\mkd B k/\paid labels T i t k)/\∀k0:Bool->List (ByteArray×Int)->Option R,i_tableau_fair.l27 ⟨gSp,gHolds 13⟩ n n gs ge gw labels T es ((2^T.length:Nat):Int) (i:Int) t82 t83 t84 (es.length:Int) A B t.kind t.prop t.kids false 0 index k0=k0 met index:=by
 obtain⟨p1,p2⟩:=pow_le ht.2.2.2.1
 unfold i_tableau_fair.l27
 obtain ⟨s, q1, q2⟩ := iterE (R := R) es.length (fun k0 (v : Bool × Int × List (ByteArray × Int)) nx => i_tableau_fair.b27 ⟨gSp, gHolds 13⟩ n gs ge gw labels T es ((2 ^ T.length : Nat) : Int) (i : Int) t82 t83 t84 (es.length : Int) A B t.kind t.prop t.kids v.1 v.2.1 v.2.2 (fun y0 y1 y2 => nx (y0, y1, y2)) (fun a b => k0 (a, b))) (fun k s => s.2.1 = (k : Int) ∧ s.2.2 = index ∧ (s.1 = true ↔ ∃ j, j < k ∧ mkd A j ∧ mkd B j ∧ paid labels T i t j)) (fun s => (s.1, s.2.2)) (fun k0 s nx hq => by
   obtain⟨met,k,h⟩:=s
   obtain⟨e1,e2,hq⟩:=hq
   dsimp only at e1 e2 hq
   subst e1;subst e2
   unfold i_tableau_fair.b27
   dsimp only
   rw[nlt_nat (by omega),cond_false]) (fun k s hk hq=>by
   obtain⟨met,k',h⟩:=s
   obtain⟨e1,e2,hq⟩:=hq
   dsimp only at e1 e2 hq
   subst e1;subst e2
   have hstep:∀met':Bool,(met'=true↔met=true\/(mkd A k/\mkd B k/\paid labels T i t k))->(met'=true↔∃j,j<k+1/\mkd A j/\mkd B j/\paid labels T i t j):=fun met' e=>by
    rw[e,hq]
    constructor
    ·rintro(⟨j,j1,j2⟩|j2)
     ·exact⟨j,by omega,j2⟩
     ·exact⟨k,by omega,j2⟩
    ·rintro⟨j,j1,j2⟩
     rcases Nat.lt_or_eq_of_le (Nat.le_of_lt_succ j1)with j1|rfl
     ·exact .inl ⟨j,j1,j2⟩
     ·exact .inr j2
   refine⟨(decide (met=true\/(mkd A k/\mkd B k/\paid labels T i t k)),((k+1:Nat):Int),h),⟨rfl,rfl,hstep _ (by simp)⟩,fun k0 nx=> ?_⟩
   unfold i_tableau_fair.b27
   dsimp only
   rw[lt_nat hk,cond_true,mkd_ix (by omega),Option.bind_some,wr_one (by omega)]
   by_cases a1:mkd A k
   ·rw [decide_eq_true a1, cond_true, mkd_ix (by omega), Option.bind_some]
    by_cases a2:mkd B k
    ·rw [decide_eq_true a2, cond_true]
     cases met
     ·rw [cond_false, decide_eq_true (p := (0 : Int) ≤ (k : Int)) (by omega), decide_eq_true (p := (0 : Int) < ((2 ^ T.length : Nat) : Int)) (by omega), Bool.and_self, cond_true, Option.bind_some, shl_some (by omega), Option.bind_some]
      rw[show (k:Int)%((2^T.length:Nat):Int)=((k%2^T.length:Nat):Int)from (Int.natCast_emod _ _).symm,show (k:Int) / ((2^T.length:Nat):Int)=((k / 2^T.length:Nat):Int)from (Int.natCast_ediv _ _).symm]
      have hmod:k%2^T.length<2^T.length:=Nat.mod_lt _ (by omega)
      rw[bit_and (by omega) (by omega)]
      cases hb:(k%2^T.length).testBit i
      ·rw[Bool.not_false,cond_true,decide_eq_true (.inr ⟨a1,a2,.inl hb⟩)]
      ·rw [Bool.not_true, cond_false]
       have hdiv:k / 2^T.length<labels.length:=Nat.div_lt_of_lt_mul (by rw[Nat.mul_comm];omega)
       rcases ok_cases hg.2 with⟨c,hk⟩|⟨c,hk,_⟩|⟨c,a,hk,ha⟩|⟨c,a,b,hk,ha,hb'⟩
       ·exfalso;omega
       ·exfalso;omega
       ·exfalso;omega
       ·simp only[cond_true,Option.bind_some,Fm.eta]
        rw[hk,ix_one,Option.bind_some,gHolds_eq (hg.kid (by simp[hk])).1 (hg.kid (by simp[hk])) ht hdiv (by omega),Option.bind_some]
        have hp:paid labels T i t k↔val (labAt labels (k / 2^T.length)) (tvF T (k%2^T.length)) b=true:=by
         unfold paid
         rw[hb,hk,kidv_one];simp
        have e:decide (false=true\/(mkd A k/\mkd B k/\paid labels T i t k))=val (labAt labels (k / 2^T.length)) (tvF T (k%2^T.length)) b:=by
         rw[hp]
         cases val (labAt labels (k / 2^T.length)) (tvF T (k%2^T.length)) b<;>simp[a1,a2]
        rw[e]
     ·rw[cond_true,decide_eq_true (.inl rfl)]
    ·rw[decide_eq_false a2,cond_false]
     have e:decide (met=true\/(mkd A k/\mkd B k/\paid labels T i t k))=met:=by cases met<;>simp[a2]
     rw[e]
   ·rw[decide_eq_false a1,cond_false]
    have e:decide (met=true\/(mkd A k/\mkd B k/\paid labels T i t k))=met:=by cases met<;>simp[a1]
    rw[e]) n 0 (false,(0:Int),index) ⟨rfl,rfl,by simp⟩ (by omega) (by omega)
 refine⟨s.1,q1.2.2,fun k0=>(q2 (fun p=>k0 p.1 p.2)).trans ?_⟩
 rw[q1.2.1]
theorem metI_iff {labels:List Int} {T:List Fm} {es:List (List Int)} {nd i:Nat} {t:Fm} {A B:List Bool} (he:goodE es) (hA:∀j,mkd A j↔Plus (edge es) nd j) (hB:∀j,mkd B j↔Star (edge es) j nd):(∃k,k<es.length/\mkd A k/\mkd B k/\paid labels T i t k)↔metI labels T es nd i t:=by
 constructor
 ·rintro⟨k,_,k1,k2,k3⟩
  exact⟨k,(hA k).1 k1,(hB k).1 k2,k3⟩
 ·rintro⟨k,k1,k2,k3⟩
  refine⟨k,?_,(hA k).2 k1,(hB k).2 k2,k3⟩
  have hend:∀a b,Star (edge es) a b->a<es.length->b<es.length:=fun a b h=>h.inv (S:=fun x=>x<es.length) (fun a b _ e=>(edge_lt he e).2)
  obtain⟨w,w1,w2⟩:=k1
  exact hend w k w2 (edge_lt he w1).2
theorem parts_loop (n:Nat) (hn:1000<n) (gs:List Tm) (ge:List (List Int)) (gw:Bool) (labels:List Int) (T:List Fm) (index:List (ByteArray×Int)) (es:List (List Int)) (nd:Nat) (A B:List Bool) (gSp:List (List Int)->Int->List Bool->Option (List Bool))
  (ht:TabOK labels T index) (he:goodE es) (hl:es.length<=640) (hln:es.length=labels.length*2^T.length) (hA:A.length=es.length) (hB:B.length=es.length) (hA':∀j,mkd A j↔Plus (edge es) nd j) (hB':∀j,mkd B j↔Star (edge es) j nd) (K:Bool->List (ByteArray×Int)->Option R):
  i_tableau_fair.l22 ⟨gSp,gHolds 13⟩ n n gs ge gw labels T es ((2^T.length:Nat):Int) T (T.length:Int) A B 0 index (fun a b=>K a b) (fun b=>K true b)=K (decide (∀i t,T[i]? =some t->t.kind=7->metI labels T es nd i t)) index:=by
 have h4:=ht.2.2.2.1
 unfold i_tableau_fair.l22
 refine(iterV T.length (fun(v:Int×List (ByteArray×Int)) nx=>i_tableau_fair.b22 ⟨gSp,gHolds 13⟩ n gs ge gw labels T es ((2^T.length:Nat):Int) T (T.length:Int) A B v.1 v.2 (fun y0 y1=>nx (y0,y1)) (fun a b=>K a b) (fun b=>K true b)) (fun i s=>s.1=(i:Int)/\s.2=index) (fun i _=>K (decide (∀j t,i<=j->T[j]? =some t->t.kind=7->metI labels T es nd j t)) index) (fun s nx hq=> ?_) (fun i s nx hi hq hnx=> ?_) n 0 ((0:Int),index) ⟨rfl,rfl⟩ (by omega) (by omega)).trans ?_
 ·obtain⟨k,h⟩:=s
  obtain⟨e1,e2⟩:=hq
  dsimp only at e1 e2
  subst e1;subst e2
  unfold i_tableau_fair.b22
  dsimp only
  rw[nlt_nat (by omega),cond_false,decide_eq_true]
  intro j t h1 h2
  obtain⟨hlt,_⟩:=List.getElem?_eq_some_iff.1 h2
  omega
 ·obtain⟨k,h⟩:=s
  obtain⟨e1,e2⟩:=hq
  dsimp only at e1 e2
  subst e1;subst e2
  have hnx:=hnx (((i+1:Nat):Int),h) ⟨rfl,rfl⟩
  obtain⟨t,hx,hm⟩:=get_lt hi
  unfold i_tableau_fair.b22
  dsimp only
  rw[lt_nat hi,cond_true,ix_get hx,Option.bind_some,wr_one (by omega),hnx]
  have hsplit:(∀j t,i<=j->T[j]? =some t->t.kind=7->metI labels T es nd j t)↔(t.kind=7->metI labels T es nd i t)/\(∀j t,i+1<=j->T[j]? =some t->t.kind=7->metI labels T es nd j t):=by
   constructor
   ·intro q
    exact⟨q i t (Nat.le_refl _) hx,fun j t hj=>q j t (by omega)⟩
   ·rintro⟨q1,q2⟩ j t' hj hjt
    rcases Nat.eq_or_lt_of_le hj with rfl|hlt
    ·rw[hx]at hjt;cases hjt;exact q1
    ·exact q2 j t' hlt hjt
  by_cases h7:t.kind=7
  ·obtain⟨met,m1,m2⟩:=met_loop (R:=R) (i:=i) n hn gs ge gw labels T h es T (T.length:Int) (i:Int) A B gSp ht hl hln hA hB (by omega) (ht.2.1 t hm) h7
   rw[decide_eq_true h7,Bool.not_true,cond_false,m2]
   rw[metI_iff he hA' hB']at m1
   cases met
   ·rw[Bool.not_false,cond_true,decide_eq_false]
    intro q
    exact absurd (m1.2 ((hsplit.1 q).1 h7)) (by simp)
   ·rw[Bool.not_true,cond_false,hnx]
    congr 1
    exact decide_eq_decide.2 ⟨fun q=>hsplit.2 ⟨fun _=>m1.1 rfl,q⟩,fun q=>(hsplit.1 q).2⟩
  ·rw[decide_eq_false h7,Bool.not_false,cond_true]
   congr 1
   exact decide_eq_decide.2 ⟨fun q=>hsplit.2 ⟨fun e=>absurd e h7,q⟩,fun q=>(hsplit.1 q).2⟩
 ·congr 1
  exact decide_eq_decide.2 ⟨fun q j t=>q j t (Nat.zero_le _),fun q j t _=>q j t⟩
theorem fair_main (gs:List Tm) (ge:List (List Int)) (gw:Bool) (labels:List Int) (T:List Fm) (index:List (ByteArray×Int)) (es:List (List Int)) (nd:Nat) (sets:Int) (h:PreF labels T index es (nd:Int) sets) (K:Bool->List (ByteArray×Int)->Option R):
  i_tableau_fair.main ⟨gSpread 1001,gHolds 13⟩ 1001 gs ge gw labels T index es nd sets K=K (decide (fairI labels T es nd)) index:=by
 obtain⟨⟨he,hr,hl⟩,⟨ht,h6⟩,rfl,hln,_,hnd⟩:=h
 have hnd:nd<es.length:=by omega
 obtain⟨row,hrow,hrm⟩:=get_lt hnd
 obtain⟨A1,A2⟩:=ahead_fold he hrow
 obtain⟨b,b1,b2⟩:=back_all (R:=R) 1001 (by omega) gs ge gw labels T es (nd:Int) ((2^T.length:Nat):Int) index (row.foldl (fun m w=>spreadF es 1001 w.toNat m) (List.replicate es.length false)) ⟨gSpread 1001,gHolds 13⟩ he hr hl
 have hb:=b1.good hl
 obtain⟨B1,B2⟩:=behind he b1 hb hnd
 have hbl:=b1.1
 unfold i_tableau_fair.main
 dsimp only
 rw[mk_eq (by omega),Option.bind_some,ix_get hrow,Option.bind_some]
 have hcl:(List.replicate es.length false).count false<1001:=Nat.lt_of_le_of_lt (cnt_len _) (by rw[List.length_replicate];omega)
 have key:=fun(ws:List Int) (hw:∀x∈ws,0<=x/\x<(es.length:Int))=>post_fold (es:=es) (k:=1001) (n:=es.length) (fun v m h1 h2 h3=>spread_post he 1001 v m h1 h2 h3) ws (List.replicate es.length false) hw (by simp) hcl
 unfold i_tableau_fair.l3
 refine(count row.length (fun t a nx=>i_tableau_fair.b3 ⟨gSpread 1001,gHolds 13⟩ 1001 gs ge gw labels T es (nd:Int) ((2^T.length:Nat):Int) row (row.length:Int) index t a nx _) (fun i a=>a=(row.take i).foldl (fun m w=>spreadF es 1001 w.toNat m) (List.replicate es.length false)) (fun _ _=>K (decide (fairI labels T es nd)) index) (fun a nx ha=> ?_) (fun i a nx hi ha hnx=> ?_) 1001 0 _ rfl (by omega) (by have:=hr row hrm;omega))
 ·unfold i_tableau_fair.b3
  rw[nlt_nat (by omega),cond_false,ha,take_all]
  dsimp only
  rw[mkd_ix (by rw[A1];exact hnd),Option.bind_some]
  by_cases hc:Plus (edge es) nd nd
  ·rw[decide_eq_true ((A2 nd).2 hc),Bool.not_true,cond_false,mk_eq (by omega),Option.bind_some,b2,Option.bind_some,show gSpread 1001 b (nd:Int) (List.replicate es.length false)=some _ from if_pos ⟨hb,by simp[hbl],⟨by omega,by omega⟩,hcl⟩,Option.bind_some,Int.toNat_natCast]
   rw[parts_loop 1001 (by omega) gs ge gw labels T index es nd _ _ (gSpread 1001) ht he hl hln A1 B1 A2 B2 K]
   congr 1
   exact decide_eq_decide.2 ⟨fun q=>⟨hc,q⟩,fun q=>q.2⟩
  ·rw[decide_eq_false (fun q=>hc ((A2 nd).1 q)),Bool.not_false,cond_true,decide_eq_false (p:=fairI _ _ _ _) (fun q=>hc q.1)]
 ·subst ha
  obtain⟨x,hx,hxm⟩:=get_lt hi
  have hp:=key (row.take i) (fun y hy=>(he.2 row hrm).2 y (List.mem_of_mem_take hy))
  have hr':=hr row hrm
  unfold i_tableau_fair.b3
  dsimp only
  rw[lt_nat hi,cond_true,ix_get hx,Option.bind_some,show gSpread 1001 es x _=some _ from if_pos ⟨he,by rw[hp.len];simp,(he.2 row hrm).2 x hxm,Nat.lt_of_le_of_lt hp.cnt hcl⟩,Option.bind_some,wr_one (by omega)]
  exact hnx _ (fold_take (f:=fun m w=>spreadF es 1001 w.toNat m) hx).symm
end
theorem fair_ok :EntOK Tryd.prog (i_tableau_fair.ent gFair):=i_tableau_fair.ok (G:=⟨gSpread 1001,gHolds 13⟩) ⟨spread_ok 1001,holds_ok 13,trivial⟩ fun gs ge gw labels T index es node sets r h=>by
 unfold gFair at h
 split at h
 ·rename_i hp
  cases h
  obtain⟨a,rfl⟩:=Int.eq_ofNat_of_zero_le hp.2.2.2.2.1
  exact⟨1001,fair_main gs ge gw labels T index es a sets hp _⟩
 ·cases h
end Go.Proofs.YtjafncnjefnloaaDoor.Den
