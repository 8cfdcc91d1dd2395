/-
  Texts that the claim rests on, merged: PAp, App.
-/
import Derived.Test.YtkinkfieackmdaaGreatDoorZRowPth11
import Derived.Test.YtkinkfieackmdaaGreatDoorZRowPth21

namespace Go.Proofs.YtkinkfieackmdaaGreatDoor.Den
open Go.RowKit
set_option maxRecDepth 100000
set_option linter.unusedVariables false
namespace internalstrconv_small
structure Gs where
 none_:Unit
noncomputable def main {R:Type} (G:Gs) (n:Nat) (i:Int) (K:ByteArray->Option R):Option R:=
 bif decide (i<10)then
  (
  (sW (ByteArray.mk #[48,49,50,51,52,53,54,55,56,57,97,98,99,100,101,102,103,104,105,106,107,108,109,110,111,112,113,114,115,116,117,118,119,120,121,122]) i (wr (i+1))).bind λq=>
  K q
  )
 else
  (sW (ByteArray.mk #[48,48,48,49,48,50,48,51,48,52,48,53,48,54,48,55,48,56,48,57,49,48,49,49,49,50,49,51,49,52,49,53,49,54,49,55,49,56,49,57,50,48,50,49,50,50,50,51,50,52,50,53,50,54,50,55,50,56,50,57,51,48,51,49,51,50,51,51,51,52,51,53,51,54,51,55,51,56,51,57,52,48,52,49,52,50,52,51,52,52,52,53,52,54,52,55,52,56,52,57,53,48,53,49,53,50,53,51,53,52,53,53,53,54,53,55,53,56,53,57,54,48,54,49,54,50,54,51,54,52,54,53,54,54,54,55,54,56,54,57,55,48,55,49,55,50,55,51,55,52,55,53,55,54,55,55,55,56,55,57,56,48,56,49,56,50,56,51,56,52,56,53,56,54,56,55,56,56,56,57,57,48,57,49,57,50,57,51,57,52,57,53,57,54,57,55,57,56,57,57]) (wr (i*2)) (wr ((wr (i*2))+2))).bind λq2=>
  K q2
noncomputable def ax (G:Gs) (i:Int) (r:ByteArray):Prop:=∃n,main (R:=AT×List Ob) G n i (λr0=>some (.one (.s r0),[]))=some (.one (.s r),[])
theorem ok {G:Gs} (hG:AE []) {g:Q} (hg:∀i r,g i=some r->ax G i r):EO (ent g):=λR xs H K r hc=>by
 simp only[ent]at hc;split at hc
 ·exact okL hc λr j=>let⟨_,j⟩:=hg _ _ j;fF hG ⟨15,0,[],[],[2],[],[]⟩ nP Tryz.func153 j
 ·cases hc
end internalstrconv_small
namespace internalstrconv_AppendUint_o
structure Gs where
 internalstrconv_small:internalstrconv_small.Q
noncomputable def main {R:Type} (G:Gs) (n:Nat) (dst:LI) (i base:Int) (K:LI->Option R):Option R:=
 bif decide (base=10)then
  (
  bif decide (i<100)then
   (
   (G.internalstrconv_small (wr (i))).bind λr=>
   (lim (List.append dst (ofS r))).bind λzs=>
   K zs
   )
  else
   none
  )
 else
  none
noncomputable def ax (G:Gs) (dst:LI) (i base:Int) (r:LI):Prop:=∃n,main (R:=AT×List Ob) G n dst i base (λr0=>some (.one (.o 1),[.gone,.row .u 0 r0]))=some (.one (.o 1),[.gone,.row .u 0 r])
theorem ok {G:Gs} (hG:AE [internalstrconv_small.ent G.internalstrconv_small]) {g:Q} (hg:∀dst i base r,g dst i base=some r->ax G dst i base r):EO (ent g):=λR xs H K r hc=>by
 simp only[ent]at hc;split at hc
 ·rename_i a a2 h;exact okL hc λr j=>let⟨_,j⟩:=hg _ _ _ _ j;rR hG ⟨36,1,[],[],[6],[],[]⟩ nP [0] (xs2:=[.one (.o 1),.one (.k .u64 a),.one (.i a2)]) (H2:=[.gone,.row .u 0 h]) Tryz.func144 j
 ·cases hc
end internalstrconv_AppendUint_o
namespace internalstrconv_AppendInt_o
structure Gs where
 internalstrconv_AppendUint_o:internalstrconv_AppendUint_o.Q
noncomputable def ae (G:Gs):List Ent:=[internalstrconv_AppendUint_o.ent G.internalstrconv_AppendUint_o]
noncomputable def c5 {R:Type} (G:Gs) (n:Nat) (base u:Int) (h1:LI) (k0:LI->Option R):Option R:=
 (G.internalstrconv_AppendUint_o h1 u base).bind λr=>
 k0 r
noncomputable def main {R:Type} (G:Gs) (n:Nat) (dst:LI) (i base:Int) (K:LI->Option R):Option R:=
 bif decide (i<0)then
  (
  (lim (dst++[45])).bind λzs=>
  c5 G n base (IntKind.wrap .u64 (0-(IntKind.wrap .u64 i))) zs
   (λh12=>K h12)
  )
 else
  c5 G n base (IntKind.wrap .u64 i) dst
   (λh122=>K h122)
noncomputable def dc5 (G:Gs) (n:Nat) (R:Type) (st:St) (K:Kt R):Option R:=match st with
 |⟨[(0,.one (.o 1)),(2,.one (.i base)),(7,.one (.k .u64 u))],[.gone,.row .u 0 h1]⟩=>c5 G n base u h1 (λh12=>K .ret ⟨[(6,.one (.o 1))],[.gone,.row .u 0 h12]⟩)
 |_=>none
noncomputable def pc (G:Gs) (n:Nat):Pcs:=⟨nK,λR id st K=>bif Nat.beq id 5 then dc5 G n R st K else none,nK⟩
noncomputable def an:Ann:=⟨21,1,[],[(5,[0,2,7])],[6],[],[]⟩
noncomputable abbrev bd:=ai Tryz.f115
noncomputable abbrev q5:=am [1,1,1] bd
theorem pc5 {G:Gs} (hG:AE (ae G)) {n:Nat}:PO an q5 (dc5 G n):=cpc hG (pc G n) ⟨[],[6],[]⟩ (apl [] trivial) λR st K r h=>by unfold dc5 at h;split at h;exact .trans (by kernel_rfl) h;cases h
noncomputable def ax (G:Gs) (dst:LI) (i base:Int) (r:LI):Prop:=∃n,main (R:=AT×List Ob) G n dst i base (λr0=>some (.one (.o 1),[.gone,.row .u 0 r0]))=some (.one (.o 1),[.gone,.row .u 0 r])
theorem ok {G:Gs} (hG:AE (ae G)) {g:Q} (hg:∀dst i base r,g dst i base=some r->ax G dst i base r):EO (ent g):=λR xs H K r hc=>by
 simp only[ent]at hc;split at hc
 ·rename_i a a2 h;exact okL hc λr j=>let⟨n,j⟩:=hg _ _ _ _ j;rR hG an (pc G n) [0] (xs2:=[.one (.o 1),.one (.i a),.one (.i a2)]) (H2:=[.gone,.row .u 0 h]) Tryz.func115 j (apl [(0,5,q5)] ⟨pc5 hG,trivial⟩)
 ·cases hc
end internalstrconv_AppendInt_o
namespace z5i
structure Gs where
 internalstrconv_AppendInt_o:internalstrconv_AppendInt_o.Q
noncomputable def main {R:Type} (G:Gs) (n:Nat) (dst:LI) (i base:Int) (K:LI->Option R):Option R:=
 (G.internalstrconv_AppendInt_o dst i base).bind λr=>
 K r
noncomputable def ax (G:Gs) (dst:LI) (i base:Int) (r:LI):Prop:=∃n,main (R:=AT×List Ob) G n dst i base (λr0=>some (.one (.o 1),[.gone,.row .u 0 r0]))=some (.one (.o 1),[.gone,.row .u 0 r])
theorem ok {G:Gs} (hG:AE [internalstrconv_AppendInt_o.ent G.internalstrconv_AppendInt_o]) {g:Q} (hg:∀dst i base r,g dst i base=some r->ax G dst i base r):EO (ent g):=λR xs H K r hc=>by
 simp only[ent]at hc;split at hc
 ·rename_i a a2 h;exact okL hc λr j=>let⟨_,j⟩:=hg _ _ _ _ j;rR hG ⟨11,1,[],[],[6],[],[]⟩ nP [0] (xs2:=[.one (.o 1),.one (.i a),.one (.i a2)]) (H2:=[.gone,.row .u 0 h]) Tryz.func79 j
 ·cases hc
end z5i
open Classical
theorem vZ :∀k:Fin 100,internalstrconv_small.main (R:=ByteArray) ⟨()⟩ 1 ((k.val:Nat):Int) some=some (sOf (bO ((k.val:Nat):Int)))/\ofS (sOf (bO ((k.val:Nat):Int)))=bO ((k.val:Nat):Int):=by decide+kernel
theorem BX {R:Type} (i:Int) (K:ByteArray->Option R):internalstrconv_small.main ⟨()⟩ 1 i K=Option.bind (internalstrconv_small.main (R:=ByteArray) ⟨()⟩ 1 i some) K:=by
 unfold internalstrconv_small.main;cases decide (i<10)with
 |true=>simp only[cT];generalize sW _ _ _=o;cases o<;>rfl
 |false=>simp only[cF];generalize sW _ _ _=o;cases o<;>rfl
noncomputable def zR:Int->Option ByteArray:=λi=>if 0<=i/\i<100 then some (sOf (bO i))else none
theorem Ak :EO (internalstrconv_small.ent zR):=internalstrconv_small.ok (G:=⟨()⟩) trivial λi r h=>by
 unfold zR at h;split at h
 ·rename_i hs;cases h;obtain⟨k,rfl⟩:∃k:Nat,i=(k:Int):=⟨i.toNat,by omega⟩;exact⟨1,by rw[BX,(vZ ⟨k,by omega⟩).1];rfl⟩
 ·cases h
theorem xj {i:Int} (h0:0<=i) (h1:i<100):ofS (sOf (bO i))=bO i:=by
 obtain⟨k,rfl⟩:∃k:Nat,i=(k:Int):=⟨i.toNat,by omega⟩;exact(vZ ⟨k,by omega⟩).2
noncomputable def gAu:List Int->Int->Int->Option (List Int):=λl i b=>if b=10/\0<=i/\i<100/\l.length<1000000001 then some (l++bO i)else none
theorem nU :EO (internalstrconv_AppendUint_o.ent gAu):=internalstrconv_AppendUint_o.ok (G:=⟨zR⟩) ⟨Ak,trivial⟩ λl i b r h=>by
 unfold gAu at h;split at h
 ·rename_i hs;obtain⟨rfl,h0,h1,hl⟩:=hs;cases h;refine⟨1,?_⟩;unfold internalstrconv_AppendUint_o.main;rw[dT rfl,cT,dT h1,cT,aI (by omega)];show Option.bind (zR i) _=_;have hd:=gJ i;rw[show zR i=some (sOf (bO i))from if_pos ⟨h0,h1⟩,bS,xj h0 h1];show Option.bind (lim (l++bO i)) _=_;rw[cj (by simp;omega),bS]
 ·cases h
theorem CB :IntKind.wrap .u64 (0-(IntKind.wrap .u64 (-1)))=1:=by decide+kernel
theorem E2 {i:Int} (h0:0<=i) (h1:i<100):IntKind.wrap .u64 i=i:=by
 obtain⟨k,rfl⟩:∃k:Nat,i=(k:Int):=⟨i.toNat,by omega⟩;have:∀k:Fin 100,IntKind.wrap .u64 ((k.val:Nat):Int)=((k.val:Nat):Int):=by decide+kernel
 exact this ⟨k,by omega⟩
theorem nQ :EO (internalstrconv_AppendInt_o.ent hM):=internalstrconv_AppendInt_o.ok (G:=⟨gAu⟩) ⟨nU,trivial⟩ λl i b r h=>by
 unfold hM at h;split at h
 ·rename_i hs;obtain⟨rfl,h0,h1,hl⟩:=hs;cases h;refine⟨1,?_⟩;unfold internalstrconv_AppendInt_o.main internalstrconv_AppendInt_o.c5;by_cases hi:i<0
  ·obtain rfl:i= -1:=by omega
   rw[dT hi,cT,cj (by simp;omega),bS,CB];show Option.bind (gAu (l++[45]) 1 10) _=_;rw[show gAu (l++[45]) 1 10=some ((l++[45])++bO 1)from if_pos ⟨rfl,by omega,by omega,by simp;omega⟩,bS,List.append_assoc];rfl
  ·rw[dF hi,cF,E2 (by omega) h1];show Option.bind (gAu l i 10) _=_;rw[show gAu l i 10=some (l++bO i)from if_pos ⟨rfl,by omega,h1,by omega⟩,bS]
 ·cases h
theorem p8 :EO (z5i.ent hM):=z5i.ok (G:=⟨hM⟩) ⟨nQ,trivial⟩ λl i b r h=>by
 refine⟨1,?_⟩;unfold z5i.main;show Option.bind (hM l i b) _=_;rw[h,bS]
theorem Fq :EO (z1a.ent tT):=zI p8
def Cs (c:Int):Prop:=0<=c/\c<256
theorem s6 (l:List Int):(sOf l).data.toList=l.map λn=>UInt8.ofNat n.toNat:=by
 have key:∀(l:List Int) (r:ByteArray),(l.foldl (λr n=>r.push (UInt8.ofNat n.toNat)) r).data.toList=r.data.toList++l.map λn=>UInt8.ofNat n.toNat:=by
  intro l
  induction l with
  |nil=>intro r;simp
  | cons x xs ih =>
   intro r;rw[List.foldl_cons,ih,List.map_cons];simp[ByteArray.push]
 exact(key l ByteArray.empty).trans (List.nil_append _)
theorem vh {l:List Int} (h:∀c∈l,Cs c):ofS (sOf l)=l:=by
 unfold ofS;rw[s6,List.map_map]
 conv=>rhs;rw[<-List.map_id l]
 refine List.map_congr_left λc hc=> ?_;obtain⟨h0,h1⟩:=h c hc;show ((UInt8.ofNat c.toNat).toNat:Int)=c;rw[UInt8.toNat_ofNat',Nat.mod_eq_of_lt (by omega)];omega
theorem E3 (s:ByteArray):∀c∈ofS s,Cs c:=λc hc=>by
 unfold ofS at hc;obtain⟨b,_,rfl⟩:=List.mem_map.1 hc;have:=b.toNat_lt;exact⟨by omega,by omega⟩
theorem vt {i:Int} (h0: -1<=i) (h1:i<100):∀c∈bO i,Cs c:=λc hc=>by
 have:=dS h0 h1 c hc;unfold pI at this;simp only[Bool.or_eq_true,bA,decide_eq_true_eq]at this;exact⟨by omega,by omega⟩
theorem pA :∀(k:Nat) (t:Tm),t.total<k->KeysOk t->∀c∈bZ t,Cs c
 |0,_,h,_=>absurd h (Nat.not_lt_zero _)
 | k + 1, t, h, ho => fun c hc => by
  obtain⟨ok,oa⟩:=ho.out;have rng: -1<=t.op/\t.op<100/\ -1<=t.sort/\t.sort<100:=by
   rcases ok with⟨a,_,b,c,_⟩|⟨a,b,_,c⟩<;>omega
  rw[iq]at hc;rcases List.mem_append.1 hc with hc|hc
  ·exact vt rng.1 rng.2.1 c hc
  rcases List.mem_append.1 hc with hc|hc
  ·split at hc
   ·rcases List.mem_cons.1 hc with rfl|hc
    ·exact⟨by omega,by omega⟩
    rcases List.mem_append.1 hc with hc|hc
    ·exact E3 _ c hc
    rcases List.mem_cons.1 hc with rfl|hc
    ·exact⟨by omega,by omega⟩
    ·exact vt rng.2.2.1 rng.2.2.2 c hc
   ·cases hc
  ·rcases List.mem_cons.1 hc with rfl|hc
   ·exact⟨by omega,by omega⟩
   rcases List.mem_append.1 hc with hc|hc
   ·obtain⟨x,x1,x2⟩:=List.mem_flatMap.1 hc;exact pA k x (by have:=ac x1;omega) (oa x x1) c x2
   ·simp at hc;subst hc;exact⟨by omega,by omega⟩
theorem mA (l:List Int):(sOf l).size=l.length:=by
 have:(sOf l).size=(sOf l).data.toList.length:=by cases sOf l;rfl
 rw[this,s6,List.length_map]
def jj (a b:Tm):ByteArray:=sOf (bZ a)++ByteArray.mk #[62]++sOf (bZ b)
theorem vE (a b:ByteArray):ofS (a++b)=ofS a++ofS b:=by
 unfold ofS;rw[show (a++b).data.toList=a.data.toList++b.data.toList by simp,List.map_append]
theorem yy {a b c d:Tm} (ha:KeysOk a) (hb:KeysOk b) (hc:KeysOk c) (hd:KeysOk d) (h:jj a b=jj c d):a=c/\b=d:=by
 have key:∀{x y:Tm},KeysOk x->KeysOk y->ofS (jj x y)=sv x y:=λ{x y} hx hy=>by
  unfold jj sv;rw[vE,vE,vh (pA _ x (Nat.lt_succ_self _) hx),vh (pA _ y (Nat.lt_succ_self _) hy)];show bZ x++[62]++bZ y=_;simp
 refine Bg ha hb hc hd ?_;rw[<-key ha hb,<-key hc hd,h]
theorem oP {a:Tm} (h:a.total<100000000):rj (sOf (bZ a)) (ByteArray.mk #[62])=some (sOf (bZ a)++ByteArray.mk #[62]):=by
 have:=g9 a;unfold rj;rw[mA,dT (by show (bZ a).length+1<=_;omega),cT]
theorem oq {a b:Tm} (h:a.total<100000000) (h2:b.total<100000000):rj (sOf (bZ a)++ByteArray.mk #[62]) (sOf (bZ b))=some (jj a b):=by
 have:=g9 a;have:=g9 b;unfold rj;have hs:(sOf (bZ a)++ByteArray.mk #[62]).size=(bZ a).length+1:=by
  rw[ByteArray.size_append,mA];rfl
 rw[hs,mA,dT (by omega),cT];rfl
end Go.Proofs.YtkinkfieackmdaaGreatDoor.Den
