/-
  Texts that the claim rests on, merged: ShelfS, LfS, Dist, Vs2.
-/
import Derived.Shelf.SlSortCmp.NoneTotal
import Derived.Test.YtkinkfieackmdaaGreatDoorProg
import Derived.Test.YtkinkfieackmdaaGreatDoorZRowPth20
import Derived.Test.YtkinkfieackmdaaGreatDoorZRowPth24
import Derived.Test.YtkinkfieackmdaaGreatDoorZRowPth29

namespace Go.Proofs
open Go.Shelf
def Tryz.sortT_ren :Go.Shelf.Ren:=⟨λ|6=>138|15=>150|14=>149|28=>165|29=>166|20=>157|21=>158|22=>159|23=>160|24=>161|25=>162|26=>163|27=>164|46=>172|47=>173|48=>174|49=>175|50=>176|57=>179|n=>n,λ|22=>54|24=>56|25=>120|3=>3|39=>178|0=>0|53=>213|55=>190|4=>4|46=>206|45=>205|50=>210|5=>5|9=>9|66=>217|70=>221|76=>223|77=>224|n=>n,λ|n=>n⟩
theorem Tryz.sortT :Go.Proofs.SlLaysF0.n6 Tryz.prog Tryz.sortT_ren:={
 mixed:=by kernel_rfl
 f6:=⟨Tryz.f138.name,by decide,Tryz.func138.trans (congrArg some (by kernel_rfl))⟩
 f14:=⟨Tryz.f149.name,by decide,Tryz.func149.trans (congrArg some (by kernel_rfl))⟩
 f15:=Tryz.func150.trans (congrArg some (by kernel_rfl))
 f20:=⟨Tryz.f157.name,by decide,Tryz.func157.trans (congrArg some (by kernel_rfl))⟩
 f21:=⟨Tryz.f158.name,by decide,Tryz.func158.trans (congrArg some (by kernel_rfl))⟩
 f22:=⟨Tryz.f159.name,by decide,Tryz.func159.trans (congrArg some (by kernel_rfl))⟩
 f23:=⟨Tryz.f160.name,by decide,Tryz.func160.trans (congrArg some (by kernel_rfl))⟩
 f24:=⟨Tryz.f161.name,by decide,Tryz.func161.trans (congrArg some (by kernel_rfl))⟩
 f25:=⟨Tryz.f162.name,by decide,Tryz.func162.trans (congrArg some (by kernel_rfl))⟩
 f26:=⟨Tryz.f163.name,by decide,Tryz.func163.trans (congrArg some (by kernel_rfl))⟩
 f27:=⟨Tryz.f164.name,by decide,Tryz.func164.trans (congrArg some (by kernel_rfl))⟩
 f28:=Tryz.func165.trans (congrArg some (by kernel_rfl))
 f29:=Tryz.func166.trans (congrArg some (by kernel_rfl))
 f46:=⟨Tryz.f172.name,by decide,Tryz.func172.trans (congrArg some (by kernel_rfl))⟩
 f47:=Tryz.func173.trans (congrArg some (by kernel_rfl))
 f48:=Tryz.func174.trans (congrArg some (by kernel_rfl))
 f49:=⟨Tryz.f175.name,by decide,Tryz.func175.trans (congrArg some (by kernel_rfl))⟩
 f50:=⟨Tryz.f176.name,by decide,Tryz.func176.trans (congrArg some (by kernel_rfl))⟩
 f57:=⟨Tryz.f179.name,by decide,Tryz.func179.trans (congrArg some (by kernel_rfl))⟩
 t0:=Tryz.underlying0
 a0:=Tryz.isAgg0
 z0:=Tryz.sizeOf0
 v0:=Tryz.zeroValue0
 t3:=Tryz.underlying3
 a3:=Tryz.isAgg3
 z3:=Tryz.sizeOf3
 v3:=Tryz.zeroValue3
 t4:=Tryz.underlying4
 a4:=Tryz.isAgg4
 z4:=Tryz.sizeOf4
 v4:=Tryz.zeroValue4
 t5:=Tryz.underlying5
 a5:=Tryz.isAgg5
 z5:=Tryz.sizeOf5
 v5:=Tryz.zeroValue5
 t9:=Tryz.underlying9
 a9:=Tryz.isAgg9
 z9:=Tryz.sizeOf9
 v9:=Tryz.zeroValue9
 t22:=Tryz.underlying54
 a22:=Tryz.isAgg54
 z22:=Tryz.sizeOf54
 v22:=Tryz.zeroValue54
 t25:=Tryz.underlying120
 a25:=Tryz.isAgg120
 z25:=Tryz.sizeOf120
 v25:=Tryz.zeroValue120
 t39:=Tryz.underlying178
 a39:=Tryz.isAgg178
 z39:=Tryz.sizeOf178
 v39:=Tryz.zeroValue178
 t45:=Tryz.underlying205
 a45:=Tryz.isAgg205
 z45:=Tryz.sizeOf205
 v45:=Tryz.zeroValue205
 t46:=Tryz.underlying206
 a46:=Tryz.isAgg206
 z46:=Tryz.sizeOf206
 v46:=Tryz.zeroValue206
 t50:=Tryz.underlying210
 a50:=Tryz.isAgg210
 z50:=Tryz.sizeOf210
 v50:=Tryz.zeroValue210
 t53:=Tryz.underlying213
 a53:=Tryz.isAgg213
 z53:=Tryz.sizeOf213
 v53:=Tryz.zeroValue213
 t55:=Tryz.underlying190
 a55:=Tryz.isAgg190
 z55:=Tryz.sizeOf190
 v55:=Tryz.zeroValue190
 t66:=Tryz.underlying217
 a66:=Tryz.isAgg217
 z66:=Tryz.sizeOf217
 v66:=Tryz.zeroValue217
 t70:=Tryz.underlying221
 a70:=Tryz.isAgg221
 z70:=Tryz.sizeOf221
 v70:=Tryz.zeroValue221
 t76:=Tryz.underlying223
 a76:=Tryz.isAgg223
 z76:=Tryz.sizeOf223
 v76:=Tryz.zeroValue223
 t77:=Tryz.underlying224
 a77:=Tryz.isAgg224
 z77:=Tryz.sizeOf224
 v77:=Tryz.zeroValue224}
open Go.RowKit Go.Lib Go.Sort in
theorem Tryz.slices_SortFunc {α:Type} [Inhabited α] (enc:α->List Value) (hk:∀x,(enc x).length=4) (h1:∀x,∀v∈enc x,v.oneCell'=true) (cf:α->α->Int) (hO:SWO (ltOf cf)) (g:Nat) (cb:Array Value) (blk off cap:Nat) (d:Array α) (w:World)
  (eg:∀args w,(callFunc g args).run Tryz.prog w= .ok (.enter g args) w) (hcmp:CmpLays Tryz.prog g cb enc 4 cf blk off d.size w) (hH:HoldsK enc 4 w blk off d) (hblk:blk<w.heap.size) (hsz:d.size<4611686018427387904):
  Calls Tryz.prog 138 #[.slice (some ⟨blk,off,none⟩) d.size cap,.func (.func g) #[] cb] w λe w'=>
   e= .returned (.tuple #[])/\∃d' n os,PermIn 0 d.size d d'/\SortedIn (ltOf cf) 0 d.size d'/\w'=sortWorldK enc 4 w blk off n d' os:=AnyQ.slices_SortFunc Tryz.sortT 4 Tryz.isAgg56 Tryz.sizeOf56 enc hk h1 cf hO g cb blk off cap d w eg hcmp hH hblk hsz
open Go.RowKit Go.Lib in
theorem Tryz.slices_SortFunc_none (p:Option Addr) (cap:Nat) (fv:Value) (w:World):
  Calls Tryz.prog 138 #[.slice p 0 cap,fv] w λe w'=>e= .returned (.tuple #[])/\w'=w:=AnyF.slices_SortFunc_none Tryz.sortT p cap fv w
end Go.Proofs
namespace Go.Proofs.YtkinkfieackmdaaGreatDoor
open Go.RowKit Go.Sort
theorem BG (x:Lf):x.enc.length=4:=rfl
theorem xo {w:World} {blk n off:Nat} {t:TypeId} {d:List Lf} (h:Rw w blk t n off d):HoldsK Lf.enc 4 w blk off d.toArray:=by
 intro j hj;have hj':j<d.length*4:=by simpa using hj
 have hfit:=h.fit;refine⟨?_,(h.some (by omega)).2⟩;have hk:j / 4<d.length:=by omega
 have hx:d[j / 4]? =some d[j / 4]:=List.getElem?_eq_getElem hk;obtain⟨c0,c1,c2,c3⟩:=h.at_ _ _ hx;rw[get_flatK _ _ _ _ (by simpa using hj')];have e:d.toArray[j / 4]! =d[j / 4]:=by simp[hk]
 rw[e];have h4:j%4=0\/j%4=1\/j%4=2\/j%4=3:=by omega
 rcases h4 with h4|h4|h4|h4
 ·rw[h4,show off+j=off+j / 4*4 by omega];exact c0
 ·rw[h4,show off+j=off+j / 4*4+1 by omega];exact c1
 ·rw[h4,show off+j=off+j / 4*4+2 by omega];exact c2
 ·rw[h4,show off+j=off+j / 4*4+3 by omega];exact c3
theorem DU {w:World} {blk off:Nat} {d:Array Lf} (h:HoldsK Lf.enc 4 w blk off d) {k:Nat} (hk:k<d.size):At4 w blk (off+k*4) d[k]! :=by
 have g:∀j,j<4->w.cell? ⟨blk,off+k*4+j,none⟩=some ((d[k]!).enc[j]!):=λj hj=>by
  have q:=(h (k*4+j) (by simp;omega)).1;rw[get_flatK _ _ _ _ (by omega),show (k*4+j) / 4=k by omega,show (k*4+j)%4=j by omega]at q;rw[Nat.add_assoc];exact q
 exact⟨g 0 (by omega),g 1 (by omega),g 2 (by omega),g 3 (by omega)⟩
def cfL (x y:Lf):Int:=Den.aQ x.tm y.tm
theorem BE :SWO (ltOf cfL) where
 irrefl x:=by
  unfold ltOf cfL;rw[Den.z09];rfl
 trans x y z h1 h2:=by
  unfold ltOf cfL at*;exact dT (Den.z07 (of_decide_eq_true h1) (Int.le_of_lt (of_decide_eq_true h2)))
 ntrans x y z h1 h2:=by
  unfold ltOf cfL at*;have a:=of_decide_eq_false h1;have b:=of_decide_eq_false h2;refine dF λc=> ?_;have n1:=Den.z08 x.tm y.tm;have n2:=Den.z08 y.tm z.tm;have n3:=Den.z08 x.tm z.tm;have:=Den.z06 (a:=z.tm) (b:=y.tm) (c:=x.tm) (by omega) (by omega);omega
theorem BA {blk n off cap:Nat} {t:TypeId} (d:List Lf) (w:World) (h:Rw w blk t n off d) (hlen:d.length<4611686018427387904):
  Calls Tryz.prog 138 #[.slice (some ⟨blk,off,none⟩) d.length cap,.func (.func 114) #[] #[]] w λe w'=>e= .returned (.tuple #[])/\∃d':List Lf,d'.Perm d/\d'.Pairwise (λa b=>Den.aQ a.tm b.tm<=0)/\Rw w' blk t n off d'/\Chg blk w w':=by
 have eg:∀args w,(callFunc 114 args).run Tryz.prog w= .ok (.enter 114 args) w:=enters_of Tryz.func114 (by kernel_rfl) rfl;have hH:=xo h;have q:=Tryz.slices_SortFunc Lf.enc BG (λx v hv=>by
  simp[Lf.enc]at hv;rcases hv with rfl|rfl|rfl|rfl<;>rfl) cfL BE 114 #[] blk off cap d.toArray w eg (λm os dk _ x y=>vy x y _) hH h.lt (by simpa using hlen)
 refine q.mono λe w' ⟨he,d',m,os,hp,hs,hw⟩=>⟨he,d'.toList,?_,?_,?_,?_⟩
 ·have:=hp.2.2;have e1:d'.extract 0 d.toArray.size=d':=by rw[<-hp.1];simp
  rw[e1]at this;simpa using this
 ·rw[List.pairwise_iff_getElem];intro i j hi hj hij;have hi':i<d'.size:=by simpa using hi
  have hj':j<d'.size:=by simpa using hj
  have:=hs i j (Nat.zero_le _) hij (by rw[<-hp.1];exact hj');unfold ltOf cfL at this;have:=of_decide_eq_false this;rw[getElem!_pos d' j hj',getElem!_pos d' i hi']at this;have e:=Den.z08 (d'[j]).tm (d'[i]).tm;simp only[Array.getElem_toList];omega
 ·have hH2:HoldsK Lf.enc 4 w' blk off d':=by rw[hw];exact holdsK_sortWorldK_c Lf.enc 4 w blk off d.toArray d' m os hH h.lt hp.1
  obtain⟨cur,h1,h2⟩:=h.heap;refine⟨?_,?_,λk x hx=> ?_⟩
  ·refine⟨putCells id off (flatK Lf.enc 4 d') cur,?_,by simp[putCells,h2]⟩;rw[hw];have hlt:=h.lt;show ((w.heap.modify blk (onCells (putCells id off (flatK Lf.enc 4 d'))))++os)[blk]? =_;rw[Array.getElem?_append_left (by simpa using hlt),Array.getElem?_modify,if_pos rfl,h1];rfl
  ·have:=h.fit;have e:=hp.1;simp at e;rw[Array.length_toList,e];exact this
  ·have hk:k<d'.size:=by have:=(gI.1 hx).1;simpa using this
   have e:d'[k]! =x:=by
    rw[getElem!_pos d' k hk];have:=(gI.1 hx).2;simpa using this
   rw[<-e];exact DU hH2 hk
 ·rw[hw];refine⟨rfl,rfl,rfl,?_,λb hb hne=> ?_⟩
  ·show w.heap.size<=((w.heap.modify blk _)++os).size;simp
  ·show ((w.heap.modify blk (onCells (putCells id off (flatK Lf.enc 4 d'))))++os)[b]? =_;rw[Array.getElem?_append_left (by simpa using hb),Array.getElem?_modify,if_neg (λe=>hne e.symm)]
theorem pX {x:Lf}:∀{xs:List Lf} {p:Lf},x∈cmL p xs->x∈xs
 |[],_,h=>by cases h
 | y :: ys, p, h => by
  unfold cmL at h;split at h
  ·exact List.mem_cons_of_mem _ (pX h)
  ·rcases List.mem_cons.1 h with rfl|h
   ·exact List.mem_cons_self
   ·exact List.mem_cons_of_mem _ (pX h)
theorem zj {x:Lf} {d:List Lf} (h:x∈dD d):x∈d:=by
 cases d with
 |nil=>cases h
 | cons y ys =>
  rcases List.mem_cons.1 h with rfl|h
  ·exact List.mem_cons_self
  ·exact List.mem_cons_of_mem _ (pX h)
set_option maxHeartbeats 1000000 in
theorem iB (A:Option Addr) (n cap:Nat) (f:Value) (w:World) (hn:n<2):Calls Tryz.prog 139 #[.slice A n cap,f] w λe w'=>e= .returned (.slice A n cap)/\w'=w:=by
 have h1:(n:Int)<2:=by omega
 go_enter Tryz.func139,Tryz.ntmps139
 go_wp2_with fail
 go_ret
 exact⟨rfl,rfl⟩
set_option maxHeartbeats 1000000 in
theorem iN (A:Option Addr) (cap:Nat) (w:World):Calls Tryz.prog 111 #[.slice A 0 cap] w λe w'=>e= .returned (.slice A 0 cap)/\w'=w:=by
 go_enter Tryz.func111,Tryz.ntmps111
 go_wp2_with (first|(go_at_call 138;refine(Tryz.slices_SortFunc_none _ _ _ _).mono ?_;rintro e w' ⟨rfl,rfl⟩)|(go_at_call 139;refine(iB _ _ _ _ _ (by omega)).mono ?_;rintro e w' ⟨rfl,rfl⟩))
 go_ret
 exact⟨rfl,rfl⟩
set_option maxHeartbeats 1000000 in
theorem pW {blk n off cap:Nat} {t:TypeId} (d:List Lf) (w:World) (h:Rw w blk t n off d) (hcap:d.length<=cap) (hlen:d.length<4611686018427387904):
  Calls Tryz.prog 111 #[.slice (some ⟨blk,off,none⟩) d.length cap] w λe w'=>∃d':List Lf,e= .returned (.slice (some ⟨blk,off,none⟩) d'.length cap)/\d'.map Lf.tm=Den.jm (d.map Lf.tm)/\(∀x∈d',x∈d)/\Rw w' blk t n off d'/\Chg blk w w':=by
 have hs:=BA (cap:=cap) d w h hlen;have hc:∀(d1:List Lf) (w1:World),d1.length=d.length->Rw w1 blk t n off d1->Calls Tryz.prog 139 #[.slice (some ⟨blk,off,none⟩) d.length cap,.func (.func 77) #[] #[]] w1 λe w'=>e= .returned (.slice (some ⟨blk,off,none⟩) (dD d1).length cap)/\Rw w' blk t n off (dD d1)/\Chg blk w1 w':=λd1 w1 hl hr=>by
  rw[<-hl]at hcap hlen ⊢;by_cases h2:d1.length<2
  ·have e:dD   d1=d1:=by
    match d1,h2 with
    |[],_=>rfl
    |[x],_=>rfl
    |x::y::r,h=>exact absurd h (by simp)
   rw[e];exact(iB _ _ _ _ w1 h2).mono λ_ _ ⟨e1,e2⟩=>by subst e2;exact⟨e1,hr,Chg.refl _ _⟩
  ·exact rI d1 w1 hr hcap (by omega) (by omega)
 go_enter Tryz.func111,Tryz.ntmps111
 go_wp2_with (first|(go_at_call 138;refine hs.mono ?_;rintro e w1 ⟨rfl,d1,hp,hso,hr,hch⟩)|(go_at_call 139;refine(hc d1 w1 hp.length_eq hr).mono ?_;rintro e w2 ⟨rfl,hr2,hch2⟩))
 go_ret
 refine⟨_,rfl,?_,λx hx=>hp.mem_iff.1 (zj hx),hr2,hch.trans hch2⟩;rw[Bw];refine Den.tX ?_ λx=> ?_
 ·rw[List.pairwise_map];exact hso
 ·exact(hp.map Lf.tm).mem_iff
end Go.Proofs.YtkinkfieackmdaaGreatDoor
namespace Go.Proofs.YtkinkfieackmdaaGreatDoor.Abs
open Go.RowKit
theorem uf         {P : Program} {f : FuncId} {h : ag}   {a len s : Nat} {es : List (List V)} {v : V} (hc : callable P f) (ha : h[a]? = some (some (.row s es)))
  (hh:∀(w:World) (I:Nat->Prop) (ι:List Inf) (cs:Array Value) (inf:Inf),HR ι I w h->(∀b,I b->b<w.heap.size)->ι[a]? =some inf->ARs ι I w [.one (.own a 0 len)] cs->Calls P f cs w λe w'=>∃u,e= .returned u/\Chg inf.block w w'/\VR (λb=>I b\/b=inf.block) w' [] v u):
  Fn P f [.one (.own a 0 len)] h (λr h'=>r= .one v/\h'=h.set a none):=
 ⟨hc, fun w I ι cs hH hI hA => by
  have hal:a<h.length:=(gI.1 ha).1;obtain⟨inf,hi⟩:∃inf,ι[a]? =some inf:=⟨_,List.getElem?_eq_getElem (by rw[<-hH.len];exact hal)⟩;have hblk:inf.block<w.heap.size:=by
   obtain⟨cur,t,e,_⟩:=hH.obj a _ inf ha hi;exact cE e
  have hoff:=hH.off a _ inf ha hi
  have old:∀{id:Nat} {o:Ob} {inf':Inf},(h.set a none)[id]? =some (some o)->ι[id]? =some inf'->id≠a/\h[id]? =some (some o)/\inf'.block≠inf.block:=λ{id o inf'} q1 q2=>by
   by_cases e:id=a
   ·subst e;rw[sS hal]at q1;cases q1
   ·rw[sN (λq=>e q.symm)]at q1;exact⟨e,q1,λq=>e (hH.inj id a o _ inf' inf q1 ha q2 hi q)⟩
  have blk:∀{id:Nat} {o:Ob} {inf':Inf},h[id]? =some (some o)->ι[id]? =some inf'->inf'.block<w.heap.size:=λ{id o inf'} q1 q2=>by
   have ho:=hH.obj id o inf' q1 q2;cases o with
   |row s es=>obtain⟨cur,t,e,_⟩:=ho;exact cE e
   |map kvs=>obtain⟨cur,t,e,_⟩:=ho;exact cE e
  refine(hh w I ι cs inf hH hI hi hA).mono λ_ w' ⟨u,e1,hb,hv⟩=> ?_;have kI:Keeps I (λb=>I b\/b=inf.block) w w':=⟨λ_ q=>.inl q,λb o q=>by
   simp only[World.cell?];rw[hb.block b (hI b q) λe=>hoff (e▸q)]⟩
  exact⟨_,_,ι,λb=>I b\/b=inf.block,u,⟨rfl,rfl⟩,e1,
  { res := .one hv.up
    heap :=
      { len := by rw [List.length_set]; exact hH.len
        obj:=λid o inf' q1 q2=>by
          obtain⟨_,q3,q4⟩:=old q1 q2;exact(hH.obj id o inf' q3 q2).keep (Grows.refl _) kI (hb.block _ (blk q3 q2) q4)
        off:=λid o inf' q1 q2 q=>by
          obtain⟨_,q3,q4⟩:=old q1 q2;exact q.elim (hH.off id o inf' q3 q2) q4
        inj:=λid id' o o' inf1 inf2 q1 q2 q3 q4 e=>hH.inj id id' o o' inf1 inf2 (old q1 q3).2.1 (old q2 q4).2.1 q3 q4 e}
    imm:=λb q=>Nat.lt_of_lt_of_le (q.elim (hI b) λq=>q▸hblk) hb.size
    immlo:=λb q=>q.elim .inl λq=>.inr (.inl ⟨a,_,inf,ha,hi,q.symm⟩)
    pre:=Grows.refl _
    os:=hb.os
    tape:=hb.tape
    output:=hb.output
    grown:=hb.size
    frame:=λb hlt hn=>hb.block b hlt λe=>hn ⟨a,_,inf,ha,hi,e.symm⟩
    mine:=λid o inf' q1 q2=>.inl ⟨id,o,inf',(old q1 q2).2.1,q2,rfl⟩}⟩⟩
end Go.Proofs.YtkinkfieackmdaaGreatDoor.Abs
namespace Go.Proofs.YtkinkfieackmdaaGreatDoor.Den
open Go.RowKit
open Abs (V AV VR AR Inf OR HR)
def gp (x:Tm):List V:=[.lit (.int .i64 x.op),.lit (.string x.name),.lit (.int .i64 x.sort),.imm 4 []]
theorem wa {l:List Tm} (h:∀x∈l,x.args=[]):FR (.l (.n 1) l) (.imm 4 (l.map gp)):=by
 refine .l (T:=.n 1) (by decide) (List.length_map gp) (λe he=>by obtain⟨x,_,rfl⟩:=List.mem_map.1 he;rfl) λm h1 h2 j h3 h4=> ?_;have hm:l[m]∈l:=gM h1;have e:(l.map gp)[m]=gp l[m]:=List.getElem_map gp;simp only[e];have hj:j<4:=h3;have ha:=h _ hm
 match j,hj with
 |0,_=>exact .i
 |1,_=>exact .s
 |2,_=>exact .i
 | 3, _ =>
  show FR (.l (.n 1) (Tm.args l[m])) (.imm 4 []);rw[ha];exact FR.nil_ (T:=.n 1) (by decide)
def Lf.ok (x:Lf):Prop:=Abs.cL (.int .i64 x.op)/\Abs.cL (.string x.name)/\Abs.cL (.int .i64 x.sort)/\x.c<=9223372036854775807
theorem vi {α:Type} {P:Nat->α->Prop}:∀(n:Nat),(∀k,k<n->∃x,P k x)->∃l:List α,l.length=n/\∀k x,l[k]? =some x->P k x
 |0,_=>⟨[],rfl,λk x h=>by simp at h⟩
 | n + 1, h => by
  obtain⟨l,l1,l2⟩:=vi n λk hk=>h k (by omega);obtain⟨x,hx⟩:=h n (by omega);refine⟨l++[x],by simp[l1],λk y hy=> ?_⟩;rcases Nat.lt_or_ge k n with hk|hk
  ·rw[aL (by omega)]at hy;exact l2 k y hy
  ·have:k=n:=by
    have:=(gI.1 hy).1;simp at this;omega
   subst this;rw[aR (by omega),l1]at hy;simp at hy;exact hy▸hx
theorem z8 {I:Nat->Prop} {w:World} {ι:List Inf} {inf:Inf} {h:List Tm} {es:List (List V)} (hv:∀x∈h,x.args=[]) (hf:FR (.l (.n 1) h) (.imm 4 es)) (ho:OR ι I w inf (.row 4 es)):
  ∃(d:List Lf) (t:TypeId) (n:Nat),d.map Lf.tm=h/\Rw w inf.block t n inf.base d/\∀x∈d,Lf.ok x:=by
 obtain⟨cur,t,h1,_,h3,_,h5,_,h7⟩:=ho;cases hf with
 | l _ hl hs hr =>
  have hl:es.length=List.length (α:=Tm) h:=hl;obtain⟨d,d1,d2⟩:=vi (P:=λk (x:Lf)=>At4 w inf.block (inf.base+k*4) x/\h[k]? =some x.tm/\Lf.ok x) h.length λk hk=>by
   have hke:k<es.length:=by omega
   have hlen:es[k].length=4:=hs _ (gM hke);have cell:=λ(j:Nat) (hj:j<4)=>h7 k hke j (by omega)
   have fr:=λ(j:Nat) (hj:j<4)=>hr k hk hke j hj (by omega)
   obtain⟨u0,c0,v0⟩:=cell 0 (by omega);obtain⟨u1,c1,v1⟩:=cell 1 (by omega);obtain⟨u2,c2,v2⟩:=cell 2 (by omega);obtain⟨u3,c3,v3⟩:=cell 3 (by omega);have f0:FR (.i (Tm.op h[k])) es[k][0]:=fr 0 (by omega);have f1:FR (.s (Tm.name h[k])) es[k][1]:=fr 1 (by omega);have f2:FR (.i (Tm.sort h[k])) es[k][2]:=fr 2 (by omega);have f3:FR (.l (.n 1) (Tm.args h[k])) es[k][3]:=fr 3 (by omega);rw[hv _ (gM hk)]at f3;generalize es[k][0]=e0 at v0 f0;generalize es[k][1]=e1 at v1 f1;generalize es[k][2]=e2 at v2 f2;generalize es[k][3]=e3 at v3 f3;cases f0;cases f1;cases f2;cases v0 with
   |lit o0=>
   cases v1 with
   |lit o1=>
   cases v2 with
   |lit o2=>
   obtain⟨A,c,rfl,hc⟩:∃A c,u3= .slice A 0 c/\c<=9223372036854775807:=by
    cases f3 with
    | @l _ _ es3 _ hl3 _ _=>
     have:es3=[]:=nZ hl3;subst this;cases v3 with
     |imm0 hc=>exact⟨_,_,rfl,hc⟩
     |imm hs hc hm hI hcell hr=>exact⟨_,_,rfl,hm⟩
   refine⟨⟨Tm.op h[k],Tm.name h[k],Tm.sort h[k],A,c⟩,⟨?_,?_,?_,?_⟩,?_,o0,o1,o2,hc⟩
   ·rw[cN h1];exact c0
   ·rw[cN h1,Nat.add_assoc];exact c1
   ·rw[cN h1,Nat.add_assoc];exact c2
   ·rw[cN h1,Nat.add_assoc];exact c3
   ·rw[List.getElem?_eq_getElem hk];have ha:=hv _ (gM hk);generalize h[k]=z at ha ⊢;obtain⟨o,n,s,ar⟩:=z;have ha:ar=[]:=ha;subst ha;rfl
  refine⟨d,t,cur.size,?_,⟨⟨cur,h1,rfl⟩,by rw[h3,d1,<-hl];omega,λk x hx=>(d2 k x hx).1⟩,λx hx=> ?_⟩
  ·refine List.ext_getElem? λk=> ?_;rw[List.getElem?_map];cases hk:d[k]? with
   | none =>
    have:=List.getElem?_eq_none_iff.1 hk;rw[List.getElem?_eq_none (by omega)];rfl
   |some x=>exact(d2 k x hk).2.1.symm
  ·obtain⟨k,hk,rfl⟩:=List.getElem_of_mem hx;exact(d2 k _ (List.getElem?_eq_getElem hk)).2.2
theorem CE {I:Nat->Prop} {w:World} {b off n cap:Nat} {t:TypeId} {d:List Lf} (hr:Rw w b t n off d) (hok:∀x∈d,Lf.ok x) (hI:I b) (hc:d.length<=cap) (hm:cap<=9223372036854775807):VR I w [] (.imm 4 ((d.map Lf.tm).map gp)) (.slice (some ⟨b,off,none⟩) d.length cap):=by
 have el:((d.map Lf.tm).map gp).length=d.length:=by simp
 have key:=VR.imm (I:=I) (w:=w) (ι:=[]) (s:=4) (b:=b) (off:=off) (c:=cap) (es:=(d.map Lf.tm).map gp) (f:=λk j=>((d[k]?).getD default).enc.getD j undef) (λe he=>by obtain⟨x,_,rfl⟩:=List.mem_map.1 he;rfl) (by rw[el];exact hc) hm hI (λk j hk hj=>by
  have hk':k<d.length:=by omega
  have hx:d[k]? =some d[k]:=List.getElem?_eq_getElem hk';obtain⟨c0,c1,c2,c3⟩:=hr.at_ k _ hx;rw[hx,<-Nat.add_assoc]
  match j,hj with
  |0,_=>exact c0
  |1,_=>exact c1
  |2,_=>exact c2
  |3,_=>exact c3) (λk hk j hj=>by
  have hk':k<d.length:=by omega
  have hx:d[k]? =some d[k]:=List.getElem?_eq_getElem hk';obtain⟨o0,o1,o2,o3⟩:=hok _ (gM hk');have e:((d.map Lf.tm).map gp)[k]=gp (d[k]).tm:=by simp
  simp only[e,hx];have hj':j<(gp (d[k]).tm).length:=by rw[<-e];exact hj
  have hj':j<4:=hj'
  match j,hj' with
  |0,_=>exact .lit o0
  |1,_=>exact .lit o1
  |2,_=>exact .lit o2
  |3,_=>exact .imm0 o3)
 rw[el]at key;exact key
theorem rJ {a:Option Nat} {hp:Abs.ag} (ha:∀i,a=some i->i<hp.length):HpR [a] [Ob.gone] hp where
 len:=rfl
 row:=λid n T xs q=>by
  match id,q with
  |0,q=>simp at q
  |id+1,q=>simp at q
 box:=λid cs q=>by
  match id,q with
  |0,q=>simp at q
  |id+1,q=>simp at q
 map:=λid T kvs q=>by
  match id,q with
  |0,q=>simp at q
  |id+1,q=>simp at q
 inj:=λi j b _ _ l1 _=>by
  obtain⟨x,z1,z2⟩:=l1
  match i,z1 with
  |0,z1=>simp at z1;subst z1;simp at z2
  |i+1,z1=>simp at z1
 lt:=λi b q=>by
  match i,q with
  |0,q=>simp at q;exact ha b q
  |i+1,q=>simp at q
theorem wz {a:Option Nat} {x:Ob} {hp hp':Abs.ag} (hl:hp'.length=hp.length) (hs:∀i,i<hp.length->a≠some i->hp'[i]? =hp[i]?) (hx:x.dead=false):Fr ⟨hp,[a],[x]⟩ [a] [Ob.gone] hp' where
 len:=by show hp.length<=hp'.length;omega
 old:=λid b _ z2 _=>by
  obtain⟨x,x1,x2⟩:=z2
  match id,x1 with
  |0,x1=>simp at x1;subst x1;simp at x2
  |id+1,x1=>simp at x1
 same:=λb hb z=>hs b hb λe=>z 0 (by subst e;rfl) ⟨x,rfl,hx⟩
 rho:=λ_ _ q=>q
 ob:=λid y q=>by
  match id,q with
  |0,q=>exact⟨.gone,rfl,.inl rfl⟩
  |id+1,q=>simp at q
theorem qv (h:List Tm) (hv:∀x∈h,x.args=[]) (hl:h.length<4611686018427387904):CFn Tryz.prog 111 [.one (.o 0)] [.row (.n 1) 0 h] (.one (.l (.n 1) (jm h))) [.gone]:=λρ hp avs hH hA=>by
 have hcal:Abs.callable Tryz.prog 111:=⟨Tryz.f111,Tryz.func111,by kernel_rfl,by kernel_rfl⟩;have hvs:∀x∈jm h,x.args=[]:=λx hx=>hv x (sj.1 hx);obtain⟨hA1,hA2⟩:=hA
 match avs,hA1 with
 | [x0], _ =>
  have k0:=hA2 0 (by simp) (by simp);simp only[List.getElem_cons_zero]at k0;obtain⟨v0,rfl,w0⟩:=k0.one';have H0:([Ob.row (.n 1) 0 h]:List Ob)[0]? =some (.row (.n 1) 0 h):=rfl;obtain⟨y0,rfl⟩:∃y0,ρ=[y0]:=by
   have:=hH.len
   match ρ,this with
   |[y0],_=>exact⟨y0,rfl⟩
  rcases w0.own H0 with⟨a,rfl,p0⟩|⟨rfl,p0⟩
  ·obtain⟨es,r0,f0⟩:=hH.at_ p0 H0;have hla:a<hp.length:=hH.lt _ _ p0;simp at p0;subst p0;refine(Abs.uf         (v:=.imm 4 ((jm   h).map gp   )) hcal r0 λw I ι cs inf hR hI hi hAr=> ?_).mono λr h' ⟨q1,q2⟩=>by
    subst q1 q2;exact⟨[some a],.one (.fl (wa hvs)),rJ λi e=>by cases e;simpa using hla,wz (by simp) (λi _ hne=>sN λe=>hne (by rw[e])) rfl⟩
   obtain⟨hc1,hc2⟩:=hAr;obtain⟨c0,d0,e0⟩:=hc2 0 (by simp);obtain rfl:cs= #[c0]:=by
    rcases cs with⟨l⟩
    match l,hc1 with
    | [x], _ =>
     simp at d0;subst d0;rfl
   simp only[List.getElem_cons_zero]at e0;cases e0 with
   |one e0=>
   by_cases h0:h=[]
   ·subst h0;have hs:∃A c,c0= .slice A 0 c/\c<=9223372036854775807:=by
     cases e0 with
     |own _ _ _ hm=>exact⟨_,_,rfl,hm⟩
     |own0 _ _=>exact⟨_,_,rfl,by omega⟩
    obtain⟨A,c,rfl,hm⟩:=hs;exact(iN A c w).mono λe w' ⟨e1,e2⟩=>⟨_,e1,by subst e2;exact Chg.refl _ _,.imm0 hm⟩
   ·have hn:0<h.length:=List.length_pos_iff.2 h0;obtain⟨d,t,n,hd,hrw,hok⟩:=z8       hv f0 (hR.obj a _ inf r0 hi);have hdl:d.length=h.length:=by rw[<-hd];simp
    have hs:∃c,c0= .slice (some ⟨inf.block,inf.base,none⟩) h.length c/\h.length<=c/\c<=9223372036854775807:=by
     obtain⟨m,hm⟩:∃m,m=List.length (α:=Den.I (Ty.n 1)) h:=⟨_,rfl⟩;have hm':m=h.length:=hm;rw[<-hm]at e0;rw[<-hm'];cases e0 with
     | @own _ _ _ _ c inf' hi' hl' _ hm2=>
      rw[hi]at hi';cases hi';exact⟨c,by rw[Nat.zero_mul,Nat.add_zero],hl',hm2⟩
     |own0 _ _=>omega
    obtain⟨c,rfl,hc,hm⟩:=hs;rw[<-hdl]at hc ⊢;refine(pW d w hrw hc (by omega)).mono λe w' ⟨d',e1,e2,e3,e4,e5⟩=>⟨_,e1,e5,?_⟩;rw[<-hd,<-e2];have hle:d'.length<=d.length:=by
     have:=congrArg List.length e2;rw[List.length_map]at this;have:=Bs (d.map Lf.tm);rw[List.length_map]at this;omega
    exact CE e4 (λx hx=>hok x (e3 x hx)) (.inr rfl) (by omega) hm
  ·have h0:h=[]:=by
    rcases hH.row 0 _ _ _ H0 with⟨a',es,h7,_⟩|⟨_,h7,_⟩
    ·rw[p0]at h7;cases h7
    ·exact h7
   subst h0;simp at p0;subst p0;refine(show Abs.Fn Tryz.prog 111 [.one (.lit (.slice none 0 0))] hp (λr h'=>r= .one (.imm 4 [])/\h'=hp)from⟨hcal,λw I ι cs hR hI hAr=> ?_⟩).mono λr h' ⟨q1,q2⟩=>by
    subst q1 q2;exact⟨[none],.one (.fl (wa hvs)),rJ (λi e=>by cases e),wz rfl (λ_ _ _=>rfl) rfl⟩
   obtain⟨hc1,hc2⟩:=hAr;obtain⟨c0,d0,e0⟩:=hc2 0 (by simp);obtain rfl:cs= #[c0]:=by
    rcases cs with⟨l⟩
    match l,hc1 with
    | [x], _ =>
     simp at d0;subst d0;rfl
   simp only[List.getElem_cons_zero]at e0;cases e0 with
   |one e0=>
   cases e0 with
   |lit _=>
   exact(iN none 0 w).mono λe w' ⟨e1,e2⟩=>⟨_,_,ι,I,_,⟨rfl,rfl⟩,e1,by
    subst e2;exact
    { res := .one (.imm0 (by omega))
      heap:=hR
      imm:=hI
      immlo:=λ_ q=>.inl q
      pre:=Abs.Grows.refl _
      os:=rfl
      tape:=rfl
      output:=rfl
      grown:=Nat.le_refl _
      frame:=λ_ _ _=>rfl
      mine:=λid o inf q1 q2=>.inl ⟨id,o,inf,q1,q2,rfl⟩}⟩
noncomputable def Bb:List Tm->Option (List Tm):=λl=>open Classical in if (∀x∈l,x.args=[])/\l.length<4294967296 then some (jm l)else none
theorem sL :EO (z16.ent Bb):=λR xs H K r hc=>by
 simp only[z16.ent]at hc;split at hc
 ·obtain⟨r,q1,q2⟩:=bind_some hc;unfold Bb   at q1;split at q1
  ·rename_i hl;cases q1;exact⟨_,_,q2,qv _ hl.1 (by omega)⟩
  ·cases q1
 ·cases hc
end Go.Proofs.YtkinkfieackmdaaGreatDoor.Den
namespace Go.Proofs.YtkinkfieackmdaaGreatDoor.Den
open Go.RowKit
open Classical
def upU (t:Tm):List Tm->Nat
 |[]=>0
 |y::ys=>if aQ y t<0 then upU t ys+1 else 0
theorem Ay (t:Tm):∀l:List Tm,upU t l<=l.length
 |[]=>Nat.le_refl _
 | y :: ys => by
  have:=Ay t ys;unfold upU;split<;>simp only[List.length_cons]<;>omega
theorem vc (t:Tm):∀l:List Tm,dL l t=match l[upU t l]? with
  |some y=>if aQ y t=0 then l else l.take (upU t l)++[t]++l.drop (upU t l)
  |none=>l.take (upU t l)++[t]++l.drop (upU t l)
 |[]=>rfl
 | y :: ys => by
  unfold dL upU;by_cases h:aQ y t<0
  ·rw[if_pos h,if_pos h,vc      t ys,List.getElem?_cons_succ];cases ys[upU t ys]? with
   |none=>rfl
   | some z =>
    simp only;split<;>rfl
  ·rw[if_neg h,if_neg h];rfl
abbrev GU :z4i.Gs:={z3a:=cv 4294967296,z4j:=bf 4294967296}
theorem BI {R:Type} (n:Nat) (l:List Tm) (t:Tm) (hl:∀y∈l,y.total<4294967296) (hn:l.length<4294967296) (k0:Int->Option R):∀m (i:Nat),i<=l.length->l.length-i<m->
  z4i.l2 GU n m l t.op t.name t.sort t.args (i:Int) k0=k0 ((i+upU t (l.drop i):Nat):Int):=by
 intro m
 induction m with
 |zero=>intro i _ hm;omega
 | succ m ih =>
  intro i h1 hm;show z4i.b2 GU n l t.op t.name t.sort t.args (i:Int) (λy0=>z4i.l2 GU n m l t.op t.name t.sort t.args y0 k0) k0=_;unfold z4i.b2;by_cases hi:i<l.length
  ·obtain⟨x,x1,x2⟩:=aV     hi;rw[aH     hi,cT,aD     x1,bS,Tm.eta,Tm.eta];show Option.bind (cv   4294967296 x t) _=_;unfold cv;rw[if_pos   (hl x x2),bS,aE       x1];unfold upU;by_cases hc:aQ   x t<0
   ·rw[dT hc,cT,if_pos hc,aO     (by omega)];simp only[];rw[ih (i+1) hi (by omega)]
    congr 1
    omega
   ·rw[dF hc,cF,if_neg hc];rfl
  ·obtain rfl:i=l.length:=by omega
   rw[aq hi,cF,aK];rfl
theorem FF {R:Type} (n:Nat) (l:List Tm) (t:Tm) (hn:l.length<1073741824) {p:Nat} (hp:p<=l.length) (k0:List Tm->Option R):z4i.c6 GU n l (p:Int) t.op t.name t.sort t.args k0=k0 (l.take p++[t]++l.drop p):=by
 unfold z4i.c6;rw[nn (by omega) (by omega) (by omega),bS,cj (by simp;omega),bS,cj (by simp;omega),bS,nn (by omega) (by omega) (by omega),bS,cj (by simp;omega),bS,Tm.eta];simp
noncomputable def gIU:List Tm->Tm->Option (List Tm):=λl t=>if (∀y∈l,y.total<4294967296)/\l.length<1073741824 then some (dL l t)else none
theorem qQ :EO (z4i.ent gIU):=z4i.ok (G:=GU) ⟨z3b _ (Nat.le_refl _),dm _ (Nat.le_refl _),trivial⟩ λl t r h=>by
 unfold gIU at h;split at h
 ·rename_i hs;cases h;obtain⟨hl,hn⟩:=hs;refine⟨List.length (α:=Tm) l+1,?_⟩;unfold z4i.main;have e:=BI      (R:=AT×List Ob) (List.length (α:=Tm) l+1) l t hl (by omega);refine(e _ (List.length (α:=Tm) l+1) 0 (by omega) (by omega)).trans ?_;rw[List.drop_zero,Nat.zero_add,vc     ];have hle:=Ay     t l;have c6:=λk0=>FF    (R:=AT×List Ob) (List.length (α:=Tm) l+1) l t hn hle k0;by_cases hi:upU t l<List.length (α:=Tm) l
  ·obtain⟨x,x1,x2⟩:=aV     (xs:=l) hi;rw[aH     hi,cT,aD     x1,bS,Tm.eta,Tm.eta,x1];show Option.bind (bf    4294967296 x t) _=_;unfold bf;rw[if_pos    (hl x x2),bS];simp only;by_cases hc:aQ   x t=0
   ·rw[dT hc,cT,if_pos hc]
   ·rw[dF hc,cF,if_neg hc];exact c6 _
  ·rw[aq hi,cF,List.getElem?_eq_none (by omega)];exact c6 _
 ·cases h
theorem oB {xs l:List Tm} {x:Tm} (h:x∈xs.foldl dL l):x∈l\/x∈xs:=by
 induction xs generalizing l with
 |nil=>exact .inl h
 | cons y ys ih =>
  rcases ih h with h|h
  ·rcases jP.1       h with rfl|h
   ·exact .inr (by simp)
   ·exact .inl h
  ·exact .inr (by simp[h])
theorem j9 :∀(ys l:List Tm),(ys.foldl dL l).length<=l.length+ys.length
 |[],_=>Nat.le_refl _
 | y :: ys, l => by
  have:=j9 ys (dL l y);have:=lY (t:=y) l;rw[List.foldl_cons,List.length_cons];omega
noncomputable def lm (k:Nat):Tm->List Tm->Option (List Tm):=λt l=>if t.total<k/\(∀y∈l,y.total<4294967296)/\l.length+tsz t<1073741824 then some ((oc t).foldl dL l)else none
abbrev nj :ByteArray->Int->Option Tm:=λn s=>some (Tm.mk (-1) n s [])
theorem wI :EO (z4k.ent nj):=z4k.ok (G:=⟨()⟩) trivial λn s r h=>⟨1,by cases h;rfl⟩
theorem vq {f:Tm->Nat} {xs:List Tm} {i:Nat} {x:Tm} (h:xs[i]? =some x):wS f (xs.drop i)=f x+wS f (xs.drop (i+1)):=by rw[aE h,fj]
theorem lN (t:Tm):(oc t).length<=tsz t:=zO _ t (Nat.lt_succ_self _)
theorem pV {t x:Tm} (h:x∈oc t):x.op= -1/\x.args=[]/\x.total<=t.total:=yT _ t (Nat.lt_succ_self _) x h
theorem AD {R:Type} (n k:Nat) (hk:k<=4294967295) (h0 h03:Int) (h02:ByteArray) (xs:List Tm) (hx:∀x∈xs,x.total<k) (hl:xs.length<4294967296) (k0:List Tm->Option R):∀m (i:Nat) (l:List Tm),(∀y∈l,y.total<4294967296)->l.length+wS tsz (xs.drop i)<1073741824->i<=xs.length->xs.length-i<m->
  z4h.l4 ⟨nj,gIU,lm k⟩ n m h0 h02 h03 xs l (i:Int) k0=k0 (((xs.drop i).flatMap oc).foldl dL l):=by
 intro m
 induction m with
 |zero=>intro i l _ _ _ hm;omega
 | succ m ih =>
  intro i l hy hw h1 hm;show z4h.b4 ⟨nj,gIU,lm k⟩ n h0 h02 h03 xs l (i:Int) (λy0 y1=>z4h.l4 ⟨nj,gIU,lm k⟩ n m h0 h02 h03 xs y0 y1 k0) k0=_;unfold z4h.b4;by_cases hi:i<xs.length
  ·obtain⟨x,x1,x2⟩:=aV     hi;rw[vq      x1]at hw;rw[aH     hi,cT,aD     x1,bS,Tm.eta];show Option.bind (lm   k x l) _=_;have e:lm   k x l=some ((oc x).foldl dL   l):=if_pos ⟨hx x x2,hy,by omega⟩;rw[e,bS,aO     (by omega)];simp only[];have:=j9        (oc x) l;have:=lN      x;rw[ih (i+1) _ (λy hm=> ?_) (by omega) hi (by omega),aE       x1,List.flatMap_cons,List.foldl_append];rcases oB        hm with hm|hm
   ·exact hy y hm
   ·have:=(pV hm).2.2;have:=hx x x2;omega
  ·obtain rfl:i=xs.length:=by omega
   rw[aq hi,cF,aK];rfl
theorem jq :∀k,k<=4294967296->EO (z4h.ent (lm k))
 | 0, _ => fun R xs H K r h => by
  simp only[z4h.ent]at h;split at h
  ·simp[lm]at h
  ·cases h
 | k + 1, hk => z4h.ok         (G := ⟨nj   , gIU, lm   k⟩) ⟨wI       , qQ         , jq           k (by omega), trivial⟩ fun t l r h => by
  unfold lm at h;split at h
  ·rename_i hs;obtain⟨ht,hy,hl⟩:=hs;cases h;have htot:=az         t;have hlen:=bm      t.args;refine⟨t.args.length+1,?_⟩;unfold z4h.main;rw[vr   ];by_cases ho:t.op= -1
   ·rw[dT ho,cT,if_pos ho];show Option.bind (nj t.name t.sort) _=_;rw[show nj t.name t.sort=some (vT t)from rfl,bS,Tm.eta];show Option.bind (gIU l (vT t)) _=_;have e:gIU l (vT t)=some (dL l (vT t)):=if_pos ⟨hy,by have hl:List.length (α:=Tm) l+tsz t<1073741824:=hl;omega⟩;rw[e];rfl
   ·rw[dF ho,cF,if_neg ho];rw[gG]at hl;have hl:List.length (α:=Tm) l+(1+wS tsz t.args)<1073741824:=hl;refine(AD (t.args.length+1) k (by omega) t.op t.sort t.name t.args (λx hx=>by have:=ac hx;omega) (by omega) _ (t.args.length+1) 0 l hy (by rw[List.drop_zero];omega) (by omega) (by omega)).trans ?_;rw[List.drop_zero]
  ·cases h
noncomputable def gVs:Tm->Option (List Tm):=λt=>if t.total<1073741823 then some (bk t)else none
theorem qm (t:Tm):tsz t<=t.total+1:=uX _ t (Nat.lt_succ_self _)
theorem z3v :EO (z3u.ent gVs):=z3u.ok (G:=⟨lm 4294967296⟩) ⟨jq _ (Nat.le_refl _),trivial⟩ λt r h=>by
 unfold gVs at h;split at h
 ·rename_i hs;cases h;refine⟨1,?_⟩;unfold z3u.main;rw[Tm.eta];show Option.bind (lm 4294967296 t []) _=_;have:=qm t;have e:lm 4294967296 t []=some ((oc t).foldl dL []):=if_pos ⟨by omega,λy hy=>by simp at hy,by simp;omega⟩;rw[e];rfl
 ·cases h
noncomputable def gV1 (k:Nat):Tm->List Tm->Option (List Tm):=λt l=>if t.total<k/\l.length+tsz t<1073741824 then some (l++oc t)else none
theorem Ch {R:Type} (n k:Nat) (xs:List Tm) (hx:∀x∈xs,x.total<k) (hl:xs.length<4294967296) (k0:List Tm->Option R):∀m (i:Nat) (l:List Tm),l.length+wS tsz (xs.drop i)<1073741824->i<=xs.length->xs.length-i<m->
  z0u.l4 ⟨gV1 k⟩ n m xs (xs.length:Int) (i:Int) l k0=k0 (l++(xs.drop i).flatMap oc):=by
 intro m
 induction m with
 |zero=>intro i l _ _ hm;omega
 | succ m ih =>
  intro i l hw h1 hm;show z0u.b4 ⟨gV1 k⟩ n xs (xs.length:Int) (i:Int) l (λy0 y1=>z0u.l4 ⟨gV1 k⟩ n m xs (xs.length:Int) y0 y1 k0) k0=_;unfold z0u.b4;by_cases hi:i<xs.length
  ·obtain⟨x,x1,x2⟩:=aV hi;rw[vq x1]at hw;rw[aH hi,cT,aD x1,bS,Tm.eta];show Option.bind (gV1 k x l) _=_;have e:gV1 k x l=some (l++oc x):=if_pos ⟨hx x x2,by omega⟩;have:=lN x;rw[e,bS,aO (by omega)];simp only[];rw[ih (i+1) _ (by rw[List.length_append];omega) hi (by omega),aE x1,List.flatMap_cons,List.append_assoc]
  ·obtain rfl:i=xs.length:=by omega
   rw[aq hi,cF,aK,List.flatMap_nil,List.append_nil]
theorem ff :∀k,k<=4294967296->EO (z0u.ent (gV1 k))
 | 0, _ => fun R xs H K r h => by
  simp only[z0u.ent]at h;split at h
  ·simp[gV1]at h
  ·cases h
 | k + 1, hk => z0u.ok              (G := ⟨gV1 k⟩) ⟨ff                k (by omega), trivial⟩ fun t l r h => by
  unfold gV1 at h;split at h
  ·rename_i hs;obtain⟨ht,hl⟩:=hs;have hl:List.length (α:=Tm) l+tsz t<1073741824:=hl;cases h;have htot:=az         t;have hlen:=bm      t.args;refine⟨t.args.length+1,?_⟩;unfold z0u.main;rw[vr   ];by_cases ho:t.op= -1
   ·rw[dT ho,cT,if_pos ho];unfold z0u.d2;have e1:ix (l++[Tm.mk 0 ByteArray.empty 0 []]) (List.length (α:=Tm) l:Int)=some (Tm.mk 0 ByteArray.empty 0 []):=aD (by rw[aR (Nat.le_refl _)];simp);rw[cj (by simp;omega),bS,e1,bS,Int.toNat_natCast,List.set_append_right _ _ (Nat.le_refl _),Nat.sub_self];rfl
   ·rw[dF ho,cF,if_neg ho];rw[gG]at hl;refine(Ch (t.args.length+1) k t.args (λx hx=>by have:=ac hx;omega) (by omega) _ (t.args.length+1) 0 l (by rw[List.drop_zero];omega) (by omega) (by omega)).trans ?_;rw[List.drop_zero]
  ·cases h
theorem z0v :EO (z0t.ent gVs):=z0t.ok (G:=⟨gV1 4294967296,Bb⟩) ⟨ff _ (Nat.le_refl _),sL,trivial⟩ λt r h=>by
 unfold gVs at h;split at h
 ·rename_i hs;cases h;refine⟨1,?_⟩;unfold z0t.main;rw[Tm.eta];show Option.bind (gV1 4294967296 t []) _=_;have:=qm t;have:=lN t;have e:gV1 4294967296 t []=some ([]++oc t):=if_pos ⟨by omega,by simp;omega⟩;rw[e,bS,List.nil_append];show Option.bind (Bb (oc t)) _=_;have e2:Bb (oc t)=some (bk t):=if_pos ⟨λx hx=>(pV hx).2.1,by omega⟩;rw[e2];rfl
 ·cases h
end Go.Proofs.YtkinkfieackmdaaGreatDoor.Den
