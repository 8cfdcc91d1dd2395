/-
  Texts that the claim rests on, merged: ShelfS, LfS.
-/
import Derived.Shelf.SlSortCmp.NoneTotal
import Derived.Test.YtkinkfieackmdaaGreatProg
import Derived.Test.YtkinkfieackmdaaGreatZRowStr29

namespace Go.Proofs
open Go.Shelf
def Tryz.sortT_ren :Go.Shelf.Ren:=⟨λ|6=>155|15=>179|14=>178|28=>210|29=>211|20=>202|21=>203|22=>204|23=>205|24=>206|25=>207|26=>208|27=>209|46=>219|47=>220|48=>221|49=>222|50=>223|57=>227|n=>n,λ|22=>51|24=>53|25=>166|3=>3|39=>231|0=>0|53=>261|55=>263|4=>4|46=>254|45=>253|50=>258|5=>5|9=>9|66=>268|70=>272|76=>278|77=>279|n=>n,λ|n=>n⟩
theorem Tryz.sortT :Go.Proofs.SlLaysF0.n6 Tryz.prog Tryz.sortT_ren:={
 mixed:=by kernel_rfl
 f6:=⟨Tryz.f155.name,by decide,Tryz.func155.trans (congrArg some (by kernel_rfl))⟩
 f14:=⟨Tryz.f178.name,by decide,Tryz.func178.trans (congrArg some (by kernel_rfl))⟩
 f15:=Tryz.func179.trans (congrArg some (by kernel_rfl))
 f20:=⟨Tryz.f202.name,by decide,Tryz.func202.trans (congrArg some (by kernel_rfl))⟩
 f21:=⟨Tryz.f203.name,by decide,Tryz.func203.trans (congrArg some (by kernel_rfl))⟩
 f22:=⟨Tryz.f204.name,by decide,Tryz.func204.trans (congrArg some (by kernel_rfl))⟩
 f23:=⟨Tryz.f205.name,by decide,Tryz.func205.trans (congrArg some (by kernel_rfl))⟩
 f24:=⟨Tryz.f206.name,by decide,Tryz.func206.trans (congrArg some (by kernel_rfl))⟩
 f25:=⟨Tryz.f207.name,by decide,Tryz.func207.trans (congrArg some (by kernel_rfl))⟩
 f26:=⟨Tryz.f208.name,by decide,Tryz.func208.trans (congrArg some (by kernel_rfl))⟩
 f27:=⟨Tryz.f209.name,by decide,Tryz.func209.trans (congrArg some (by kernel_rfl))⟩
 f28:=Tryz.func210.trans (congrArg some (by kernel_rfl))
 f29:=Tryz.func211.trans (congrArg some (by kernel_rfl))
 f46:=⟨Tryz.f219.name,by decide,Tryz.func219.trans (congrArg some (by kernel_rfl))⟩
 f47:=Tryz.func220.trans (congrArg some (by kernel_rfl))
 f48:=Tryz.func221.trans (congrArg some (by kernel_rfl))
 f49:=⟨Tryz.f222.name,by decide,Tryz.func222.trans (congrArg some (by kernel_rfl))⟩
 f50:=⟨Tryz.f223.name,by decide,Tryz.func223.trans (congrArg some (by kernel_rfl))⟩
 f57:=⟨Tryz.f227.name,by decide,Tryz.func227.trans (congrArg some (by kernel_rfl))⟩
 t0:=Tryz.underlying0
 a0:=Tryz.isAgg0
 z0:=Tryz.sizeOf0
 v0:=Tryz.zeroValue0
 t3:=Tryz.underlying3
 a3:=Tryz.isAgg3
 z3:=Tryz.sizeOf3
 v3:=Tryz.zeroValue3
 t4:=Tryz.underlying4
 a4:=Tryz.isAgg4
 z4:=Tryz.sizeOf4
 v4:=Tryz.zeroValue4
 t5:=Tryz.underlying5
 a5:=Tryz.isAgg5
 z5:=Tryz.sizeOf5
 v5:=Tryz.zeroValue5
 t9:=Tryz.underlying9
 a9:=Tryz.isAgg9
 z9:=Tryz.sizeOf9
 v9:=Tryz.zeroValue9
 t22:=Tryz.underlying51
 a22:=Tryz.isAgg51
 z22:=Tryz.sizeOf51
 v22:=Tryz.zeroValue51
 t25:=Tryz.underlying166
 a25:=Tryz.isAgg166
 z25:=Tryz.sizeOf166
 v25:=Tryz.zeroValue166
 t39:=Tryz.underlying231
 a39:=Tryz.isAgg231
 z39:=Tryz.sizeOf231
 v39:=Tryz.zeroValue231
 t45:=Tryz.underlying253
 a45:=Tryz.isAgg253
 z45:=Tryz.sizeOf253
 v45:=Tryz.zeroValue253
 t46:=Tryz.underlying254
 a46:=Tryz.isAgg254
 z46:=Tryz.sizeOf254
 v46:=Tryz.zeroValue254
 t50:=Tryz.underlying258
 a50:=Tryz.isAgg258
 z50:=Tryz.sizeOf258
 v50:=Tryz.zeroValue258
 t53:=Tryz.underlying261
 a53:=Tryz.isAgg261
 z53:=Tryz.sizeOf261
 v53:=Tryz.zeroValue261
 t55:=Tryz.underlying263
 a55:=Tryz.isAgg263
 z55:=Tryz.sizeOf263
 v55:=Tryz.zeroValue263
 t66:=Tryz.underlying268
 a66:=Tryz.isAgg268
 z66:=Tryz.sizeOf268
 v66:=Tryz.zeroValue268
 t70:=Tryz.underlying272
 a70:=Tryz.isAgg272
 z70:=Tryz.sizeOf272
 v70:=Tryz.zeroValue272
 t76:=Tryz.underlying278
 a76:=Tryz.isAgg278
 z76:=Tryz.sizeOf278
 v76:=Tryz.zeroValue278
 t77:=Tryz.underlying279
 a77:=Tryz.isAgg279
 z77:=Tryz.sizeOf279
 v77:=Tryz.zeroValue279}
open Go.RowKit Go.Lib Go.Sort in
theorem Tryz.slices_SortFunc {α:Type} [Inhabited α] (enc:α->List Value) (hk:∀x,(enc x).length=4) (h1:∀x,∀v∈enc x,v.oneCell'=true) (cf:α->α->Int) (hO:SWO (ltOf cf)) (g:Nat) (cb:Array Value) (blk off cap:Nat) (d:Array α) (w:World)
  (eg:∀args w,(callFunc g args).run Tryz.prog w= .ok (.enter g args) w) (hcmp:CmpLays Tryz.prog g cb enc 4 cf blk off d.size w) (hH:HoldsK enc 4 w blk off d) (hblk:blk<w.heap.size) (hsz:d.size<4611686018427387904):
  Calls Tryz.prog 155 #[.slice (some ⟨blk,off,none⟩) d.size cap,.func (.func g) #[] cb] w λe w'=>
   e= .returned (.tuple #[])/\∃d' n os,PermIn 0 d.size d d'/\SortedIn (ltOf cf) 0 d.size d'/\w'=sortWorldK enc 4 w blk off n d' os:=AnyQ.slices_SortFunc Tryz.sortT 4 Tryz.isAgg53 Tryz.sizeOf53 enc hk h1 cf hO g cb blk off cap d w eg hcmp hH hblk hsz
open Go.RowKit Go.Lib in
theorem Tryz.slices_SortFunc_none (p:Option Addr) (cap:Nat) (fv:Value) (w:World):
  Calls Tryz.prog 155 #[.slice p 0 cap,fv] w λe w'=>e= .returned (.tuple #[])/\w'=w:=AnyF.slices_SortFunc_none Tryz.sortT p cap fv w
end Go.Proofs
namespace Go.Proofs.YtkinkfieackmdaaGreat
open Go.RowKit Go.Sort
theorem enc_len (x:Lf):x.enc.length=4:=rfl
theorem holdsK_of {w:World} {blk n off:Nat} {t:TypeId} {d:List Lf} (h:Rw w blk t n off d):HoldsK Lf.enc 4 w blk off d.toArray:=by
 intro j hj
 have hj':j<d.length*4:=by simpa using hj
 have hfit:=h.fit
 refine⟨?_,(h.some (by omega)).2⟩
 have hk:j / 4<d.length:=by omega
 have hx:d[j / 4]? =some d[j / 4]:=List.getElem?_eq_getElem hk
 obtain⟨c0,c1,c2,c3⟩:=h.at_ _ _ hx
 rw[get_flatK _ _ _ _ (by simpa using hj')]
 have e:d.toArray[j / 4]! =d[j / 4]:=by simp[hk]
 rw[e]
 have h4:j%4=0\/j%4=1\/j%4=2\/j%4=3:=by omega
 rcases h4 with h4|h4|h4|h4
 ·rw[h4,show off+j=off+j / 4*4 by omega];exact c0
 ·rw[h4,show off+j=off+j / 4*4+1 by omega];exact c1
 ·rw[h4,show off+j=off+j / 4*4+2 by omega];exact c2
 ·rw[h4,show off+j=off+j / 4*4+3 by omega];exact c3
theorem at4_of {w:World} {blk off:Nat} {d:Array Lf} (h:HoldsK Lf.enc 4 w blk off d) {k:Nat} (hk:k<d.size):At4 w blk (off+k*4) d[k]! :=by
 have g:∀j,j<4->w.cell? ⟨blk,off+k*4+j,none⟩=some ((d[k]!).enc[j]!):=λj hj=>by
  have q:=(h (k*4+j) (by simp;omega)).1
  rw[get_flatK _ _ _ _ (by omega),show (k*4+j) / 4=k by omega,show (k*4+j)%4=j by omega]at q
  rw[Nat.add_assoc]
  exact q
 exact⟨g 0 (by omega),g 1 (by omega),g 2 (by omega),g 3 (by omega)⟩
def cfL (x y:Lf):Int:=Den.cmpT x.tm y.tm
theorem swo_cfL :SWO (ltOf cfL) where
 irrefl x:=by
  unfold ltOf cfL
  rw[Den.z09];rfl
 trans x y z h1 h2:=by
  unfold ltOf cfL at*
  exact dT (Den.z07 (of_decide_eq_true h1) (Int.le_of_lt (of_decide_eq_true h2)))
 ntrans x y z h1 h2:=by
  unfold ltOf cfL at*
  have a:=of_decide_eq_false h1
  have b:=of_decide_eq_false h2
  refine dF λc=> ?_
  have n1:=Den.z08 x.tm y.tm
  have n2:=Den.z08 y.tm z.tm
  have n3:=Den.z08 x.tm z.tm
  have:=Den.z06 (a:=z.tm) (b:=y.tm) (c:=x.tm) (by omega) (by omega)
  omega
theorem sort_run {blk n off cap:Nat} {t:TypeId} (d:List Lf) (w:World) (h:Rw w blk t n off d) (hlen:d.length<4611686018427387904):
  Calls Tryz.prog 155 #[.slice (some ⟨blk,off,none⟩) d.length cap,.func (.func 120) #[] #[]] w λe w'=>e= .returned (.tuple #[])/\∃d':List Lf,d'.Perm d/\d'.Pairwise (λa b=>Den.cmpT a.tm b.tm<=0)/\Rw w' blk t n off d'/\Chg blk w w':=by
 have eg:∀args w,(callFunc 120 args).run Tryz.prog w= .ok (.enter 120 args) w:=enters_of Tryz.func120 (by kernel_rfl) rfl
 have hH:=holdsK_of h
 have q:=Tryz.slices_SortFunc Lf.enc enc_len (λx v hv=>by
  simp[Lf.enc]at hv
  rcases hv with rfl|rfl|rfl|rfl<;>rfl) cfL swo_cfL 120 #[] blk off cap d.toArray w eg (λm os dk _ x y=>cmpLf_x x y _) hH h.lt (by simpa using hlen)
 refine q.mono λe w' ⟨he,d',m,os,hp,hs,hw⟩=>⟨he,d'.toList,?_,?_,?_,?_⟩
 ·have:=hp.2.2
  have e1:d'.extract 0 d.toArray.size=d':=by rw[<-hp.1];simp
  rw[e1]at this
  simpa using this
 ·rw[List.pairwise_iff_getElem]
  intro i j hi hj hij
  have hi':i<d'.size:=by simpa using hi
  have hj':j<d'.size:=by simpa using hj
  have:=hs i j (Nat.zero_le _) hij (by rw[<-hp.1];exact hj')
  unfold ltOf cfL at this
  have:=of_decide_eq_false this
  rw[getElem!_pos d' j hj',getElem!_pos d' i hi']at this
  have e:=Den.z08 (d'[j]).tm (d'[i]).tm
  simp only[Array.getElem_toList]
  omega
 ·have hH2:HoldsK Lf.enc 4 w' blk off d':=by rw[hw];exact holdsK_sortWorldK_c Lf.enc 4 w blk off d.toArray d' m os hH h.lt hp.1
  obtain⟨cur,h1,h2⟩:=h.heap
  refine⟨?_,?_,λk x hx=> ?_⟩
  ·refine⟨putCells id off (flatK Lf.enc 4 d') cur,?_,by simp[putCells,h2]⟩
   rw[hw]
   have hlt:=h.lt
   show ((w.heap.modify blk (onCells (putCells id off (flatK Lf.enc 4 d'))))++os)[blk]? =_
   rw[Array.getElem?_append_left (by simpa using hlt),Array.getElem?_modify,if_pos rfl,h1]
   rfl
  ·have:=h.fit
   have e:=hp.1
   simp at e
   rw[Array.length_toList,e];exact this
  ·have hk:k<d'.size:=by have:=(gI.1 hx).1;simpa using this
   have e:d'[k]! =x:=by
    rw[getElem!_pos d' k hk]
    have:=(gI.1 hx).2
    simpa using this
   rw[<-e]
   exact at4_of hH2 hk
 ·rw[hw]
  refine⟨rfl,rfl,rfl,?_,λb hb hne=> ?_⟩
  ·show w.heap.size<=((w.heap.modify blk _)++os).size
   simp
  ·show ((w.heap.modify blk (onCells (putCells id off (flatK Lf.enc 4 d'))))++os)[b]? =_
   rw[Array.getElem?_append_left (by simpa using hb),Array.getElem?_modify,if_neg (λe=>hne e.symm)]
theorem cmL_mem {x:Lf}:∀{xs:List Lf} {p:Lf},x∈cmL p xs->x∈xs
 |[],_,h=>by cases h
 | y :: ys, p, h => by
  unfold cmL at h
  split at h
  ·exact List.mem_cons_of_mem _ (cmL_mem h)
  ·rcases List.mem_cons.1 h with rfl|h
   ·exact List.mem_cons_self
   ·exact List.mem_cons_of_mem _ (cmL_mem h)
theorem cmLf_mem {x:Lf} {d:List Lf} (h:x∈cmLf d):x∈d:=by
 cases d with
 |nil=>cases h
 | cons y ys =>
  rcases List.mem_cons.1 h with rfl|h
  ·exact List.mem_cons_self
  ·exact List.mem_cons_of_mem _ (cmL_mem h)
set_option maxHeartbeats 1000000 in
theorem compact_small (A:Option Addr) (n cap:Nat) (f:Value) (w:World) (hn:n<2):Calls Tryz.prog 156 #[.slice A n cap,f] w λe w'=>e= .returned (.slice A n cap)/\w'=w:=by
 have h1:(n:Int)<2:=by omega
 go_enter Tryz.func156,Tryz.ntmps156
 go_wp2_with fail
 go_ret
 exact⟨rfl,rfl⟩
set_option maxHeartbeats 1000000 in
theorem distinct_none (A:Option Addr) (cap:Nat) (w:World):Calls Tryz.prog 119 #[.slice A 0 cap] w λe w'=>e= .returned (.slice A 0 cap)/\w'=w:=by
 go_enter Tryz.func119,Tryz.ntmps119
 go_wp2_with (first|(go_at_call 155;refine(Tryz.slices_SortFunc_none _ _ _ _).mono ?_;rintro e w' ⟨rfl,rfl⟩)|(go_at_call 156;refine(compact_small _ _ _ _ _ (by omega)).mono ?_;rintro e w' ⟨rfl,rfl⟩))
 go_ret
 exact⟨rfl,rfl⟩
set_option maxHeartbeats 1000000 in
theorem distinct_run {blk n off cap:Nat} {t:TypeId} (d:List Lf) (w:World) (h:Rw w blk t n off d) (hcap:d.length<=cap) (hlen:d.length<4611686018427387904):
  Calls Tryz.prog 119 #[.slice (some ⟨blk,off,none⟩) d.length cap] w λe w'=>∃d':List Lf,e= .returned (.slice (some ⟨blk,off,none⟩) d'.length cap)/\d'.map Lf.tm=Den.setT (d.map Lf.tm)/\(∀x∈d',x∈d)/\Rw w' blk t n off d'/\Chg blk w w':=by
 have hs:=sort_run (cap:=cap) d w h hlen
 have hc:∀(d1:List Lf) (w1:World),d1.length=d.length->Rw w1 blk t n off d1->Calls Tryz.prog 156 #[.slice (some ⟨blk,off,none⟩) d.length cap,.func (.func 71) #[] #[]] w1 λe w'=>e= .returned (.slice (some ⟨blk,off,none⟩) (cmLf d1).length cap)/\Rw w' blk t n off (cmLf d1)/\Chg blk w1 w':=λd1 w1 hl hr=>by
  rw[<-hl]at hcap hlen ⊢
  by_cases h2:d1.length<2
  ·have e:cmLf d1=d1:=by
    match d1,h2 with
    |[],_=>rfl
    |[x],_=>rfl
    |x::y::r,h=>exact absurd h (by simp)
   rw[e]
   exact(compact_small _ _ _ _ w1 h2).mono λ_ _ ⟨e1,e2⟩=>by subst e2;exact⟨e1,hr,Chg.refl _ _⟩
  ·exact compact_run d1 w1 hr hcap (by omega) (by omega)
 go_enter Tryz.func119,Tryz.ntmps119
 go_wp2_with (first|(go_at_call 155;refine hs.mono ?_;rintro e w1 ⟨rfl,d1,hp,hso,hr,hch⟩)|(go_at_call 156;refine(hc d1 w1 hp.length_eq hr).mono ?_;rintro e w2 ⟨rfl,hr2,hch2⟩))
 go_ret
 refine⟨_,rfl,?_,λx hx=>hp.mem_iff.1 (cmLf_mem hx),hr2,hch.trans hch2⟩
 rw[cmLf_map]
 refine Den.cmpct_setT ?_ λx=> ?_
 ·rw[List.pairwise_map]
  exact hso
 ·exact(hp.map Lf.tm).mem_iff
end Go.Proofs.YtkinkfieackmdaaGreat
