/- merged -/
import Derived.Shelf.SlSortCmp.NoneTotal
import Derived.Test.YtkegnipofloejaaGreatDoorZRowMT11

namespace Go.Proofs
open Go.Shelf
def Tryz.sortT_ren :Go.Shelf.Ren:=⟨λ|6=>124|15=>150|14=>149|28=>166|29=>167|20=>158|21=>159|22=>160|23=>161|24=>162|25=>163|26=>164|27=>165|46=>170|47=>171|48=>172|49=>173|50=>174|57=>176|n=>n,λ|22=>53|24=>55|25=>102|3=>3|39=>148|0=>0|53=>172|55=>196|4=>4|46=>188|45=>187|50=>192|5=>5|9=>9|66=>202|70=>206|76=>208|77=>209|n=>n,λ|n=>n⟩
theorem Tryz.sortT :Go.Proofs.SlLaysF0.n6 Tryz.prog Tryz.sortT_ren:={
 mixed:=by kernel_rfl
 f6:=⟨Tryz.f124.name,by decide,Tryz.func124.trans (congrArg some (by kernel_rfl))⟩
 f14:=⟨Tryz.f149.name,by decide,Tryz.func149.trans (congrArg some (by kernel_rfl))⟩
 f15:=Tryz.func150.trans (congrArg some (by kernel_rfl))
 f20:=⟨Tryz.f158.name,by decide,Tryz.func158.trans (congrArg some (by kernel_rfl))⟩
 f21:=⟨Tryz.f159.name,by decide,Tryz.func159.trans (congrArg some (by kernel_rfl))⟩
 f22:=⟨Tryz.f160.name,by decide,Tryz.func160.trans (congrArg some (by kernel_rfl))⟩
 f23:=⟨Tryz.f161.name,by decide,Tryz.func161.trans (congrArg some (by kernel_rfl))⟩
 f24:=⟨Tryz.f162.name,by decide,Tryz.func162.trans (congrArg some (by kernel_rfl))⟩
 f25:=⟨Tryz.f163.name,by decide,Tryz.func163.trans (congrArg some (by kernel_rfl))⟩
 f26:=⟨Tryz.f164.name,by decide,Tryz.func164.trans (congrArg some (by kernel_rfl))⟩
 f27:=⟨Tryz.f165.name,by decide,Tryz.func165.trans (congrArg some (by kernel_rfl))⟩
 f28:=Tryz.func166.trans (congrArg some (by kernel_rfl))
 f29:=Tryz.func167.trans (congrArg some (by kernel_rfl))
 f46:=⟨Tryz.f170.name,by decide,Tryz.func170.trans (congrArg some (by kernel_rfl))⟩
 f47:=Tryz.func171.trans (congrArg some (by kernel_rfl))
 f48:=Tryz.func172.trans (congrArg some (by kernel_rfl))
 f49:=⟨Tryz.f173.name,by decide,Tryz.func173.trans (congrArg some (by kernel_rfl))⟩
 f50:=⟨Tryz.f174.name,by decide,Tryz.func174.trans (congrArg some (by kernel_rfl))⟩
 f57:=⟨Tryz.f176.name,by decide,Tryz.func176.trans (congrArg some (by kernel_rfl))⟩
 t0:=Tryz.underlying0
 a0:=Tryz.isAgg0
 z0:=Tryz.sizeOf0
 v0:=Tryz.zeroValue0
 t3:=Tryz.underlying3
 a3:=Tryz.isAgg3
 z3:=Tryz.sizeOf3
 v3:=Tryz.zeroValue3
 t4:=Tryz.underlying4
 a4:=Tryz.isAgg4
 z4:=Tryz.sizeOf4
 v4:=Tryz.zeroValue4
 t5:=Tryz.underlying5
 a5:=Tryz.isAgg5
 z5:=Tryz.sizeOf5
 v5:=Tryz.zeroValue5
 t9:=Tryz.underlying9
 a9:=Tryz.isAgg9
 z9:=Tryz.sizeOf9
 v9:=Tryz.zeroValue9
 t22:=Tryz.underlying53
 a22:=Tryz.isAgg53
 z22:=Tryz.sizeOf53
 v22:=Tryz.zeroValue53
 t25:=Tryz.underlying102
 a25:=Tryz.isAgg102
 z25:=Tryz.sizeOf102
 v25:=Tryz.zeroValue102
 t39:=Tryz.underlying148
 a39:=Tryz.isAgg148
 z39:=Tryz.sizeOf148
 v39:=Tryz.zeroValue148
 t45:=Tryz.underlying187
 a45:=Tryz.isAgg187
 z45:=Tryz.sizeOf187
 v45:=Tryz.zeroValue187
 t46:=Tryz.underlying188
 a46:=Tryz.isAgg188
 z46:=Tryz.sizeOf188
 v46:=Tryz.zeroValue188
 t50:=Tryz.underlying192
 a50:=Tryz.isAgg192
 z50:=Tryz.sizeOf192
 v50:=Tryz.zeroValue192
 t53:=Tryz.underlying172
 a53:=Tryz.isAgg172
 z53:=Tryz.sizeOf172
 v53:=Tryz.zeroValue172
 t55:=Tryz.underlying196
 a55:=Tryz.isAgg196
 z55:=Tryz.sizeOf196
 v55:=Tryz.zeroValue196
 t66:=Tryz.underlying202
 a66:=Tryz.isAgg202
 z66:=Tryz.sizeOf202
 v66:=Tryz.zeroValue202
 t70:=Tryz.underlying206
 a70:=Tryz.isAgg206
 z70:=Tryz.sizeOf206
 v70:=Tryz.zeroValue206
 t76:=Tryz.underlying208
 a76:=Tryz.isAgg208
 z76:=Tryz.sizeOf208
 v76:=Tryz.zeroValue208
 t77:=Tryz.underlying209
 a77:=Tryz.isAgg209
 z77:=Tryz.sizeOf209
 v77:=Tryz.zeroValue209}
open Go.RowKit Go.Lib Go.Sort in
theorem Tryz.slices_SortFunc{α:Type}[Inhabited α](enc:α->List Value)(hk:∀x,(enc x).length=4)(h1:∀x,∀v∈enc x,v.oneCell'=true)(cf:α->α->Int)(hO:SWO (ltOf cf))(g:Nat)(cb:Array Value)(blk off cap:Nat)(d:Array α)(w:World)
  (eg:∀ae w,(callFunc g ae).run Tryz.prog w= .ok (.enter g ae) w) (hcmp:CmpLays Tryz.prog g cb enc 4 cf blk off d.size w) (hH:HoldsK enc 4 w blk off d) (hblk:blk<w.heap.size) (hsz:d.size<4611686018427387904):
  Calls Tryz.prog 124 #[.slice (some ⟨blk,off,none⟩) d.size cap,.func (.func g) #[] cb] w λe w'=>
   e= .returned (.tuple #[])/\∃d' n os,PermIn 0 d.size d d'/\SortedIn (ltOf cf) 0 d.size d'/\w'=sortWorldK enc 4 w blk off n d' os:=AnyQ.slices_SortFunc Tryz.sortT 4 Tryz.isAgg55 Tryz.sizeOf55 enc hk h1 cf hO g cb blk off cap d w eg hcmp hH hblk hsz
open Go.RowKit Go.Lib in
theorem Tryz.slices_SortFunc_none(p:Option Addr)(cap:Nat)(fv:Value)(w:World):
  Calls Tryz.prog 124 #[.slice p 0 cap,fv] w λe w'=>e= .returned (.tuple #[])/\w'=w:=AnyF.slices_SortFunc_none Tryz.sortT p cap fv w
end Go.Proofs
namespace Go.Proofs.YtkegnipofloejaaGreatDoor
open Go.RowKit Go.Sort
theorem KT(x:Lf):x.enc.length=4:=rfl
section
variable {w:World}{n off:Nat}{t:TypeId}{x:Lf}
theorem C0{blk:Nat}{d:Td Lf}(h:Rw w blk t n off d):HoldsK Lf.enc 4 w blk off d.toArray:=by
 intro j A;have v:j<d.length*4:=by simpa using A
 have y:=h.fit;refine⟨?_,(h.some A0).2⟩;have hk:j / 4<d.length:=A0
 have B:d[j / 4]? =some d[j / 4]:=O0 hk;obtain⟨c0,c1,c2,c3⟩:=h.at_ _ _ B;rw[get_flatK _ _ _ _ R6];have e:d.toArray[j / 4]! =d[j / 4]:=by simp[hk]
 rw[e];have h4:j%4=0\/j%4=1\/j%4=2\/j%4=3:=A0
 rcases h4 with h4|h4|h4|h4
 .rw[h4,(A0:off+j=off+j / 4*4)];exact c0
 .rw[h4,(A0:off+j=off+j / 4*4+1)];exact c1
 .rw[h4,(A0:off+j=off+j / 4*4+2)];exact c2
 .rw[h4,(A0:off+j=off+j / 4*4+3)];exact c3
theorem MD{blk:Nat}{d:Array Lf}(h:HoldsK Lf.enc 4 w blk off d){k:Nat}(hk:k<d.size):At4 w blk (off+k*4) d[k]! :=by
 have g:∀j,j<4->w.cell? ⟨blk,off+k*4+j,none⟩=some ((d[k]!).enc[j]!):=λj t=>by
  have q:=(h (k*4+j) A4).1;rw[get_flatK _ _ _ _ A0,(A0:(k*4+j) / 4=k),(A0:(k*4+j)%4=j)]at q;rw[Pk];exact q
 exact⟨g 0 A0,g 1 A0,g 2 A0,g 3 A0⟩
def cfL(x y:Lf):Int:=Den.bR x.tm y.tm
theorem KW:SWO (ltOf cfL) where
 irrefl x:=by
  unfold ltOf cfL;rw[Den.z09];rfl
 trans x y z h1 h2:=by
  unfold ltOf cfL at*;exact dT (Den.z07 (ON h1) (Qa (ON h2)))
 ntrans x y z h1 h2:=by
  unfold ltOf cfL at*;have a:=of_decide_eq_false h1;have b:=of_decide_eq_false h2;refine dF λc=> ?_;have d:=Den.z08 x.tm y.tm;have h:=Den.z08 y.tm z.tm;have j:=Den.z08 x.tm z.tm;have:=Den.z06 (a:=z.tm) (b:=y.tm) (c:=x.tm) A0 A0;omega
theorem F4{blk cap:Nat}(d:Td Lf)(w:World)(h:Rw w blk t n off d)(bF:d.length<4611686018427387904):
  Calls Tryz.prog 124 #[.slice (some ⟨blk,off,none⟩) d.length cap,.func (.func 123) #[] #[]] w λe w'=>e= .returned (.tuple #[])/\∃A:Td Lf,A.Perm d/\A.Pairwise (λa b=>Den.bR a.tm b.tm<=0)/\Rw w' blk t n off A/\Chg blk w w':=by
 have K:∀ae w,(callFunc 123 ae).run Tryz.prog w= .ok (.enter 123 ae) w:=enters_of Tryz.func123 D1 rfl;have I:=C0 h;have q:=Tryz.slices_SortFunc Lf.enc KT (λx v J=>by
  simp[Lf.enc]at J;rcases J with rfl|rfl|rfl|rfl<;>rfl) cfL KW 123 #[] blk off cap d.toArray w K (λm os O _ x y=>Cf x y _) I h.lt (by simpa using bF)
 refine q.mono λe w' ⟨he,A,m,os,hp,hs,C⟩=>⟨he,A.toList,?_,?_,?_,?_⟩
 .have:=hp.2.2;have e1:A.extract 0 d.toArray.size=A:=by rw[<-hp.1];simp
  rw[e1]at this;simpa using this
 .rw[List.pairwise_iff_getElem];intro i j hi L D;have E:i<A.size:=Rx
  have B:j<A.size:=by simpa using L
  have:=hs i j (P6 _) D (by rw[<-hp.1];exact B);unfold ltOf cfL at this;have:=of_decide_eq_false this;rw[getElem!_pos A j B,getElem!_pos A i E]at this;have e:=Den.z08 (A[j]).tm (A[i]).tm;simp only[Array.getElem_toList];omega
 .have F:HoldsK Lf.enc 4 w' blk off A:=by rw[C];exact holdsK_sortWorldK_c Lf.enc 4 w blk off d.toArray A m os I h.lt hp.1
  obtain⟨cur,h1,h2⟩:=h.heap;refine⟨?_,?_,λk x M=> ?_⟩
  .refine⟨putCells id off (flatK Lf.enc 4 A) cur,?_,by simp[putCells,h2]⟩;rw[C];have G:=h.lt;show ((w.heap.modify blk (onCells (putCells id off (flatK Lf.enc 4 A))))++os)[blk]? =_;rw[PM (by simpa using G),Qm,mt rfl,h1];rfl
  .have:=h.fit;have e:=hp.1;simp at e;rw[PL,e];exact this
  .have hk:k<A.size:=by have:=(gI.1 M).1;simpa using this
   have e:A[k]! =x:=G1
   rw[<-e];exact MD F hk
 .rw[C];refine⟨rfl,rfl,rfl,?_,λb N H=> ?_⟩
  .show w.heap.size<=((w.heap.modify blk _)++os).size;simp
  .show ((w.heap.modify blk (onCells (putCells id off (flatK Lf.enc 4 A))))++os)[b]? =_;rw[PM (by simpa using N),Qm,O2 (λe=>H e.symm)]
theorem wQ{x:Lf}:∀{xs:Td Lf}{p:Lf},x∈cmL p xs->x∈xs
 |[],_,h=>HC
 | y::ys,p,h=>by
  unfold cmL at h;split at h
  .exact Qr _ (wQ h)
  .rcases List.mem_cons.1 h with rfl|h
   .grind
   .exact Qr _ (wQ h)
theorem HG{d:Td Lf}(h:x∈ij d):x∈d:=by
 cases d with
 |nil=>cases h
 | cons y ys=>
  rcases List.mem_cons.1 h with rfl|h
  .grind
  .exact Qr _ (wQ h)
end
set_option maxHeartbeats 1000000 in
theorem mV(A:Y Addr)(n cap:Nat)(f:Value)(w:World)(d:n<2):Calls Tryz.prog 125 #[.slice A n cap,f] w λe w'=>e= .returned (.slice A n cap)/\w'=w:=by
 have h1:(n:Int)<2:=A0
 go_enter Tryz.func125,Tryz.ntmps125
 go_wp2_with fail
 go_ret
 exact Tb
set_option maxHeartbeats 1000000 in
theorem mT(A:Y Addr)(cap:Nat)(w:World):Calls Tryz.prog 90 #[.slice A 0 cap] w λe w'=>e= .returned (.slice A 0 cap)/\w'=w:=by
 go_enter Tryz.func90,Tryz.ntmps90
 go_wp2_with (first|(go_at_call 124;refine(Tryz.slices_SortFunc_none _ _ _ _).mono ?_;rintro e w' ⟨rfl,rfl⟩)|(go_at_call 125;refine(mV _ _ _ _ _ A0).mono ?_;rintro e w' ⟨rfl,rfl⟩))
 go_ret
 exact Tb
set_option maxHeartbeats 1000000 in
theorem vB{blk n off cap:Nat}{t:TypeId}(d:Td Lf)(w:World)(h:Rw w blk t n off d)(v:d.length<=cap)(bF:d.length<4611686018427387904):
  Calls Tryz.prog 90 #[.slice (some ⟨blk,off,none⟩) d.length cap] w λe w'=>∃C:Td Lf,e= .returned (.slice (some ⟨blk,off,none⟩) C.length cap)/\C.map Lf.tm=Den.pa (d.map Lf.tm)/\(∀x∈C,x∈d)/\Rw w' blk t n off C/\Chg blk w w':=by
 have hs:=F4 (cap:=cap) d w h bF;have hc:∀(j:Td Lf)(A:World),j.length=d.length->Rw A blk t n off j->Calls Tryz.prog 125 #[.slice (some ⟨blk,off,none⟩) d.length cap,.func (.func 93) #[] #[]] A λe w'=>e= .returned (.slice (some ⟨blk,off,none⟩) (ij j).length cap)/\Rw w' blk t n off (ij j)/\Chg blk A w':=λj A hl D=>by
  rw[<-hl]at v bF ⊢;by_cases h2:j.length<2
  .have e:ij j=j:=by
    match j,h2 with
    |[],_=>rfl
    |[x],_=>rfl
    |x::y::r,h=>exact absurd h A1
   rw[e];exact(mV _ _ _ _ A h2).mono λ_ _ ⟨e1,e2⟩=>by subst e2;exact⟨e1,D,Chg.refl _ _⟩
  .exact xN j A D v A0 A0
 go_enter Tryz.func90,Tryz.ntmps90
 go_wp2_with (first|(go_at_call 124;refine hs.mono ?_;rintro e A ⟨rfl,j,hp,G,D,E⟩)|(go_at_call 125;refine(hc j A hp.length_eq D).mono ?_;rintro e I ⟨rfl,F,B⟩))
 go_ret
 refine⟨_,rfl,?_,λx H=>hp.mem_iff.1 (HG H),F,E.trans B⟩;rw[Gz];refine Den.zy ?_ λx=> ?_
 .grind
 .grind
end Go.Proofs.YtkegnipofloejaaGreatDoor
