/- merged -/
import Derived.Shelf.SlSortCmp.NoneTotal
import Derived.Test.YtigoabbppmdfpaaGreatProg
import Derived.Test.YtigoabbppmdfpaaGreatZRowPE14

namespace Go.Proofs
open Go.Shelf
def Tryz.sortT_ren :Go.Shelf.Ren:=⟨λ|6=>151|15=>169|14=>168|28=>183|29=>184|20=>175|21=>176|22=>177|23=>178|24=>179|25=>180|26=>181|27=>182|46=>189|47=>190|48=>191|49=>192|50=>193|57=>195|n=>n,λ|22=>30|24=>32|25=>173|3=>3|39=>177|0=>0|53=>196|55=>216|4=>4|46=>208|45=>207|50=>212|5=>5|9=>9|66=>220|70=>224|76=>226|77=>227|n=>n,λ|n=>n⟩
theorem Tryz.sortT :Go.Proofs.SlLaysF0.n6 Tryz.prog Tryz.sortT_ren:={
 mixed:=by kernel_rfl
 f6:=⟨Tryz.f151.name,by decide,Tryz.func151.trans (congrArg some (by kernel_rfl))⟩
 f14:=⟨Tryz.f168.name,by decide,Tryz.func168.trans (congrArg some (by kernel_rfl))⟩
 f15:=Tryz.func169.trans (congrArg some (by kernel_rfl))
 f20:=⟨Tryz.f175.name,by decide,Tryz.func175.trans (congrArg some (by kernel_rfl))⟩
 f21:=⟨Tryz.f176.name,by decide,Tryz.func176.trans (congrArg some (by kernel_rfl))⟩
 f22:=⟨Tryz.f177.name,by decide,Tryz.func177.trans (congrArg some (by kernel_rfl))⟩
 f23:=⟨Tryz.f178.name,by decide,Tryz.func178.trans (congrArg some (by kernel_rfl))⟩
 f24:=⟨Tryz.f179.name,by decide,Tryz.func179.trans (congrArg some (by kernel_rfl))⟩
 f25:=⟨Tryz.f180.name,by decide,Tryz.func180.trans (congrArg some (by kernel_rfl))⟩
 f26:=⟨Tryz.f181.name,by decide,Tryz.func181.trans (congrArg some (by kernel_rfl))⟩
 f27:=⟨Tryz.f182.name,by decide,Tryz.func182.trans (congrArg some (by kernel_rfl))⟩
 f28:=Tryz.func183.trans (congrArg some (by kernel_rfl))
 f29:=Tryz.func184.trans (congrArg some (by kernel_rfl))
 f46:=⟨Tryz.f189.name,by decide,Tryz.func189.trans (congrArg some (by kernel_rfl))⟩
 f47:=Tryz.func190.trans (congrArg some (by kernel_rfl))
 f48:=Tryz.func191.trans (congrArg some (by kernel_rfl))
 f49:=⟨Tryz.f192.name,by decide,Tryz.func192.trans (congrArg some (by kernel_rfl))⟩
 f50:=⟨Tryz.f193.name,by decide,Tryz.func193.trans (congrArg some (by kernel_rfl))⟩
 f57:=⟨Tryz.f195.name,by decide,Tryz.func195.trans (congrArg some (by kernel_rfl))⟩
 t0:=Tryz.underlying0
 a0:=Tryz.isAgg0
 z0:=Tryz.sizeOf0
 v0:=Tryz.zeroValue0
 t3:=Tryz.underlying3
 a3:=Tryz.isAgg3
 z3:=Tryz.sizeOf3
 v3:=Tryz.zeroValue3
 t4:=Tryz.underlying4
 a4:=Tryz.isAgg4
 z4:=Tryz.sizeOf4
 v4:=Tryz.zeroValue4
 t5:=Tryz.underlying5
 a5:=Tryz.isAgg5
 z5:=Tryz.sizeOf5
 v5:=Tryz.zeroValue5
 t9:=Tryz.underlying9
 a9:=Tryz.isAgg9
 z9:=Tryz.sizeOf9
 v9:=Tryz.zeroValue9
 t22:=Tryz.underlying30
 a22:=Tryz.isAgg30
 z22:=Tryz.sizeOf30
 v22:=Tryz.zeroValue30
 t25:=Tryz.underlying173
 a25:=Tryz.isAgg173
 z25:=Tryz.sizeOf173
 v25:=Tryz.zeroValue173
 t39:=Tryz.underlying177
 a39:=Tryz.isAgg177
 z39:=Tryz.sizeOf177
 v39:=Tryz.zeroValue177
 t45:=Tryz.underlying207
 a45:=Tryz.isAgg207
 z45:=Tryz.sizeOf207
 v45:=Tryz.zeroValue207
 t46:=Tryz.underlying208
 a46:=Tryz.isAgg208
 z46:=Tryz.sizeOf208
 v46:=Tryz.zeroValue208
 t50:=Tryz.underlying212
 a50:=Tryz.isAgg212
 z50:=Tryz.sizeOf212
 v50:=Tryz.zeroValue212
 t53:=Tryz.underlying196
 a53:=Tryz.isAgg196
 z53:=Tryz.sizeOf196
 v53:=Tryz.zeroValue196
 t55:=Tryz.underlying216
 a55:=Tryz.isAgg216
 z55:=Tryz.sizeOf216
 v55:=Tryz.zeroValue216
 t66:=Tryz.underlying220
 a66:=Tryz.isAgg220
 z66:=Tryz.sizeOf220
 v66:=Tryz.zeroValue220
 t70:=Tryz.underlying224
 a70:=Tryz.isAgg224
 z70:=Tryz.sizeOf224
 v70:=Tryz.zeroValue224
 t76:=Tryz.underlying226
 a76:=Tryz.isAgg226
 z76:=Tryz.sizeOf226
 v76:=Tryz.zeroValue226
 t77:=Tryz.underlying227
 a77:=Tryz.isAgg227
 z77:=Tryz.sizeOf227
 v77:=Tryz.zeroValue227}
open Go.RowKit Go.Lib Go.Sort in
theorem Tryz.slices_SortFunc{α:Type}[Inhabited α](enc:α->List Value)(hk:∀x,(enc x).length=4)(h1:∀x,∀v∈enc x,v.oneCell'=true)(cf:α->α->Int)(hO:SWO (ltOf cf))(g:Nat)(cb:Array Value)(blk off cap:Nat)(d:Array α)(w:World)
  (eg:∀ac w,(callFunc g ac).run Tryz.prog w= .ok (.enter g ac) w) (hcmp:CmpLays Tryz.prog g cb enc 4 cf blk off d.size w) (hH:HoldsK enc 4 w blk off d) (hblk:blk<w.heap.size) (hsz:d.size<4611686018427387904):
  Calls Tryz.prog 151 #[.slice (some ⟨blk,off,none⟩) d.size cap,.func (.func g) #[] cb] w λe w'=>
   e= .returned (.tuple #[])/\∃d' n os,PermIn 0 d.size d d'/\SortedIn (ltOf cf) 0 d.size d'/\w'=sortWorldK enc 4 w blk off n d' os:=AnyQ.slices_SortFunc Tryz.sortT 4 Tryz.isAgg32 Tryz.sizeOf32 enc hk h1 cf hO g cb blk off cap d w eg hcmp hH hblk hsz
open Go.RowKit Go.Lib in
theorem Tryz.slices_SortFunc_none(p:Option Addr)(cap:Nat)(fv:Value)(w:World):
  Calls Tryz.prog 151 #[.slice p 0 cap,fv] w λe w'=>e= .returned (.tuple #[])/\w'=w:=AnyF.slices_SortFunc_none Tryz.sortT p cap fv w
end Go.Proofs
namespace Go.Proofs.YtigoabbppmdfpaaGreat
open Go.RowKit Go.Sort
theorem Kl(x:Lf):x.enc.length=4:=rfl
theorem C6{w:World}{blk n off:Nat}{t:TypeId}{d:RV Lf}(h:Rw w blk t n off d):HoldsK Lf.enc 4 w blk off d.toArray:=by
 intro j A;have v:j<d.length*4:=by simpa using A
 have y:=h.fit;refine⟨?_,(h.some A1).2⟩;have hk:j / 4<d.length:=A1
 have hx:d[j / 4]? =some d[j / 4]:=gE hk;obtain⟨B,c1,c2,c3⟩:=h.at_ _ _ hx;rw[get_flatK _ _ _ _ Qe];have e:d.toArray[j / 4]! =d[j / 4]:=by simp[hk]
 rw[e];have h4:j%4=0\/j%4=1\/j%4=2\/j%4=3:=A1
 rcases h4 with h4|h4|h4|h4
 .rw[h4,(A1:off+j=off+j / 4*4)];exact B
 .rw[h4,(A1:off+j=off+j / 4*4+1)];exact c1
 .rw[h4,(A1:off+j=off+j / 4*4+2)];exact c2
 .rw[h4,(A1:off+j=off+j / 4*4+3)];exact c3
theorem M1{w:World}{blk off:Nat}{d:Array Lf}(h:HoldsK Lf.enc 4 w blk off d){k:Nat}(hk:k<d.size):At4 w blk (off+k*4) d[k]! :=by
 have g:∀j,j<4->w.cell? ⟨blk,off+k*4+j,none⟩=some ((d[k]!).enc[j]!):=λj t=>by
  have q:=(h (k*4+j) D5).1;rw[get_flatK _ _ _ _ A1,(A1:(k*4+j) / 4=k),(A1:(k*4+j)%4=j)]at q;rw[Oc];exact q
 exact⟨g 0 A1,g 1 A1,g 2 A1,g 3 A1⟩
def cfL(x y:Lf):Int:=Den.bH x.tm y.tm
theorem JV:SWO (ltOf cfL) where
 irrefl x:=by
  unfold ltOf cfL;rw[Den.z09];rfl
 trans x y z h1 h2:=by
  unfold ltOf cfL at*;exact dT (Den.z07 (NZ h1) (Pp (NZ h2)))
 ntrans x y z h1 h2:=by
  unfold ltOf cfL at*;have a:=of_decide_eq_false h1;have b:=of_decide_eq_false h2;refine dF λc=> ?_;have d:=Den.z08 x.tm y.tm;have h:=Den.z08 y.tm z.tm;have j:=Den.z08 x.tm z.tm;have:=Den.z06 (a:=z.tm) (b:=y.tm) (c:=x.tm) A1 A1;omega
theorem H9{blk n off cap:Nat}{t:TypeId}(d:RV Lf)(w:World)(h:Rw w blk t n off d)(bJ:d.length<4611686018427387904):
  Calls Tryz.prog 151 #[.slice (some ⟨blk,off,none⟩) d.length cap,.func (.func 150) #[] #[]] w λe w'=>e= .returned (.tuple #[])/\∃A:RV Lf,A.Perm d/\A.Pairwise (λa b=>Den.bH a.tm b.tm<=0)/\Rw w' blk t n off A/\Chg blk w w':=by
 have J:∀ac w,(callFunc 150 ac).run Tryz.prog w= .ok (.enter 150 ac) w:=enters_of Tryz.func150 F1 rfl;have H:=C6 h;have q:=Tryz.slices_SortFunc Lf.enc Kl (λx v I=>by
  simp[Lf.enc]at I;rcases I with rfl|rfl|rfl|rfl<;>rfl) cfL JV 150 #[] blk off cap d.toArray w J (λm os M _ x y=>Ck x y _) H h.lt (by simpa using bJ)
 refine q.mono λe w' ⟨he,A,m,os,hp,hs,C⟩=>⟨he,A.toList,?_,?_,?_,?_⟩
 .have:=hp.2.2;have K:A.extract 0 d.toArray.size=A:=by rw[<-hp.1];simp
  rw[K]at this;exact RR
 .rw[List.pairwise_iff_getElem];intro i j hi L D;have E:i<A.size:=Q9
  have B:j<A.size:=by simpa using L
  have:=hs i j (N9 _) D (by rw[<-hp.1];exact B);unfold ltOf cfL at this;have:=of_decide_eq_false this;rw[getElem!_pos A j B,getElem!_pos A i E]at this;have e:=Den.z08 (A[j]).tm (A[i]).tm;simp only[Array.getElem_toList];omega
 .have F:HoldsK Lf.enc 4 w' blk off A:=by rw[C];exact holdsK_sortWorldK_c Lf.enc 4 w blk off d.toArray A m os H h.lt hp.1
  obtain⟨cur,h1,h2⟩:=h.heap;refine⟨?_,?_,λk x hx=> ?_⟩
  .refine⟨putCells id off (flatK Lf.enc 4 A) cur,?_,by simp[putCells,h2]⟩;rw[C];have hlt:=h.lt;show ((w.heap.modify blk (onCells (putCells id off (flatK Lf.enc 4 A))))++os)[blk]? =_;rw[OC (by simpa using hlt),Pe,N1 rfl,h1];rfl
  .have:=h.fit;have e:=hp.1;simp at e;rw[OM,e];exact this
  .have hk:k<A.size:=by have:=(gI.1 hx).1;simpa using this
   have e:A[k]! =x:=Hd
   rw[<-e];exact M1 F hk
 .rw[C];refine⟨rfl,rfl,rfl,?_,λb hb G=> ?_⟩
  .show w.heap.size<=((w.heap.modify blk _)++os).size;simp
  .show ((w.heap.modify blk (onCells (putCells id off (flatK Lf.enc 4 A))))++os)[b]? =_;rw[OC (by simpa using hb),Pe,N3 (λe=>G e.symm)]
theorem vh{x:Lf}:∀{xs:RV Lf}{p:Lf},x∈cmL p xs->x∈xs
 |[],_,h=>Hm
 | y::ys,p,h=>by
  unfold cmL at h;split at h
  .exact Ow _ (vh h)
  .rcases List.mem_cons.1 h with rfl|h
   .grind
   .exact Ow _ (vh h)
theorem GZ{x:Lf}{d:RV Lf}(h:x∈gf d):x∈d:=by
 cases d with
 |nil=>cases h
 | cons y ys=>
  rcases List.mem_cons.1 h with rfl|h
  .grind
  .exact Ow _ (vh h)
set_option maxHeartbeats 1000000 in
theorem lL(A:Y Addr)(n cap:Nat)(f:Value)(w:World)(d:n<2):Calls Tryz.prog 152 #[.slice A n cap,f] w λe w'=>e= .returned (.slice A n cap)/\w'=w:=by
 have h1:(n:Int)<2:=A1
 go_enter Tryz.func152,Tryz.ntmps152
 go_wp2_with fail
 go_ret
 exact RT
set_option maxHeartbeats 1000000 in
theorem lO(A:Y Addr)(cap:Nat)(w:World):Calls Tryz.prog 112 #[.slice A 0 cap] w λe w'=>e= .returned (.slice A 0 cap)/\w'=w:=by
 go_enter Tryz.func112,Tryz.ntmps112
 go_wp2_with (first|(go_at_call 151;refine(Tryz.slices_SortFunc_none _ _ _ _).mono ?_;rintro e w' ⟨rfl,rfl⟩)|(go_at_call 152;refine(lL _ _ _ _ _ A1).mono ?_;rintro e w' ⟨rfl,rfl⟩))
 go_ret
 exact RT
set_option maxHeartbeats 1000000 in
theorem vv{blk n off cap:Nat}{t:TypeId}(d:RV Lf)(w:World)(h:Rw w blk t n off d)(v:d.length<=cap)(bJ:d.length<4611686018427387904):
  Calls Tryz.prog 112 #[.slice (some ⟨blk,off,none⟩) d.length cap] w λe w'=>∃C:RV Lf,e= .returned (.slice (some ⟨blk,off,none⟩) C.length cap)/\C.map Lf.tm=Den.nH (d.map Lf.tm)/\(∀x∈C,x∈d)/\Rw w' blk t n off C/\Chg blk w w':=by
 have hs:=H9 (cap:=cap) d w h bJ;have hc:∀(j:RV Lf)(A:World),j.length=d.length->Rw A blk t n off j->Calls Tryz.prog 152 #[.slice (some ⟨blk,off,none⟩) d.length cap,.func (.func 115) #[] #[]] A λe w'=>e= .returned (.slice (some ⟨blk,off,none⟩) (gf j).length cap)/\Rw w' blk t n off (gf j)/\Chg blk A w':=λj A hl hr=>by
  rw[<-hl]at v bJ ⊢;by_cases h2:j.length<2
  .have e:gf j=j:=by
    match j,h2 with
    |[],_=>rfl
    |[x],_=>rfl
    |x::y::r,h=>exact absurd h C3
   rw[e];exact(lL _ _ _ _ A h2).mono λ_ _ ⟨F,G⟩=>by subst G;exact⟨F,hr,Chg.refl _ _⟩
  .exact wJ j A hr v A1 A1
 go_enter Tryz.func112,Tryz.ntmps112
 go_wp2_with (first|(go_at_call 151;refine hs.mono ?_;rintro e A ⟨rfl,j,hp,H,hr,D⟩)|(go_at_call 152;refine(hc j A hp.length_eq hr).mono ?_;rintro e I ⟨rfl,E,B⟩))
 go_ret
 refine⟨_,rfl,?_,λx hx=>hp.mem_iff.1 (GZ hx),E,D.trans B⟩;rw[Ir];refine Den.zn ?_ λx=> ?_
 .grind
 .grind
end Go.Proofs.YtigoabbppmdfpaaGreat
