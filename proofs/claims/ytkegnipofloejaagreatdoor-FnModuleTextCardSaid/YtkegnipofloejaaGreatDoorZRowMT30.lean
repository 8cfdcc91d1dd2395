/- merged -/
import Derived.Test.YtkegnipofloejaaGreatDoorZRowMT28
import Derived.Test.YtkegnipofloejaaGreatDoorZRowMT29

namespace Go.Proofs.YtkegnipofloejaaGreatDoor.Den
open Go.RowKit
set_option maxRecDepth 100000
set_option linter.unusedVariables false
noncomputable section
namespace z24
structure Gs where
 z26:z26.Q
 z2h:z2h.Q
 z0e:z0e.Q
 z0f:z0f.Q
 z2l:z2l.Q
 z0o:z0o.Q
 z2a:z2a.Q
 z27:z27.Q
def aq{R:Type}(G:Gs)(n:Nat)(code:LI)(K:Bool->Y R):Y R:=(G.z26 code).bind λr=>bif r then(K true)else sY (G.z2h code) λd=>(G.z0e d).bind λj=>(G.z0f d).bind λB=>(G.z2l d).bind λC=>bif !(B==C)then(K false)else(G.z2l d).bind λD=>bif !D then(K (decide ((List.length j:Int)=0)))else(G.z0o j).bind λh=>(lim ([]++j)).bind λzs=>(lim (zs++[(ByteArray.mk #[115,111,114,116,32])])).bind λt=>(G.z0o t).bind λv=>bif h.2 then(bif !v.2 then((G.z2a d.sig h.1.sig).bind λw=>bif w then((G.z27 d.eqs h.1.eqs).bind λy=>bif y then((G.z27 d.rules h.1.rules).bind λA=>K A)else K false)else K false)else K false)else K false
def cG(G:Gs)(code:LI)(r:Bool):Prop:=∃n,aq (R:=AT×Td Ob) G n code (λr0=>some (Tp r0,[]))=some (Tp r,[])
theorem ok{G:Gs}(d:ap [z26.ent G.z26,z2h.ent G.z2h,z0e.ent G.z0e,z0f.ent G.z0f,z2l.ent G.z2l,z0o.ent G.z0o,z2a.ent G.z2a,z27.ent G.z27]){g:Q}(h:∀code r,g code=some r->cG G code r):aj (ent g):=okQ λ_ _ _ _ hc=>Tk hc (h _) λ_ _ j=>fF d ⟨66,0,[],[],[2],[(5,⟨[(Te 5,[],[])],[],[],[0],[]⟩)],[]⟩ nP Tryz.func3 j
end z24
end
end Go.Proofs.YtkegnipofloejaaGreatDoor.Den
namespace Go.Proofs.YtkegnipofloejaaGreatDoor.Den
open Go.RowKit
def nmsB(o:Opr):Bool:=decide (bl o.ah≠[105,102])&&(decide (bl o.ah≠[97,110,100])&&decide (bl o.ah≠[61]))
def chkS(s:Sg):Bool:=((dlF s).all λb=>isD b&&decide (b.size<=100000))&&(decide (dlF s≠[])&&(s.ops.all nmsB&&(match mN ((dlF s).map bC) z0 []with
 |some r=>decide (r.1.ai=s.ai/\unF r.1.ops 0 r.2 r.1.ops=s.ops/\r.2.length<=r.1.ops.length/\r.1.ops.length<=14/\s.ai.ak.length<=16/\s.ai.aA.length<=1000)
 |none=>false)))
theorem I7:∀b h hc fa j t m v:Bool,chkS (iB b h hc fa j t m v)=true:=by decide+kernel
end Go.Proofs.YtkegnipofloejaaGreatDoor.Den
namespace Go.Proofs.YtkegnipofloejaaGreatDoor.Den
open Go.RowKit
open Classical
structure Chk(s:Sg):Prop where
 d:∀b∈dlF s,isD b=true/\b.size<=100000
 ne:dlF s≠[]
 n:Nms s
 r:∃ops us,mN ((dlF s).map bC) z0 []=some (⟨s.ai,ops⟩,us)/\unF ops 0 us ops=s.ops/\us.length<=ops.length/\ops.length<=14
 l:s.ai.ak.length<=16/\s.ai.aA.length<=1000/\(dlF s).length<=50
theorem zU{s:Sg}(h:SgD s):Chk s:=by
 obtain⟨b,d,hc,fa,j,t,m,v,rfl⟩:=h;have hl:=Hk b d hc fa j t m v;have:=I7 b d hc fa j t m v;generalize iB b d hc fa j t m v=s at this hl ⊢;unfold chkS at this;simp only[bA,O8,aT]at this;obtain⟨h1,h2,y,h4⟩:=this;cases w:mN ((dlF s).map bC) z0 []with
 |none=>rw[w]at h4;cases h4
 | some r=>
  rw[w]at h4;obtain⟨e1,e2,e3,A,B,C⟩:=ON h4;refine⟨h1,h2,λo ho=> ?_,⟨r.1.ops,r.2,by rw[w,<-e1],e2,e3,A⟩,B,C,hl⟩;have:=y o ho;unfold nmsB at this;simp only[bA,O8]at this;exact this
abbrev wSt:Z:=ByteArray.mk #[115,111,114,116,32]
theorem sd{l1 l2:Td Z}(h1:∀b∈l1,isD b=true)(h2:∀b t,l2=b::t->isD b=false):(l1++l2).takeWhile isD=l1/\(l1++l2).dropWhile isD=l2:=by
 have e2:l2.takeWhile isD=[]/\l2.dropWhile isD=l2:=by
  cases l2 with
  |nil=>exact Tb
  |cons b t=>rw[Qv,Qw,h2 b t rfl];exact Tb
 exact⟨by rw[List.takeWhile_append_of_pos h1,e2.1,OO],by rw[List.dropWhile_append_of_pos h1,e2.2]⟩
theorem BG:∀(a b:Td (Td Z))(s:Sg)(us:Td Z),mN (a++b) s us=(mN a s us).bind λr=>mN b r.1 r.2
 |[],_,_,_=>rfl
 | w::l,b,s,us=>by
  rw[Ph,mN,mN];split
  .cases rdF s us w with
   |none=>rfl
   |some r=>exact BG l b r.1 r.2
  .rfl
theorem HD(x y c:UInt8)(h:x≠32)(j:y≠32)(t:Z)(hc:c=32):bW (ByteArray.mk #[x,y,c]++t) wSp=(ByteArray.mk #[x,y],t,true):=by
 subst hc;refine mD ?_;rw[fI]
 exact vK (p:=[32]) (a:=[x,y]) A3 (mP λd hd=>by
  rcases List.mem_cons.1 hd with rfl|hd
  .exact h
  .rw[List.mem_singleton.1 hd];exact j)
theorem FA(x y c:UInt8)(d:(x==115||x==111)=false)(t:Z):isD (ByteArray.mk #[x,y,c]++t)=false:=by
 unfold isD;rw[show (ByteArray.mk #[x,y,c]++t).data.toList=x::y::c::bl t from fI _ _];exact d
theorem yc(x y:UInt8)(d:x≠32)(h:y≠32)(t:Z):∃j,bC (ByteArray.mk #[x,y,32]++t)=ByteArray.mk #[x,y]::j:=by
 unfold bC;rw[show (ByteArray.mk #[x,y,32]++t).data.toList=x::y::32::bl t from fI _ _];unfold spL;rw[O2 d];unfold spL;rw[O2 h];unfold spL;rw[mt rfl];exact⟨_,rfl⟩
section
variable {s : Sg} (hS : bD s = true) (hN : Nms s)
include hS hN
theorem Fe:∀(l:Td Eqn)(rest:Td Z)(a b:Td Eqn),(∀e∈l,SmE e/\eJ s e=true)->mL s (l.map (λe=>w3q++fT s e)++rest) a b=mL s rest (a++l) b
 |[],_,a,_,_=>by rw[OO];rfl
 | e::l,rest,a,b,h=>by
  have c:=HD 101 113 32 A3 A3 (fT s e) rfl;have p:=Lr hS hN (h e A1).1 (h e A1).2;rw[Pz,Ph,mL,c];dsimp only;rw[p,mt rfl,mt rfl,Fe l rest _ b λd hd=>h d RU,O5];rfl
theorem Fk:∀(l:Td Eqn)(rest:Td Z)(a b:Td Eqn),(∀e∈l,SmE e/\eJ s e=true)->mL s (l.map (λe=>w3r++fT s e)++rest) a b=mL s rest a (b++l)
 |[],_,_,b,_=>by rw[OO];rfl
 | e::l,rest,a,b,h=>by
  have c:=HD 114 108 32 A3 A3 (fT s e) rfl;have p:=Lr hS hN (h e A1).1 (h e A1).2;rw[Pz,Ph,mL,c];dsimp only;rw[p,mt rfl,O2 A3,Fk l rest a _ λd hd=>h d RU,O5];rfl
end
theorem Ol(s:Sg):(peF s (bW wSt wSp).2.1).2=false:=by
 have e:(bW wSt wSp).2.1=ByteArray.empty:=A3
 rw[e];have h1:(bW ByteArray.empty wIf).1=ByteArray.empty:=A3
 have h:(dZ s (bW ByteArray.empty wIf).1).2.2=false:=by
  rw[h1];cases q:(dZ s ByteArray.empty).2.2 with
  |false=>rfl
  |true=>exact absurd (Kq q).1 A3
 unfold peF wH;rw[h,o6 (QC _),O2 A1]
structure Ok1(m:Md):Prop where
 g:SgD m.sig
 sm:SmM m
 s:bD m.sig=true
 m:mI m=true
section
variable {m:Md}
theorem Og(h:Ok1 m):m8 m=some (zz m):=by
 unfold m8;rw[mt ⟨h.g,h.sm⟩,mt h.m]
noncomputable abbrev erL(m:Md):Td Z:=m.eqs.map (λe=>w3q++fT m.sig e)++m.rules.map (λe=>w3r++fT m.sig e)
theorem BO{r:Td Z}(j:∀b t,r=b::t->isD b=false/\∃a d,bC b=a::d/\a≠gg/\a≠lm/\a≠wOp):∀b t,erL m++r=b::t->isD b=false/\∃a d,bC b=a::d/\a≠gg/\a≠lm/\a≠wOp:=λb t e=>by
 unfold erL at e;cases h1:m.eqs with
 | cons x l=>
  rw[h1]at e;cases e;obtain⟨d,h⟩:=yc 101 113 A3 A3 (fT m.sig x);exact⟨FA _ _ _ rfl _,_,d,h,A3,A3,A3⟩
 | nil=>
  rw[h1]at e;cases h2:m.rules with
  | cons x l=>
   rw[h2]at e;cases e;obtain⟨d,h⟩:=yc 114 108 A3 A3 (fT m.sig x);exact⟨FA _ _ _ rfl _,_,d,h,A3,A3,A3⟩
  | nil=>
   rw[h2]at e;exact j b t e
theorem wR(h:Ok1 m):(∀b∈erL m,b.size<=100000)/\(erL m).length<=32:=by
 obtain⟨l1,l2,_,_,j,t⟩:=rq h.s h.sm h.m;refine⟨λb d=> ?_,by unfold erL;rw[OJ,OV,OV];omega⟩;rcases List.mem_append.1 d with d|d
 .obtain⟨e,he,rfl⟩:=List.mem_map.1 d;have:=mr (j e he);rw[bM];show 3+_<=_;omega
 .obtain⟨e,he,rfl⟩:=List.mem_map.1 d;have:=mr (t e he);rw[bM];show 3+_<=_;omega
theorem GA(h:Ok1 m)(hN:Nms m.sig)(r:Td Z):mL m.sig (erL m++r) [] []=mL m.sig r m.eqs m.rules:=by
 obtain⟨_,_,a,b,_,_⟩:=rq h.s h.sm h.m;unfold erL;rw[O5,Fe h.s hN m.eqs _ _ _ λe he=>⟨h.sm.1 e he,a e he⟩,Fk h.s hN m.rules _ _ _ λe he=>⟨h.sm.2 e he,b e he⟩,Pm,Pm]
theorem oZ(m:Md):zz m=dlF m.sig++erL m:=O5 _ _ _
theorem MN(h:Ok1 m):gPM (zz m)=some (m,true):=by
 have C:=zU h.g;obtain⟨ops,us,w,y,A,B⟩:=C.r;obtain⟨D,H⟩:=wR h;have v:=BO (m:=m) (r:=[]) λb t e=>E0
 obtain⟨E,F⟩:=sd (l1:=dlF m.sig) (l2:=erL m) (λb d=>(C.d b d).1) λb t e=>(v b t (by rw[OO];exact e)).1;have q1:∀b∈dlF m.sig++erL m,b.size<=100000:=λb d=>by
  rcases List.mem_append.1 d with d|d
  .exact(C.d b d).2
  .exact D b d
 have q2:(dlF m.sig++erL m).length<=1000:=by
  have:=C.l.2.2;rw[OJ];omega
 have q3:erL m=[]\/∃b tl a j,erL m=b::tl/\bC b=a::j/\a≠gg/\a≠lm/\a≠wOp:=by
  cases he:erL m with
  |nil=>exact Ta
  | cons b t=>
   obtain⟨_,a,j,q⟩:=v b t (by rw[OO];exact he);exact .inr ⟨b,t,a,j,rfl,q⟩
 unfold gPM;rw[oZ,E,F,mt ⟨q1,q2,q3⟩,w,bS];dsimp only;rw[mt ⟨A,B⟩,y];unfold ud;have G:(⟨m.sig.ai,m.sig.ops⟩:Sg)=m.sig:=rfl;rw[G,mt h.g,<-OO (erL m),GA h C.n []];show (if m8 m=some _/\_ then _ else _)=_;rw[mt ⟨by rw[Og h,oZ,OO],by rw[OO];exact λe=>C.ne (List.append_eq_nil_iff.1 e).1⟩]
theorem Ou(h:Ok1 m):gPM (zz m++[wSt])=some (zM,false):=by
 have C:=zU h.g;obtain⟨ops,us,D,E,F,B⟩:=C.r;obtain⟨H,P⟩:=wR h;have j:∀b∈dlF m.sig++(erL m++[wSt]),b.size<=100000:=λb d=>by
  rcases List.mem_append.1 d with d|d
  .exact(C.d b d).2
  .rcases List.mem_append.1 d with d|d
   .exact H b d
   .rw[List.mem_singleton.1 d];decide
 have v:(dlF m.sig++(erL m++[wSt])).length<=1000:=by
  have:=C.l.2.2;rw[OJ,OJ,PP];omega
 cases he:erL m with
 | nil=>
  have hd:∀b∈dlF m.sig++[wSt],isD b=true:=λb d=>by
   rcases List.mem_append.1 d with d|d
   .exact(C.d b d).1
   .rw[List.mem_singleton.1 d];rfl
  obtain⟨y,A⟩:=sd (l1:=dlF m.sig++[wSt]) (l2:=[]) hd λb t e=>E0
  rw[OO]at y A;rw[he]at j v;unfold gPM;rw[oZ,he,OO,y,A,mt ⟨j,v,.inl rfl⟩,PJ,BG,D,bS];dsimp only;have e1:mN [bC wSt] ⟨m.sig.ai,ops⟩ us=some (⟨⟨m.sig.ai.ak++[⟨#[]⟩],m.sig.ai.aA⟩,ops⟩,us):=by
   have I:bC wSt=[gg,⟨#[]⟩]:=A3
   have:=C.l;rw[mN,I,mt ⟨A3,this.1,P3 B A3,this.2.1,A0⟩];rfl
  rw[Pz,List.map_nil,e1,bS];dsimp only;rw[mt ⟨F,B⟩];unfold ud;have he:SgE (⟨⟨m.sig.ai.ak++[⟨#[]⟩],m.sig.ai.aA⟩,unF ops 0 us ops⟩:Sg):=by
   rw[E];obtain⟨b,J,hc,fa,K,L,q,M,e⟩:=h.g;rw[e];exact⟨b,J,hc,fa,K,L,q,M,rfl⟩
  rw[O2 λq=>he.no q.ok,mt he]
 | cons b0 t0=>
  have G:∀b t,erL m++[wSt]=b::t->isD b=false/\∃a w,bC b=a::w/\a≠gg/\a≠lm/\a≠wOp:=λb t e=>by
   rw[he]at e;cases e;exact BO (m:=m) (r:=[]) (λb t e=>E0) b0 t0 (by rw[OO];exact he)
  obtain⟨y,A⟩:=sd (l1:=dlF m.sig) (l2:=erL m++[wSt]) (λb d=>(C.d b d).1) λb t e=>(G b t e).1;have N:∃b tl a w,erL m++[wSt]=b::tl/\bC b=a::w/\a≠gg/\a≠lm/\a≠wOp:=by
   obtain⟨_,a,w,q⟩:=G b0 (t0++[wSt]) (by rw[he];rfl);exact⟨b0,t0++[wSt],a,w,by rw[he];rfl,q⟩
  unfold gPM;rw[oZ,O5,y,A,mt ⟨j,v,.inr N⟩,D,bS];dsimp only;rw[mt ⟨F,B⟩,E];unfold ud;have O:(⟨m.sig.ai,m.sig.ops⟩:Sg)=m.sig:=rfl;rw[O,mt h.g,GA h C.n [wSt],mL,Ol,O2 A3]
theorem Mg:aj (z26.ent λcode=>some (decide (1048576<(List.length code:Int)))):=z26.ok (G:=⟨()⟩) trivial λcode r h=>⟨1,QU⟩
noncomputable abbrev GMT:z24.Gs:=⟨λcode=>some (decide (1048576<(List.length code:Int))),AJ,m8,AE,AE,gPM,Jg,Hp⟩
theorem Gq{code:Td Int}{R:Type}(h0:code.length<=1048576->∃a,AJ code a)(K:Bool->Y R)(r:R)(hK:K true=some r):z24.aq GMT 1 code K=some r:=by
 unfold z24.aq;dsimp only;rw[bS];cases hd:decide (1048576<(List.length code:Int))with
 |true=>exact hK
 | false=>
  rw[cF];refine wX (h0 (by have:=of_decide_eq_false hd;omega)) λm ⟨_,d,hm⟩=> ?_;rw[show AE m=some (bD m.sig&&mI m)from mt ⟨hm,d⟩,show m8 m=_ from mt ⟨d,hm⟩];simp only[bS];rw[show ((bD m.sig&&mI m)==(bD m.sig&&mI m))=true from beq_self_eq_true _,O4,cF];have hS:=d.ok;rw[hS,O7];by_cases hc:mI m=true
  .have ok:Ok1 m:=⟨d,hm,hS,hc⟩;have hl:(zz m).length<=100:=by
    have:=(zU d).l.2.2;have:=(wR ok).2;rw[oZ,OJ];omega
   obtain⟨_,_,_,_,h,j⟩:=rq hS hm hc;have q1:m.eqs.length<=16/\m.rules.length<=16:=by
    obtain⟨a,b,_⟩:=rq hS hm hc;exact⟨a,b⟩
   rw[mt hc,hc,O4,cF,MN ok,bS,Pm,cV A0,bS,cV A4,bS];show Option.bind (gPM (zz m++[wSt])) _=_;rw[Ou ok,bS];dsimp only
   rw[cT,OS,cT,show Jg m.sig m.sig=some true from mt ⟨rfl,d⟩,bS,cT,show Hp m.eqs m.eqs=some true from mt ⟨rfl,A0,λe he=>⟨hm.1 e he,(h e he).2.2.2⟩⟩,bS,cT,
    show Hp m.rules m.rules=some true from mt ⟨rfl,A0,λe he=>⟨hm.2 e he,(j e he).2.2.2⟩⟩,bS]
   exact hK
  .rw[O2 hc,Bool.eq_false_iff.2 hc,OS,cT];exact hK
theorem Hx:kH Tryz.prog (z2h.ent AJ):=by
 obtain⟨M,v,hN⟩:=MP;obtain⟨N,w,y⟩:=Jb;obtain⟨gB,d,h⟩:=Iw w y;obtain⟨gO,j,t⟩:=J3 d h;obtain⟨gP,A,B⟩:=Eo d h;obtain⟨gL,C,D⟩:=Et t j;obtain⟨gW,E,F⟩:=sK h t B d j A 3 A0;obtain⟨g6,G,H⟩:=HB t F j E;obtain⟨gC,I,J⟩:=Ar;obtain⟨gD,K,L⟩:=Ey H J G I;exact mM (qR hN v (DZ L t h D K j d C))
theorem N5:∃s,SgD s:=⟨_,false,false,false,false,false,false,false,false,rfl⟩
theorem sk:∃g,aj (z24.ent g)/\∀code,Fit (.sl .u) code->∃r,g code=some r/\r=true:=
 rc (λg d=>z24.ok (G:=GMT) ⟨Mg,Hx,kZ,z0g,z2m,tj,tY,v6,trivial⟩ d) λcode _=>⟨true,⟨1,Gq (λhl=>by
  obtain⟨s,hs⟩:=N5;exact⟨⟨s,[],[]⟩,hl,hs,⟨λe he=>(by cases he),λe he=>(by cases he)⟩⟩) _ _ rfl⟩,rfl⟩
end
end Go.Proofs.YtkegnipofloejaaGreatDoor.Den
