/- merged -/
import Derived.Test.YtigoabbppmdfpaaGreatZRowPE8
import Derived.Test.YtigoabbppmdfpaaGreatZRowPE9

namespace Go.Proofs.YtigoabbppmdfpaaGreat.Den
open Go.ChangeShapes Go.WideShapes Go.ChangeAt Go.RowKit Go.Deep Go.Joins
open Abs (V AV VRs VR AR ARs Inf Fn)
section
variable {J : Nat → Prop} {w : World}
theorem nz{T:Ty}(hp:0<szT T)(f:I T->RV D)(E:∀x,(f x).length=szT T){xs:RV (I T)}{v:V}{c:Value}(h1:FR (.l T xs) v)(h2:VR J w [] v c)
  (he:∀x∈xs,∀(j:Nat)(d:D)(a:C)(v:V)(u:Value),(f x)[j]? =some d->(aG T x)[j]? =some a->FR a v->VR J w [] v u->At w J d u):At w J (eY f xs) c:=by
 obtain⟨es,rfl,hl,F,hr⟩:∃es,v= .imm (szT T) es/\es.length=xs.length/\(∀e∈es,e.length=szT T)/\∀(m:Nat)(h1:m<xs.length)(h2:m<es.length)(j:Nat)(N:j<(aG T xs[m]).length)(h4:j<es[m].length),FR (aG T xs[m])[j] es[m][j]:=by
  cases h1 with
  |l hp hl hs hr=>exact⟨_,rfl,hl,hs,hr⟩
 generalize L:szT T=s at*;cases h2 with
 | dC hc=>
  obtain rfl:=nZ hl.symm;exact ng s E hp (N9 _) hc λh=>H0
 | @imm _ _ b off cap _ g hs hc hm M y G=>
  rw[hl];refine ng s E hp A1 hm λ_=>⟨b,off,rfl,M,λk x hx j d hd=> ?_⟩;obtain⟨hk,H⟩:=gI.1 hx;have t:k<es.length:=A1
  have K:j<s:=by have:=(gI.1 hd).1;rw[E]at this;exact this
  have h4:es[k].length=s:=F _ (gM t);have A:j<(aG T xs[k]).length:=by rw[db T A1,L];exact K
  have B:j<es[k].length:=A1
  subst H;exact⟨g k j,y k j t K,he _ (gM hk) j d _ _ _ hd (gE A) (hr k hk t j A B) (G k t j B)⟩
theorem yf{x:Int}{v:V}{u:Value}(h1:FR (.i x) v)(h2:VR J w [] v u):At w J (.lit (.int .i64 x)) u:=by
 cases h1;cases h2 with
 |lit h=>exact bc.2 ⟨rfl,h⟩
theorem at_b{x:Bool}{v:V}{u:Value}(h1:FR (.b x) v)(h2:VR J w [] v u):At w J (.lit (.bool x)) u:=by
 cases h1;cases h2 with
 |lit h=>exact bc.2 ⟨rfl,trivial⟩
theorem Jd{x:Z}{v:V}{u:Value}(h1:FR (.s x) v)(h2:VR J w [] v u):At w J (.lit (.string x)) u:=by
 cases h1;cases h2 with
 |lit h=>exact bc.2 ⟨rfl,h⟩
theorem GG{xs:RV Int}{v:V}{u:Value}(h1:FR (.l .i xs) v)(h2:VR J w [] v u):At w J (iu xs) u:=Fj (ρ:=[]) (H:=[]) (.fl h1) h2
theorem xQ{xs:RV Z}{v:V}{u:Value}(h1:FR (.l .s xs) v)(h2:VR J w [] v u):At w J (strs xs) u:=
 nz (T:=.s) D2 DO (λ_=>rfl) h1 h2 λx _ j d a v u hd h t y=>by
  match j,hd,h with
  |0,hd,h=>cases hd;cases h;exact Jd t y
theorem yP{xs:RV Sb}{v:V}{u:Value}(h1:FR (.l (.n 5) xs) v)(h2:VR J w [] v u):At w J (ak xs) u:=
 nz (T:=.n 5) D2 EH (λ_=>rfl) h1 h2 λx _ j d a v u hd h t y=>by
  match j,hd,h with
  |0,hd,h=>exact RF
  |1,hd,h=>exact RF
theorem Gk{xs:RV Dc}{v:V}{u:Value}(h1:FR (.l (.n 7) xs) v)(h2:VR J w [] v u):At w J (lu xs) u:=
 nz (T:=.n 7) D2 Dp (λ_=>rfl) h1 h2 λx _ j d a v u hd h t y=>by
  match j,hd,h with
  |0,hd,h=>cases hd;cases h;exact GG t y
  |1,hd,h=>exact RF
theorem wy{xs:RV Opr}{v:V}{u:Value}(h1:FR (.l (.n 8) xs) v)(h2:VR J w [] v u):At w J (iP xs) u:=
 nz (T:=.n 8) D2 CO (λ_=>rfl) h1 h2 λx _ j d a v u hd h t y=>by
  match j,hd,h with
  |0,hd,h=>cases hd;cases h;exact Jd t y
  |1,hd,h=>cases hd;cases h;exact Gk t y
  |2,hd,h=>cases hd;cases h;exact at_b t y
  |3,hd,h=>cases hd;cases h;exact at_b t y
  |4,hd,h=>exact RF
end
section
variable {w : World}
theorem FL{v:Value}(hl:Gu w (.n 9) v.cells.toList)(j:∃cs,v= .agg cs):∃(s:Sg)(a b c:Value),v= .agg #[a,b,c]/\iy w Any s a b c:=by
 obtain⟨cs,rfl⟩:=j;obtain⟨d,vs,h1,h2⟩:=hl;have h1:FRs [.l .s (So.ah (Sg.ai d)),.l (.n 5) (So.ak (Sg.ai d)),.l (.n 8) (Sg.ops d)] vs:=h1;obtain⟨l1,l2⟩:=h1;obtain⟨g1,h⟩:=h2
 match vs,l1 with
 | [x, y,z],_=>
  rcases cs with⟨l⟩
  match l,g1 with
  | [a,b,c],_=>
   obtain⟨B,t,A⟩:=h 0 C3;obtain⟨C,b1,b2⟩:=h 1 C3;obtain⟨D,c1,c2⟩:=h 2 C3;cases t;cases b1;cases c1;exact⟨d,a,b,c,rfl,(xQ (l2 0 C3 C3) A).any,(yP (l2 1 C3 C3) b2).any,(wy (l2 2 C3 C3) c2).any⟩
end
end Go.Proofs.YtigoabbppmdfpaaGreat.Den
namespace Go.Proofs.YtigoabbppmdfpaaGreat
open Go.RowKit
open Den (Cnd Eqn)
def Mk(c:Cnd):RV D:=[.lit (.int .i64 c.left.op),.lit (.string c.left.ae),.lit (.int .i64 c.left.ag),cw c.left.ac,.lit (.int .i64 c.right.op),.lit (.string c.right.ae),.lit (.int .i64 c.right.ag),cw c.right.ac]
abbrev aM(cs:RV Cnd):D:=eY Mk cs
abbrev di(e:Eqn)(a b c:Value):Array Value:= #[.int .i64 e.left.op,.string e.left.ae,.int .i64 e.left.ag,a,.int .i64 e.right.op,.string e.right.ae,.int .i64 e.right.ag,b,c]
structure EqAt(w:World)(S:Nat->Prop)(e:Eqn)(a b c:Value):Prop where
 l:At w S (cw e.left.ac) a
 r:At w S (cw e.right.ac) b
 c:At w S (aM e.aM) c
 fl:e.left.fits
 fr:e.right.fits
section
variable {w w' : World} {S S' : Nat → Prop} {e : Eqn} {a b c : Value}
theorem EqAt.below(h:EqAt w S e a b c)(hb:Below w.heap.size w w'):EqAt w' S e a b c:=⟨h.l.below hb,h.r.below hb,h.c.below hb,h.fl,h.fr⟩
theorem EqAt.bU(h:EqAt w S e a b c)(hL:bt S' w w')(hd:∀b,S b->¬S' b):EqAt w' S e a b c:=⟨h.l.bU hL hd,h.r.bU hL hd,h.c.bU hL hd,h.fl,h.fr⟩
theorem EqAt.mono(h:EqAt w S e a b c)(hS:∀b,S b->b<w.heap.size->S' b):EqAt w S' e a b c:=⟨h.l.mono hS,h.r.mono hS,h.c.mono hS,h.fl,h.fr⟩
end
namespace Den
open Abs (V AV VRs VR AR ARs Inf)
abbrev mF(e:Eqn):RV C:=[.i e.left.op,.s e.left.ae,.i e.left.ag,.l (.n 1) e.left.ac,.i e.right.op,.s e.right.ae,.i e.right.ag,.l (.n 1) e.right.ac,.l (.n 13) e.aM]
section
variable {w : World} {S J : Nat → Prop}
theorem EN(hS:∀b,S b->b<w.heap.size->J b){cs:RV Cnd}{v:Value}(h:At w S (aM cs) v):∃es,FR (.l (.n 13) cs) (.imm 8 es)/\VR J w [] (.imm 8 es) v:=
 jw  (T:=.n 13) D2 hS Mk (λ_=>rfl) (xs:=cs) h λx _ us hl j=>by
  match us,hl with
  | [a, b,c,d,e,f,g,i],_=>
   obtain⟨rfl,t⟩:=bc.1 (j 0 _ a rfl rfl);obtain⟨rfl,y⟩:=bc.1 (j 1 _ b rfl rfl);obtain⟨rfl,A⟩:=bc.1 (j 2 _ c rfl rfl);obtain⟨es,k1,B⟩:=mS hS (j 3 _ d rfl rfl);obtain⟨rfl,C⟩:=bc.1 (j 4 _ e rfl rfl);obtain⟨rfl,D⟩:=bc.1 (j 5 _ f rfl rfl);obtain⟨rfl,E⟩:=bc.1 (j 6 _ g rfl rfl);obtain⟨F,l1,l2⟩:=mS hS (j 7 _ i rfl rfl)
   exact⟨[.lit (.int .i64 (Cnd.left x).op),.lit (.string (Cnd.left x).ae),.lit (.int .i64 (Cnd.left x).ag),.imm 4 es,.lit (.int .i64 (Cnd.right x).op),.lit (.string (Cnd.right x).ae),.lit (.int .i64 (Cnd.right x).ag),.imm 4 F],
    aW .i (aW .s (aW .i (aW k1 (aW .i (aW .s (aW .i (aW l1 gD))))))),bC (.lit t) (bC (.lit y) (bC (.lit A) (bC B (bC (.lit C) (bC (.lit D) (bC (.lit E) (vL l2)))))))⟩
theorem u7(hS:∀b,S b->b<w.heap.size->J b){e:Eqn}{a b c:Value}(h:EqAt w S e a b c):∃vs,(∀ρ H,ATR ρ H (.agg (mF e)) (.agg vs))/\∀ι,AR ι J w (.agg vs) (.agg (di e a b c)):=by
 obtain⟨es,h1,h2⟩:=mS hS h.l;obtain⟨d,k1,j⟩:=mS hS h.r;obtain⟨t,l1,l2⟩:=EN hS h.c;obtain⟨v,y,F,A,B⟩:=h.fl;obtain⟨g1,C,G,D,E⟩:=h.fr
 exact⟨[.lit (.int .i64 e.left.op),.lit (.string e.left.ae),.lit (.int .i64 e.left.ag),.imm 4 es,.lit (.int .i64 e.right.op),.lit (.string e.right.ae),.lit (.int .i64 e.right.ag),.imm 4 d,.imm 8 t],
  λ_ _=>.agg (FRs.cr (aW .i (aW .s (aW .i (aW h1 (aW .i (aW .s (aW .i (aW k1 (aW l1 gD)))))))))),
  λ_=>AR.aB (λ_ _ h=>H0) (Abs.cB.refl _ _) (F5 (cs:=(di e a b c).toList) (bC (.lit (WalkArith.wf_i64 ⟨v,y⟩)) (bC (.lit (QE:e.left.ae.size<=maxLen)) (bC (.lit (WalkArith.wf_i64 ⟨A,B⟩)) (bC h2 (bC (.lit (WalkArith.wf_i64 ⟨g1,C⟩)) (bC (.lit (QE:e.right.ae.size<=maxLen)) (bC (.lit (WalkArith.wf_i64 ⟨D,E⟩)) (bC j (vL l2))))))))))⟩
theorem Fe{cs:RV Cnd}{v:V}{u:Value}(h1:FR (.l (.n 13) cs) v)(h2:VR J w [] v u):At w J (aM cs) u:=
 nz (T:=.n 13) D2 Mk (λ_=>rfl) h1 h2 λx _ j d a v u hd t y A=>by
  have key:∀ts:RV Tm,FR (.l (.n 1) ts) v->At w J (cw ts) u:=λts h=>iY (ρ:=[]) (H:=[]) (.fl h) A
  match j,hd,t with
  |0,hd,t=>exact RG
  |1,hd,t=>cases hd;cases t;exact Jd y A
  |2,hd,t=>exact RG
  |3,hd,t=>cases hd;cases t;exact key _ y
  |4,hd,t=>exact RG
  |5,hd,t=>cases hd;cases t;exact Jd y A
  |6,hd,t=>exact RG
  |7,hd,t=>cases hd;cases t;exact key _ y
end
section
variable {ρ : Rho} {H : RV Ob} {ι : RV Inf} {J : Nat → Prop} {w : World}
theorem IP{e:Eqn}{r:AV}{c:Value}(h1:ATR ρ H (.agg (mF e)) r)(h2:AR ι J w r c):∃x y z,c= .agg (di e x y z)/\EqAt w J e x y z:=by
 cases h1 with
 | @agg _ ys hr=>
  obtain⟨hl,hr⟩:=hr;cases h2 with
  | @agg _ cs f t A B=>
   have F:ys.length=9:=hl.symm;have at_:∀j (h:j<9),cs[j]? =some (f j)/\∃v,CR ρ H (mF e)[j] v/\VR J w ι v (f j):=λj h=>⟨A j A1,_,hr j h A1,B j A1⟩;obtain⟨R,v0,a0,b0⟩:=at_ 0 A1;obtain⟨c1,v1,G,b1⟩:=at_ 1 A1;obtain⟨c2,S,I,b2⟩:=at_ 2 A1;obtain⟨c3,v3,a3,b3⟩:=at_ 3 A1;obtain⟨c4,v4,a4,b4⟩:=at_ 4 A1;obtain⟨c5,v5,a5,b5⟩:=at_ 5 A1;obtain⟨c6,v6,K,b6⟩:=at_ 6 A1;obtain⟨c7,T,L,b7⟩:=at_ 7 A1;obtain⟨c8,M,N,b8⟩:=at_ 8 A1;obtain⟨q0,w0⟩:=iD a0 b0;obtain⟨q1,O⟩:=iG G b1;obtain⟨q2,C⟩:=iD I b2;have q3:=iY a3 b3;obtain⟨q4,D⟩:=iD a4 b4;obtain⟨q5,P⟩:=iG a5 b5;obtain⟨q6,E⟩:=iD K b6;have q7:=iY L b7;have q8:At w J (aM e.aM) (f 8):=by
    obtain⟨es,rfl,Q⟩:∃es,M= .imm 8 es/\FR (.l (.n 13) e.aM) (.imm 8 es):=by
     cases N with
     | fl h1=>cases h1 with
      |l hp hl hs hr=>exact RH
    refine Fe Q ?_;generalize f 8=u at b8;cases b8 with
    |dC hc=>exact .dC hc
    |imm a b c d e f g=>exact .imm a b c d e f g
   simp only[maxLen]at O P;refine⟨f 3,f 7,f 8,?_,q3,q7,q8,⟨(bR w0).1,(bR w0).2,A1,(bR C).1,(bR C).2⟩,⟨(bR D).1,(bR D).2,A1,(bR E).1,(bR E).2⟩⟩
   congr 1
   refine Array.ext (by rw[t,F];rfl) λj h1 h2=> ?_;have h:j<9:=h2;have:=(at_ j h).1;rw[gA h1]at this;rw[Pc this]
   match j,h with
   |0,_=>exact q0
   |1,_=>exact q1
   |2,_=>exact q2
   |3,_=>rfl
   |4,_=>exact q4
   |5,_=>exact q5
   |6,_=>exact q6
   |7,_=>rfl
   |8,_=>rfl
end
end Den
end Go.Proofs.YtigoabbppmdfpaaGreat
