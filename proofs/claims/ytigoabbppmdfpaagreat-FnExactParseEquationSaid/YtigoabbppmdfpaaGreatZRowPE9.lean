/- merged -/
import Derived.Deep.RegionHeld3
import Derived.Deep.CutRange
import Derived.Test.YtigoabbppmdfpaaGreatZRowPE1
import Derived.Test.YtigoabbppmdfpaaGreatZRowPE8

namespace Go.Proofs.YtigoabbppmdfpaaGreat
open Go.RowKit
open Den (Sb So Dc Opr Sg)
def SzR(left:Int)(n:Nat)(r:Int):Prop:=r= -1\/(0<=r/\(n:Int)+r<=left)
theorem Fo{α:Type}(f:α->Nat)(xs:RV α):iC f xs xs.length=(xs.map f).sum:=by unfold iC;rw[OQ]
theorem zu(xs:RV Int)(left:Int)(w:World)(S:Nat->Prop)(v:Value)(h:At w S (iu xs) v)(h0:0<=left)(h1:left<=1048576):
  Calls Tryz.prog 118 #[v,.int .i64 left] w λe w'=>∃r,e= .returned (.int .i64 r)/\SzR left xs.length r/\Below w.heap.size w w':=by
 obtain⟨A,c,rfl,j,hc⟩:=cz h;by_cases d:left-xs.length<0
 .go_enter Tryz.func118,Tryz.ntmps118
  go_wp2_with fail
  go_ret
  exact RA
 .go_enter Tryz.func118,Tryz.ntmps118
  go_wp2_with fail
  go_ret
  exact⟨_,rfl,.inr ⟨A1,A1⟩,Below.refl _ _⟩
theorem AQ(xs:RV Sb)(left:Int)(w:World)(S:Nat->Prop)(v:Value)(h:At w S (ak xs) v)(h0:0<=left)(h1:left<=1048576):
  Calls Tryz.prog 33 #[v,.int .i64 left] w λe w'=>∃r,e= .returned (.int .i64 r)/\SzR left xs.length r/\Below w.heap.size w w':=by
 obtain⟨A,c,rfl,j,hc⟩:=au h;by_cases d:left-xs.length<0
 .go_enter Tryz.func33,Tryz.ntmps33
  go_wp2_with fail
  go_ret
  exact RA
 .go_enter Tryz.func33,Tryz.ntmps33
  go_wp2_with fail
  go_ret
  exact⟨_,rfl,.inr ⟨A1,A1⟩,Below.refl _ _⟩
set_option maxHeartbeats 1000000 in
theorem sV(xs:RV Z)(left:Int)(w:World)(S:Nat->Prop)(v:Value)(h:At w S (strs xs) v)(h0:0<=left)(h1:left<=1048576):
  Calls Tryz.prog 32 #[v,.int .i64 left] w λe w'=>∃r,e= .returned (.int .i64 r)/\SzR left xs.length r/\Below w.heap.size w w':=by
 obtain⟨A,c,rfl,F,hc⟩:=au h;by_cases d:left-xs.length<0
 .go_enter Tryz.func32,Tryz.ntmps32
  go_wp2_with fail
  go_ret
  exact RA
 .go_enter Tryz.func32,Tryz.ntmps32
  go_wp2_with fail
  go_loopw [1,5] (λl i wr=>∃(k:Nat)(r:Int),k<=xs.length/\i= .int .i64 k/\l= .int .i64 r/\0<=r/\((xs.length+iC (λ_=>0) xs k:Nat):Int)+r<=left/\Below w.heap.size w wr) (λ_ i _=>xs.length-(intOf i).toNat)
  case atStart=>exact⟨0,_,N9 _,rfl,rfl,A1,QQ,Below.refl _ _⟩
  case round=>
   obtain⟨k,r,hk,rfl,rfl,hr,j,hb⟩:=hrel;by_cases hlt:k<xs.length
   .obtain⟨b,off,x,rfl,_,t,y,hx,B⟩:=nb (h.below hb) hlt;have C:=Lib.hid (ir (f:=(λ_=>0)) B.out);have G:=hb.size;have D:x.size<=9223372036854775807:=Qs
    by_cases E:r-x.size<0
    .go_wp2_with fail
     go_ret
     exact⟨_,rfl,.inl rfl,hb⟩
    .go_wp2_with fail
     go_roundw
     case rel=>exact⟨k+1,_,A1,by go_num,rfl,A1,by have:=C.out;omega,hb⟩
     case measure=>simp[intOf];omega
   .go_wp2_with fail
    go_ret
    obtain rfl:k=xs.length:=A1
    exact⟨_,rfl,.inr ⟨hr,A1⟩,hb⟩
theorem Ao(x:Dc)(left:Int)(w:World)(S:Nat->Prop)(v:Value)(h:At w S (iu (Dc.ac x)) v)(h0:0<=left)(h1:left<=1048576):
  Calls Tryz.prog 84 #[.agg #[v,.int .i64 (Dc.result x)],.int .i64 left] w λe w'=>∃r,e= .returned (.int .i64 r)/\SzR left (dcW x) r/\Below w.heap.size w w':=by
 obtain⟨A,c,rfl,B,hc⟩:=cz h
 go_enter Tryz.func84,Tryz.ntmps84
 go_wp2_with fail
 refine(zu (Dc.ac x) left _ S _ (h.alloc _) h0 h1).mono ?_;rintro e C ⟨t,rfl,hs,hb1⟩;rcases hs with rfl|⟨d,j⟩
 .go_wp2_with fail
  go_ret
  exact RI
 .have y:decide (t<0)=false:=dF A1
  go_wp2_with fail
  go_ret
  exact⟨_,rfl,.inr ⟨d,j⟩,B0⟩
set_option maxHeartbeats 1000000 in
theorem wN(xs:RV Dc)(left:Int)(w:World)(S:Nat->Prop)(v:Value)(h:At w S (lu xs) v)(h0:0<=left)(h1:left<=1048576):
  Calls Tryz.prog 58 #[v,.int .i64 left] w λe w'=>∃r,e= .returned (.int .i64 r)/\SzR left (tn xs) r/\Below w.heap.size w w':=by
 obtain⟨A,c,rfl,M,hc⟩:=au h;unfold tn;by_cases t:left-xs.length<0
 .go_enter Tryz.func58,Tryz.ntmps58
  go_wp2_with fail
  go_ret
  exact RA
 .go_enter Tryz.func58,Tryz.ntmps58
  go_wp2_with fail
  go_loopw [1,5] (λl i wr=>∃(k:Nat)(r:Int),k<=xs.length/\i= .int .i64 k/\l= .int .i64 r/\0<=r/\((xs.length+iC dcW xs k:Nat):Int)+r<=left/\Below w.heap.size w wr) (λ_ i _=>xs.length-(intOf i).toNat)
  case atStart=>exact⟨0,_,N9 _,rfl,rfl,A1,QQ,Below.refl _ _⟩
  case round=>
   obtain⟨k,r,hk,rfl,rfl,hr,d,hb⟩:=hrel;by_cases hlt:k<xs.length
   .obtain⟨b,off,x,u,rfl,_,C,D,y,E,F,G⟩:=na (h.below hb) hlt;have H:=Lib.hid (ir (f:=dcW) G.out);have N:=hb.size;obtain⟨O,P,rfl,I,J⟩:=cz y
    go_wp2_with fail
    refine(Ao x r _ S _ y A1 A1).mono ?_;rintro e Q ⟨B,rfl,hs,hb1⟩;rcases hs with rfl|⟨j,K⟩
    .go_wp2_with fail
     go_ret
     exact RI
    .have L:decide (B<0)=false:=dF A1
     go_wp2_with fail
     go_roundw
     case rel=>exact⟨k+1,B,A1,by go_num,rfl,j,by have:=H.out;omega,B0⟩
     case measure=>simp[intOf];omega
   .go_wp2_with fail
    go_ret
    obtain rfl:k=xs.length:=A1
    rw[Fo]at d;exact⟨_,rfl,.inr ⟨hr,d⟩,hb⟩
theorem Hn(x:Opr)(left:Int)(w:World)(S:Nat->Prop)(v:Value)(h:At w S (lu (Opr.aC x)) v)(hx:(Opr.ae x).size<=maxLen)(h0:0<=left)(h1:left<=1048576):
  Calls Tryz.prog 34 #[.agg #[.string (Opr.ae x),v,.bool (Opr.aA x),.bool (Opr.comm x),.int .i64 (Opr.aE x)],.int .i64 left] w λe w'=>∃r,e= .returned (.int .i64 r)/\SzR left (opW x) r/\Below w.heap.size w w':=by
 obtain⟨A,c,rfl,D,hc⟩:=au h;have y:(Opr.ae x).size<=9223372036854775807:=Qs
 by_cases j:left-(Opr.ae x).size<0
 .go_enter Tryz.func34,Tryz.ntmps34
  go_wp2_with fail
  go_ret
  exact RI
 .go_enter Tryz.func34,Tryz.ntmps34
  go_wp2_with fail
  refine(wN (Opr.aC x) _ _ S _ (h.alloc _) A1 A1).mono ?_;rintro e E ⟨t,rfl,hs,hb1⟩;rcases hs with rfl|⟨d,B⟩
  .go_wp2_with fail
   go_ret
   exact RI
  .have C:decide (t<0)=false:=dF A1
   go_wp2_with fail
   go_ret
   exact⟨_,rfl,.inr ⟨d,by show ((tn (Opr.aC x):Nat):Int)+t<=left;omega⟩,B0⟩
set_option maxHeartbeats 1000000 in
theorem Ei(xs:RV Opr)(left:Int)(w:World)(S:Nat->Prop)(v:Value)(h:At w S (iP xs) v)(h0:0<=left)(h1:left<=1048576):
  Calls Tryz.prog 14 #[v,.int .i64 left] w λe w'=>∃r,e= .returned (.int .i64 r)/\SzR left (yD xs) r/\Below w.heap.size w w':=by
 obtain⟨A,c,rfl,P,hc⟩:=au h;unfold yD;by_cases y:left-xs.length<0
 .go_enter Tryz.func14,Tryz.ntmps14
  go_wp2_with fail
  go_ret
  exact RA
 .go_enter Tryz.func14,Tryz.ntmps14
  go_wp2_with fail
  go_loopw [1,5] (λl i wr=>∃(k:Nat)(r:Int),k<=xs.length/\i= .int .i64 k/\l= .int .i64 r/\0<=r/\((xs.length+iC opW xs k:Nat):Int)+r<=left/\Below w.heap.size w wr) (λ_ i _=>xs.length-(intOf i).toNat)
  case atStart=>exact⟨0,_,N9 _,rfl,rfl,A1,QQ,Below.refl _ _⟩
  case round=>
   obtain⟨k,r,hk,rfl,rfl,hr,d,hb⟩:=hrel;by_cases hlt:k<xs.length
   .obtain⟨b,off,x,u,rfl,_,D,E,F,B,G,H,I,j,J⟩:=mZ (h.below hb) hlt;have K:=Lib.hid (ir (f:=opW) J.out);have Q:=hb.size;obtain⟨R,T,rfl,L,M⟩:=au B
    go_wp2_with fail
    refine(Hn x r _ S _ B j.1 A1 A1).mono ?_;rintro e U ⟨C,rfl,hs,hb1⟩;rcases hs with rfl|⟨t,N⟩
    .go_wp2_with fail
     go_ret
     exact RI
    .have O:decide (C<0)=false:=dF A1
     go_wp2_with fail
     go_roundw
     case rel=>exact⟨k+1,C,A1,by go_num,rfl,t,by have:=K.out;omega,B0⟩
     case measure=>simp[intOf];omega
   .go_wp2_with fail
    go_ret
    obtain rfl:k=xs.length:=A1
    rw[Fo]at d;exact⟨_,rfl,.inr ⟨hr,d⟩,hb⟩
theorem xn(x:So)(left:Int)(w:World)(S:Nat->Prop)(v u:Value)(h:At w S (strs (So.ah x)) v)(k:At w S (ak (So.ak x)) u)(h0:0<=left)(h1:left<=1048576):
  Calls Tryz.prog 13 #[.agg #[v,u],.int .i64 left] w λe w'=>∃r,e= .returned (.int .i64 r)/\SzR left ((So.ah x).length+(So.ak x).length) r/\Below w.heap.size w w':=by
 obtain⟨A,c,rfl,K,hc⟩:=au h;obtain⟨B,d,rfl,hm,hd⟩:=au k;have D:=Blk.new w 25 #[.slice A (So.ah x).length c,.slice B (So.ak x).length d];have E:=Lib.hid (k.alloc (.cells #[.slice A (So.ah x).length c,.slice B (So.ak x).length d] 25))
 go_enter Tryz.func13,Tryz.ntmps13
 go_wp2_with fail
 refine(sV (So.ah x) left _ S _ (h.alloc _) h0 h1).mono ?_;rintro e F ⟨G,rfl,hs,hb1⟩;obtain⟨q1,q2⟩:=(D.next hb1).c2;rcases hs with rfl|⟨t,H⟩
 .go_wp2_with fail
  go_ret
  exact RI
 .have y:decide (G<0)=false:=dF A1
  go_wp2_with fail
  refine(AQ (So.ak x) _ _ S _ (E.out.below hb1) t A1).mono ?_;rintro e L ⟨I,rfl,hs,hb2⟩;have j:Below w.heap.size w F:=B0
  have bel:=j.trans (hb2.mono j.size);rcases hs with rfl|⟨C,J⟩
  .go_wp2_with fail
   go_ret
   exact⟨_,rfl,.inl rfl,bel⟩
  .have y:decide (I<0)=false:=dF A1
   go_wp2_with fail
   go_ret
   exact⟨_,rfl,.inr ⟨C,A1⟩,bel⟩
theorem pS(x:Sg)(left:Int)(w:World)(S:Nat->Prop)(v u z:Value)(h:At w S (strs (So.ah (Sg.ai x))) v)(k:At w S (ak (So.ak (Sg.ai x))) u)(l:At w S (iP (Sg.ops x)) z)(h0:0<=left)(h1:left<=1048576):
  Calls Tryz.prog 4 #[.agg #[v,u,z],.int .i64 left] w λe w'=>∃r,e= .returned (.int .i64 r)/\SzR left (sgW x) r/\Below w.heap.size w w':=by
 obtain⟨A,c,rfl,L,hc⟩:=au h;obtain⟨B,d,rfl,hm,hd⟩:=au k;obtain⟨C,f,rfl,hp,M⟩:=au l;have E:=Blk.new w 28 #[.slice A (So.ah (Sg.ai x)).length c,.slice B (So.ak (Sg.ai x)).length d,.slice C (Sg.ops x).length f];have F:=Lib.hid (l.alloc (.cells #[.slice A (So.ah (Sg.ai x)).length c,.slice B (So.ak (Sg.ai x)).length d,.slice C (Sg.ops x).length f] 28))
 go_enter Tryz.func4,Tryz.ntmps4
 go_wp2_with fail
 refine(xn (Sg.ai x) left _ S _ _ (h.alloc _) (k.alloc _) h0 h1).mono ?_;rintro e G ⟨H,rfl,hs,hb1⟩;obtain⟨q1,q2,q3⟩:=(E.next hb1).c3;rcases hs with rfl|⟨t,I⟩
 .go_wp2_with fail
  go_ret
  exact RI
 .have y:decide (H<0)=false:=dF A1
  go_wp2_with fail
  refine(Ei (Sg.ops x) _ _ S _ (F.out.below hb1) t A1).mono ?_;rintro e N ⟨J,rfl,hs,hb2⟩;have j:Below w.heap.size w G:=B0
  have bel:=j.trans (hb2.mono j.size);rcases hs with rfl|⟨D,K⟩
  .go_wp2_with fail
   go_ret
   exact⟨_,rfl,.inl rfl,bel⟩
  .have y:decide (J<0)=false:=dF A1
   go_wp2_with fail
   go_ret
   exact⟨_,rfl,.inr ⟨D,by unfold sgW;omega⟩,bel⟩
set_option maxHeartbeats 400000 in
theorem AW(xs:RV Int)(w:World)(v u:Value)(h:At w Any (iu xs) v)(g:At w Any (iu xs) u):
  Calls Tryz.prog 157 #[v,u] w λe w'=>e= .returned (.bool true)/\Below w.heap.size w w':=by
 obtain⟨A,c,rfl,M,hc⟩:=cz h;obtain⟨N,O,rfl,D,E⟩:=cz g;have F:((xs.length:Int) !=(xs.length:Int))=false:=C3
 go_enter Tryz.func157,Tryz.ntmps157
 go_wp2_with fail
 go_loopw [5] (λi wr=>∃k:Nat,k<=xs.length/\i= .int .i64 k/\Below w.heap.size w wr) (λi _=>xs.length-(intOf i).toNat)
 case atStart=>exact⟨0,N9 _,rfl,Below.refl _ _⟩
 case round=>
  obtain⟨k,hk,rfl,hb⟩:=hrel;by_cases hlt:k<xs.length
  .obtain⟨b,off,x,rfl,_,G,H,d,_⟩:=yk (h.below hb) hlt;obtain⟨P,j,y,rfl,_,t,I,B,_⟩:=yk (g.below hb) hlt;obtain rfl:x=y:=Qi
   have K:(k:Int)<(xs.length:Int):=A1
   have L:(x !=x)=false:=C3
   clear d B
   go_wp2
   go_quiet (fail)
   go_wp2
   go_roundw
   case rel=>exact⟨k+1,A1,by go_num,below_drewN hb _⟩
   case measure=>simp[intOf];omega
  .go_wp2_with fail
   go_ret
   exact⟨rfl,hb⟩
set_option maxHeartbeats 400000 in
theorem sT(xs:RV Z)(w:World)(v u:Value)(h:At w Any (strs xs) v)(g:At w Any (strs xs) u):
  Calls Tryz.prog 49 #[v,u] w λe w'=>e= .returned (.bool true)/\Below w.heap.size w w':=by
 obtain⟨A,c,rfl,M,hc⟩:=au h;obtain⟨N,O,rfl,D,E⟩:=au g;have F:((xs.length:Int) !=(xs.length:Int))=false:=C3
 go_enter Tryz.func49,Tryz.ntmps49
 go_wp2_with fail
 go_loopw [5] (λi wr=>∃k:Nat,k<=xs.length/\i= .int .i64 k/\Below w.heap.size w wr) (λi _=>xs.length-(intOf i).toNat)
 case atStart=>exact⟨0,N9 _,rfl,Below.refl _ _⟩
 case round=>
  obtain⟨k,hk,rfl,hb⟩:=hrel;by_cases hlt:k<xs.length
  .obtain⟨b,off,x,rfl,_,G,H,_,d⟩:=nb (h.below hb) hlt;obtain⟨P,j,y,rfl,_,t,I,_,B⟩:=nb (g.below hb) hlt;obtain rfl:x=y:=Qi
   have K:(k:Int)<(xs.length:Int):=A1
   have L:=kB x;clear d B
   go_wp2
   go_quiet (fail)
   go_wp2
   go_roundw
   case rel=>exact⟨k+1,A1,by go_num,below_drewN hb _⟩
   case measure=>simp[intOf];omega
  .go_wp2_with fail
   go_ret
   exact⟨rfl,hb⟩
theorem DI(x:Sb)(w:World):Calls Tryz.prog 81 #[.agg #[.int .i64 (Sb.low x),.int .i64 (Sb.bK x)],.agg #[.int .i64 (Sb.low x),.int .i64 (Sb.bK x)]] w λe w'=>e= .returned (.bool true)/\Below w.heap.size w w':=by
 have d:(Sb.low x !=Sb.low x)=false:=C3
 have h:(Sb.bK x !=Sb.bK x)=false:=C3
 go_enter Tryz.func81,Tryz.ntmps81
 go_wp2_with fail
 go_ret
 exact⟨rfl,B0⟩
set_option maxHeartbeats 1000000 in
theorem An(xs:RV Sb)(w:World)(v u:Value)(h:At w Any (ak xs) v)(g:At w Any (ak xs) u):
  Calls Tryz.prog 50 #[v,u] w λe w'=>e= .returned (.bool true)/\Below w.heap.size w w':=by
 obtain⟨A,c,rfl,N,hc⟩:=au h;obtain⟨O,P,rfl,F,G⟩:=au g;have H:((xs.length:Int) !=(xs.length:Int))=false:=C3
 go_enter Tryz.func50,Tryz.ntmps50
 go_wp2_with fail
 go_loopw [5] (λi wr=>∃k:Nat,k<=xs.length/\i= .int .i64 k/\Below w.heap.size w wr) (λi _=>xs.length-(intOf i).toNat)
 case atStart=>exact⟨0,N9 _,rfl,Below.refl _ _⟩
 case round=>
  obtain⟨k,hk,rfl,hb⟩:=hrel;by_cases hlt:k<xs.length
  .obtain⟨b,off,x,rfl,_,t,I,c1,_,C⟩:=qH (h.below hb) hlt;obtain⟨B,d,y,rfl,_,j,J,K,_,D⟩:=qH (g.below hb) hlt;obtain rfl:x=y:=by have L:=C.out;have E:=D.out;rw[L]at E;injection E
   have M:(k:Int)<(xs.length:Int):=A1
   have Q:=hb.size;clear C D
   go_wp2_with fail
   go_region_held3 (λw'=>w'.cell? ⟨b,off+k*2,none⟩=some (.int .i64 (Sb.low x))/\w'.cell? ⟨b,off+k*2+1,none⟩=some (.int .i64 (Sb.bK x))/\w'.cell? ⟨B,d+k*2,none⟩=some (.int .i64 (Sb.low x))/\w'.cell? ⟨B,d+k*2+1,none⟩=some (.int .i64 (Sb.bK x))) (go_keep)
    (first|(go_at_call 81;refine(DI x _).mono ?_;rintro e R ⟨rfl,hb1⟩;have q0:=(hb1.cell (p:=⟨b,off+k*2,none⟩) t).trans I;have q1:=(hb1.cell (p:=⟨b,off+k*2+1,none⟩) t).trans c1;have S:=(hb1.cell (p:=⟨B,d+k*2,none⟩) j).trans J;have T:=(hb1.cell (p:=⟨B,d+k*2+1,none⟩) j).trans K))
   go_wp2_with fail
   go_roundw
   case rel=>exact⟨k+1,A1,by go_num,B0⟩
   case measure=>simp[intOf];omega
  .go_wp2_with fail
   go_ret
   exact⟨rfl,hb⟩
theorem Aj(x:Dc)(w:World)(v u:Value)(h:At w Any (iu (Dc.ac x)) v)(g:At w Any (iu (Dc.ac x)) u):Calls Tryz.prog 117 #[.agg #[v,.int .i64 (Dc.result x)],.agg #[u,.int .i64 (Dc.result x)]] w λe w'=>e= .returned (.bool true)/\Below w.heap.size w w':=by
 obtain⟨A,c,rfl,B,hc⟩:=cz h;obtain⟨C,D,rfl,d,j⟩:=cz g;have E:(Dc.result x !=Dc.result x)=false:=C3
 go_enter Tryz.func117,Tryz.ntmps117
 go_wp2_with fail
 refine(AW (Dc.ac x) _ _ _ ((h.alloc _).alloc _) ((g.alloc _).alloc _)).mono ?_;rintro e F ⟨rfl,hb1⟩;obtain⟨t,y⟩:=tI hb1
 go_wp2_with fail
 go_ret
 exact⟨rfl,B0⟩
set_option maxHeartbeats 1000000 in
theorem xl(xs:RV Dc)(w:World)(v u:Value)(h:At w Any (lu xs) v)(g:At w Any (lu xs) u):
  Calls Tryz.prog 82 #[v,u] w λe w'=>e= .returned (.bool true)/\Below w.heap.size w w':=by
 obtain⟨A,c,rfl,Q,hc⟩:=au h;obtain⟨R,S,rfl,G,H⟩:=au g;have I:((xs.length:Int) !=(xs.length:Int))=false:=C3
 go_enter Tryz.func82,Tryz.ntmps82
 go_wp2_with fail
 go_loopw [5] (λi wr=>∃k:Nat,k<=xs.length/\i= .int .i64 k/\Below w.heap.size w wr) (λi _=>xs.length-(intOf i).toNat)
 case atStart=>exact⟨0,N9 _,rfl,Below.refl _ _⟩
 case round=>
  obtain⟨k,hk,rfl,hb⟩:=hrel;by_cases hlt:k<xs.length
  .obtain⟨b,off,x,z,rfl,_,t,J,K,c1,_,D⟩:=na (h.below hb) hlt;obtain⟨B,d,y,L,rfl,_,j,M,C,N,_,E⟩:=na (g.below hb) hlt;obtain rfl:x=y:=by have O:=D.out;have F:=E.out;rw[O]at F;injection F
   have P:(k:Int)<(xs.length:Int):=A1
   have T:=hb.size;clear D E
   go_wp2_with fail
   go_region_held3 (λw'=>w'.cell? ⟨b,off+k*2,none⟩=some (z)/\w'.cell? ⟨b,off+k*2+1,none⟩=some (.int .i64 (Dc.result x))/\w'.cell? ⟨B,d+k*2,none⟩=some (L)/\w'.cell? ⟨B,d+k*2+1,none⟩=some (.int .i64 (Dc.result x))) (go_keep)
    (first|(go_at_call 117;refine(Aj x _ _ _ K.drew C.drew).mono ?_;rintro e U ⟨rfl,hb1⟩;have q0:=(hb1.cell (p:=⟨b,off+k*2,none⟩) t).trans J;have q1:=(hb1.cell (p:=⟨b,off+k*2+1,none⟩) t).trans c1;have V:=(hb1.cell (p:=⟨B,d+k*2,none⟩) j).trans M;have W:=(hb1.cell (p:=⟨B,d+k*2+1,none⟩) j).trans N))
   go_wp2_with fail
   go_roundw
   case rel=>exact⟨k+1,A1,by go_num,B0⟩
   case measure=>simp[intOf];omega
  .go_wp2_with fail
   go_ret
   exact⟨rfl,hb⟩
set_option maxHeartbeats 400000 in
theorem GF(x:Opr)(w:World)(v u:Value)(h:At w Any (lu (Opr.aC x)) v)(g:At w Any (lu (Opr.aC x)) u):Calls Tryz.prog 51 #[.agg #[.string (Opr.ae x),v,.bool (Opr.aA x),.bool (Opr.comm x),.int .i64 (Opr.aE x)],.agg #[.string (Opr.ae x),u,.bool (Opr.aA x),.bool (Opr.comm x),.int .i64 (Opr.aE x)]] w λe w'=>e= .returned (.bool true)/\Below w.heap.size w w':=by
 obtain⟨A,c,rfl,B,hc⟩:=au h;obtain⟨C,D,rfl,d,j⟩:=au g;have E:=kB (Opr.ae x);have F:(Opr.aA x !=Opr.aA x)=false:=C3
 have G:(Opr.comm x !=Opr.comm x)=false:=C3
 have H:(Opr.aE x !=Opr.aE x)=false:=C3
 go_enter Tryz.func51,Tryz.ntmps51
 go_wp2_with fail
 refine(xl (Opr.aC x) _ _ _ ((h.alloc _).alloc _) ((g.alloc _).alloc _)).mono ?_;rintro e I ⟨rfl,hb1⟩;obtain⟨t,y⟩:=tI hb1
 go_wp2_with fail
 go_ret
 exact⟨rfl,B0⟩
set_option maxHeartbeats 1000000 in
theorem Dy(xs:RV Opr)(w:World)(v u:Value)(h:At w Any (iP xs) v)(g:At w Any (iP xs) u):
  Calls Tryz.prog 25 #[v,u] w λe w'=>e= .returned (.bool true)/\Below w.heap.size w w':=by
 obtain⟨A,c,rfl,R,hc⟩:=au h;obtain⟨S,T,rfl,G,H⟩:=au g;have I:((xs.length:Int) !=(xs.length:Int))=false:=C3
 go_enter Tryz.func25,Tryz.ntmps25
 go_wp2_with fail
 go_loopw [5] (λi wr=>∃k:Nat,k<=xs.length/\i= .int .i64 k/\Below w.heap.size w wr) (λi _=>xs.length-(intOf i).toNat)
 case atStart=>exact⟨0,N9 _,rfl,Below.refl _ _⟩
 case round=>
  obtain⟨k,hk,rfl,hb⟩:=hrel;by_cases hlt:k<xs.length
  .obtain⟨b,off,x,z,rfl,_,t,J,c1,K,c2,c3,c4,_,D⟩:=mZ (h.below hb) hlt;obtain⟨B,d,y,L,rfl,_,j,M,N,C,d2,O,d4,_,E⟩:=mZ (g.below hb) hlt;obtain rfl:x=y:=by have P:=D.out;have F:=E.out;rw[P]at F;injection F
   have Q:(k:Int)<(xs.length:Int):=A1
   have U:=hb.size;clear D E
   go_wp2_with fail
   go_region_held3 (λw'=>w'.cell? ⟨b,off+k*5,none⟩=some (.string (Opr.ae x))/\w'.cell? ⟨b,off+k*5+1,none⟩=some (z)/\w'.cell? ⟨b,off+k*5+2,none⟩=some (.bool (Opr.aA x))/\w'.cell? ⟨b,off+k*5+3,none⟩=some (.bool (Opr.comm x))/\w'.cell? ⟨b,off+k*5+4,none⟩=some (.int .i64 (Opr.aE x))/\w'.cell? ⟨B,d+k*5,none⟩=some (.string (Opr.ae x))/\w'.cell? ⟨B,d+k*5+1,none⟩=some (L)/\w'.cell? ⟨B,d+k*5+2,none⟩=some (.bool (Opr.aA x))/\w'.cell? ⟨B,d+k*5+3,none⟩=some (.bool (Opr.comm x))/\w'.cell? ⟨B,d+k*5+4,none⟩=some (.int .i64 (Opr.aE x))) (go_keep)
    (first|(go_at_call 51;refine(GF x _ _ _ K.drew C.drew).mono ?_;rintro e V ⟨rfl,hb1⟩;have q0:=(hb1.cell (p:=⟨b,off+k*5,none⟩) t).trans J;have q1:=(hb1.cell (p:=⟨b,off+k*5+1,none⟩) t).trans c1;have q2:=(hb1.cell (p:=⟨b,off+k*5+2,none⟩) t).trans c2;have q3:=(hb1.cell (p:=⟨b,off+k*5+3,none⟩) t).trans c3;have q4:=(hb1.cell (p:=⟨b,off+k*5+4,none⟩) t).trans c4;have W:=(hb1.cell (p:=⟨B,d+k*5,none⟩) j).trans M;have X:=(hb1.cell (p:=⟨B,d+k*5+1,none⟩) j).trans N;have Y:=(hb1.cell (p:=⟨B,d+k*5+2,none⟩) j).trans d2;have Z:=(hb1.cell (p:=⟨B,d+k*5+3,none⟩) j).trans O;have p4:=(hb1.cell (p:=⟨B,d+k*5+4,none⟩) j).trans d4))
   go_wp2_with fail
   go_roundw
   case rel=>exact⟨k+1,A1,by go_num,B0⟩
   case measure=>simp[intOf];omega
  .go_wp2_with fail
   go_ret
   exact⟨rfl,hb⟩
theorem xR(x:So)(w:World)(v u y C:Value)(h:At w Any (strs (So.ah x)) v)(k:At w Any (ak (So.ak x)) u)(h':At w Any (strs (So.ah x)) y)(k':At w Any (ak (So.ak x)) C):Calls Tryz.prog 24 #[.agg #[v,u],.agg #[y,C]] w λe w'=>e= .returned (.bool true)/\Below w.heap.size w w':=by
 obtain⟨A,c,rfl,P,hc⟩:=au h;obtain⟨B,d,rfl,hm,hd⟩:=au k;obtain⟨D,E,rfl,H,I⟩:=au h';obtain⟨F,G,rfl,J,K⟩:=au k';have L:=Lib.hid ((k.alloc (.cells #[.slice A (So.ah x).length c,.slice B (So.ak x).length d] 40)).alloc (.cells #[.slice D (So.ah x).length E,.slice F (So.ak x).length G] 40));have t:=Lib.hid ((k'.alloc (.cells #[.slice A (So.ah x).length c,.slice B (So.ak x).length d] 40)).alloc (.cells #[.slice D (So.ah x).length E,.slice F (So.ak x).length G] 40))
 go_enter Tryz.func24,Tryz.ntmps24
 go_wp2_with fail
 refine(sT (So.ah x) _ _ _ ((h.alloc _).alloc _) ((h'.alloc _).alloc _)).mono ?_;rintro e M ⟨rfl,hb1⟩;obtain⟨N,O⟩:=tI hb1;have j:Below w.heap.size w M:=B0
 go_wp2_with fail
 refine(An (So.ak x) _ _ _ (L.out.below hb1) (t.out.below hb1)).mono ?_;rintro e Q ⟨rfl,hb2⟩;have bel:=j.trans (hb2.mono j.size)
 go_wp2_with fail
 go_ret
 exact⟨rfl,bel⟩
set_option maxHeartbeats 400000 in
theorem p7(x:Sg)(w:World)(v u z E F G:Value)(h:At w Any (strs (So.ah (Sg.ai x))) v)(k:At w Any (ak (So.ak (Sg.ai x))) u)(l:At w Any (iP (Sg.ops x)) z)
  (h':At w Any (strs (So.ah (Sg.ai x))) E) (k':At w Any (ak (So.ak (Sg.ai x))) F) (l':At w Any (iP (Sg.ops x)) G):Calls Tryz.prog 9 #[.agg #[v,u,z],.agg #[E,F,G]] w λe w'=>e= .returned (.bool true)/\Below w.heap.size w w':=by
 obtain⟨A,c,rfl,Z,hc⟩:=au h;obtain⟨B,d,rfl,hm,hd⟩:=au k;obtain⟨C,f,rfl,hp,hf⟩:=au l;obtain⟨K,L,rfl,M,N⟩:=au h';obtain⟨O,P,rfl,Q,R⟩:=au k';obtain⟨S,T,rfl,U,V⟩:=au l';obtain⟨H,t⟩:∃o,o=Obj.cells #[.slice A (So.ah (Sg.ai x)).length c,.slice B (So.ak (Sg.ai x)).length d,.slice C (Sg.ops x).length f] 43:=⟨_,rfl⟩;obtain⟨I,y⟩:∃o,o=Obj.cells #[.slice K (So.ah (Sg.ai x)).length L,.slice O (So.ak (Sg.ai x)).length P,.slice S (Sg.ops x).length T] 43:=⟨_,rfl⟩;have J:=Lib.hid ((l.alloc H).alloc I);have D:=Lib.hid ((l'.alloc H).alloc I);rw[t,y]at J D;clear t y
 go_enter Tryz.func9,Tryz.ntmps9
 go_wp2_with fail
 refine(xR (Sg.ai x) _ _ _ _ _ ((h.alloc _).alloc _) ((k.alloc _).alloc _) ((h'.alloc _).alloc _) ((k'.alloc _).alloc _)).mono ?_;rintro e W ⟨rfl,hb1⟩;obtain⟨X,Y⟩:=tI hb1;have j:Below w.heap.size w W:=B0
 go_wp2_with fail
 refine(Dy (Sg.ops x) _ _ _ (J.out.below hb1) (D.out.below hb1)).mono ?_;rintro e w2 ⟨rfl,hb2⟩;have bel:=j.trans (hb2.mono j.size)
 go_wp2_with fail
 go_ret
 exact⟨rfl,bel⟩
structure iy(w:World)(S:Nat->Prop)(s:Sg)(v u z:Value):Prop where
 n:At w S (strs (So.ah (Sg.ai s))) v
 b:At w S (ak (So.ak (Sg.ai s))) u
 o:At w S (iP (Sg.ops s)) z
section
variable {w w' : World} {S S' : Nat → Prop} {s : Sg} {v u z : Value}
theorem iy.below(h:iy w S s v u z)(hb:Below w.heap.size w w'):iy w' S s v u z:=⟨h.n.below hb,h.b.below hb,h.o.below hb⟩
theorem iy.bU(h:iy w S s v u z)(hL:bt S' w w')(hd:∀b,S b->¬S' b):iy w' S s v u z:=⟨h.n.bU hL hd,h.b.bU hL hd,h.o.bU hL hd⟩
theorem iy.mono(h:iy w S s v u z)(hS:∀b,S b->b<w.heap.size->S' b):iy w S' s v u z:=⟨h.n.mono hS,h.b.mono hS,h.o.mono hS⟩
theorem iy.any(h:iy w S s v u z):iy w Any s v u z:=h.mono λ_ _ _=>trivial
theorem iy.old(h:iy w S s v u z):iy w (Old w) s v u z:=h.mono λ_ _ h=>h
end
structure MA(s:Sg)(v u z:Value)(w W:World):Prop where
 bel:Below w.heap.size w W
 lo:w.heap.size+1<=W.heap.size
 gB:Blk W w.heap.size 28 #[v,u,z]
 at_:iy W (Old w) s v u z
section
variable {s : Sg} {v u z : Value} {w W W' : World} {S : Nat → Prop}
theorem MA.next(h:MA s v u z w W)(hb:Below W.heap.size W W'):MA s v u z w W':=⟨h.bel.trans (hb.mono h.bel.size),NS h.lo hb.size,h.gB.next hb,h.at_.below hb⟩
theorem MA.alloc(h:MA s v u z w W)(o:Obj):MA s v u z w (W.alloc o):=h.next ((Below.refl _ _).alloc (N4 _) _)
theorem MA.drew(h:MA s v u z w W):MA s v u z w W.drew:=h.next (Below.refl _ _).drew
theorem MA.bU(h:MA s v u z w W)(hL:bt S W W')(hS:∀b,S b->w.heap.size+1<=b):MA s v u z w W':=
 ⟨h.bel.trans (hL.below (NS A1 h.lo) λb hb=>by have:=hS b hb;omega),NS h.lo hL.size,hL.blk h.gB λq=>by have:=hS _ q;omega,h.at_.bU hL λb hb hs=>by have:=hS b hs;simp only[Old]at hb;omega⟩
end
structure MX(s:Sg)(p:Nat)(v u z:Value)(S:Nat->Prop)(W:World):Prop where
 gB:Blk W p 43 #[v,u,z]
 soft:cR S W
 at_:iy W S s v u z
section
variable {s : Sg} {p : Nat} {v u z : Value} {W W' : World} {S : Nat → Prop}
theorem MX.next(h:MX s p v u z S W)(hb:Below W.heap.size W W'):MX s p v u z S W':=⟨h.gB.next hb,h.soft.bU (bt.eS (S:=S) hb),h.at_.below hb⟩
theorem MX.drew(h:MX s p v u z S W):MX s p v u z S W.drew:=h.next (Below.refl _ _).drew
theorem MX.alloc(h:MX s p v u z S W)(o:Obj):MX s p v u z S (W.alloc o):=h.next ((Below.refl _ _).alloc (N4 _) _)
end
end Go.Proofs.YtigoabbppmdfpaaGreat
