/- merged -/
import Derived.Room.Entries
import Derived.Test.YtkegnipofloejaaGreatDoorZRowMT2

namespace Go.Proofs.YtkegnipofloejaaGreatDoor.Abs
open Go.RowKit
section
variable {P : Program} {E : Cx} {K : Env → au → Prop} {L : Env} {h h0 l : au} {d n : Nat} {ty : TypeId} {pos : String} {af : Array Edge} {gd : Y (Nat × Bool)} {tb : Tbl} {o : Oper}
theorem pY(I:Nat->Prop)(w:World):cu I I w w.drew:=⟨λ_ h=>h,λ_ _=>rfl⟩
theorem xY(w:World)(t tx ty e:TypeId)(i:TypeInfo)(C:P.underlying t=some (.slice e))(hi:P.info? e=some i)(b off d j:Nat)(x:Value)(n:Nat)(h:Td Value)(hs:Src P i.size tx x n h w)
  (v:d+n<=j) {cur:Array Value} {B:TypeId} (D:w.heap[b]? =some (.cells cur B (0,0))) (y:off+d*i.size+h.length<=cur.size):
  (Builtin.append_ #[t,tx] ty #[.slice (some ⟨b,off,none⟩) d j,x]).run P w= .ok (.slice (some ⟨b,off,none⟩) (d+n) j)
   (w.setRow b (cur.toList.take (off+d*i.size)++h++cur.toList.drop (off+d*i.size+h.length)).toArray):=by
 have A:=run_storeCells_at (P:=P) b (off+d*i.size) B h 0 cur w D Ry hs.one;simp only[PF]at A;rcases hs.kind with⟨E,hk⟩|hk<;>simp[Builtin.append_,run_underlying C,run_underlying hk,sizeOf,typeInfo,hi,hs.len,v,hs.cells,dC,A]
section
variable {w j B:ElI}{s off id k k':Nat}{es ns:Td (Td V)}{x y:Operand}{t:TypeId}{i:TyI}{vs e:Td V}
theorem OR.shift{ι:Td Inf}{I:Nat->Prop}{w:World}{inf:Inf}(h:OR ι I w inf (.row s es))(ho:off<=es.length):OR ι I w ⟨inf.block,inf.base+off*s,inf.cap-off,s⟩ (.row s (es.drop off)):=by
 obtain⟨cur,t,h1,h2,d,h4,y,v,A⟩:=h;refine⟨cur,t,h1,rfl,?_,by show inf.cap-off<=_;omega,A4,λe he=>v e (PT he),λk hk j B=> ?_⟩
 .show cur.size=inf.base+off*s+(inf.cap-off)*s;rw[d];have:inf.cap*s=off*s+(inf.cap-off)*s:=by rw[<-Pn];congr 1;omega
  omega
 .grind
theorem d7{tx:TypeId}(a:Act)(w:World):(execOp a.eval ⟨some d,.call ⟨.builtin .append,#[x,y],#[t,tx]⟩,ty,pos,af,gd⟩).run P w=((Builtin.append_ #[t,tx] ty #[a.eval x,a.eval y]).run P w).andThen λv w'=>.ok (.value v) w':=by
 simp[execOp,resolve,invoke,builtin]
def o8(P:Program)(E:Cx)(L:Env)(h:au)(s:Nat)(tx:TypeId)(y:Operand)(ns:Td (Td V)):Prop:=∀ι I a w,Rel E L h ι I a w->∃d,Src P s tx (a.eval y) ns.length d w/\VRs ι I w ns.flatten d/\(∀e∈ns,e.length=s)
theorem fP(d:cm P tb){tx:TypeId}{v:V}(hex:du tb tx=some j)(t:ev L y=some (.one v))(w:eA h s v=some ns):o8 P E L h s tx y ns:=
 λ_ _ _ _ r=>Ec (P:=P) r (bI d hex).1 (r.ev t).bi w
theorem J5(b:UInt8):dM (.int .u8 b.toNat):=by
 have:=b.toNat_lt;show (Lit.int .u8 b.toNat).wf=true;exact Sy
def pK(b:Z):Td (Td V):=b.data.toList.map λc=>[V.lit (.int .u8 c.toNat)]
theorem D8(d:cm P tb){tx:TypeId}{b:Z}(v:tb.lookup tx=some i)(hi:i.desc= .string)(A:ev L y=some (.one (.lit (.string b)))):o8 P E L h 1 tx y (pK b):=λι I a w r=>by
 obtain⟨e,_⟩:=(r.ev A).lit;obtain⟨_,_,h2,_⟩:=co (d tx i v);rw[hi]at h2;have hl:(pK b).length=b.size:=by
  unfold pK;rw[OV,PL];rfl
 have B:(pK b).flatten=(b.data.toList.map λc=>V.lit (.int .u8 c.toNat)):=by
  unfold pK
  induction b.data.toList with
  |nil=>rfl
  |cons c l C=>simp[C]
 refine⟨byteCells b,?_,?_,λe he=>by obtain⟨c,_,rfl⟩:=List.mem_map.1 he;rfl⟩
 .rw[hl,e];exact Src.ofString w h2 b
 .rw[B];refine⟨by simp[byteCells],λj D=> ?_⟩;have t:j<b.data.toList.length:=by simpa using D
  refine⟨.int .u8 b.data.toList[j].toNat,by unfold byteCells;rw[P8,O0 t];rfl,?_⟩;rw[P5];refine .lit ?_;exact J5 _
theorem tH(htb:cm P tb){tx:TypeId}{len:Nat}{J:ElI}(hx:ev L x=some (.one (.own id off len)))(he:du tb t=some J)(hne:J.zero≠[])(hz:J.zero.length=J.size)(hs:J.size=s)
  (ho:h[id]?=some (some (.row s es))) (G:off+len=es.length) (T:o8 P E L h s tx y ns) (hbnd:len+ns.length<=4294967296) (U:Nat.ble J.bytes 4096=true) (hn:d<E.n)
  (hk:K ((d,.one (.own h.length 0 (len+ns.length)))::L) (h.set id none++[some (.row s (es.drop off++ns))])):ar P ⟨some d,.call ⟨.builtin .append,#[x,y],#[t,tx]⟩,ty,pos,af,gd⟩ E K L h:=by
 refine jM rfl hn (λLf ι I a w rF r=> ?_) hk;have U:=O1 U
 obtain⟨C,z,g1,g2,g3,g4,g5⟩:=nq htb he hne hz;obtain⟨u1,u2,_⟩:=bI htb he;have hpos:0<s:=by rw[<-hs,<-hz];exact List.length_pos_iff.2 hne
 obtain⟨inf,H,hor,hsz⟩:=r.row ho;obtain⟨B,hsrc,W,X⟩:=T ι I a w r;have D:Src P C.size tx (a.eval y) ns.length B w:=by rw[g4,hs];exact hsrc
 have Z:B.length=ns.length*s:=by rw[W.1,cn X]
 obtain⟨cur,tt,pr,cs,rest,f1,f2,f3,f4,f5,f6,f7,f8,f9,M⟩:=hor.flat;have hcsz:cur.size=inf.base+(es.length*s+rest.length):=by rw[<-PL,f7];simp[f8,M]
 -- growing
 have grow:∀(A:Y Addr) (cap:Nat),a.eval x= .slice A len cap->cap<len+ns.length->(Builtin.firstCells C.size len (.slice A len cap)).run P w.drew= .ok (cs.drop (off*s)).toArray w.drew->
   ∃c w' ι' I',(execOp a.eval ⟨some d,.call ⟨.builtin .append,#[x,y],#[t,tx]⟩,ty,pos,af,gd⟩).run P w= .ok (.value c) w'/\Rel E (L++Lf) (h.set id none++[some (.row s (es.drop off++ns))]) ι' I' a w'/\AR ι' I' w' (.one (.own h.length 0 (len+ns.length))) c:=by
  intro A cap hc hlt hold;have hnc:=Room.nextslicecap_le' hlt;have N:Builtin.nextslicecap (len+ns.length) cap*C.bytes<=281474976710656:=by
   rw[g5];exact P3 (Nat.mul_le_mul (P3 hnc (Nat.mul_le_mul_left 2 hbnd)) U) A3
  have F:=run_append_grow_src (P:=P) w t tx ty J.t C z u1 g1 g2 A len cap (cs.drop (off*s)) hold (a.eval y) ns.length B D hlt A0 N;obtain⟨gc,hgc⟩:∃gc,gc=grownCap w (len+ns.length) cap J.t:=⟨_,rfl⟩;rw[<-hgc]at F;have hg1:len+ns.length<=gc:=hgc▸grownCap_ge w _ _ _;have hg2:gc<=9223372036854775807:=by
   have:=grownCap_le_maxLen w (len+ns.length) cap J.t Rt;unfold maxLen at this;omega
  have hzs:z.cells.size=s:=by rw[<-hs,<-hz,<-g3];simp
  have hdl:(cs.drop (off*s)).length=len*s:=by
   rw[Pi,M,<-G,Pn];omega
  have hr2:=((rF.kill id).drew).new ((cs.drop (off*s)++B).toArray++Builtin.zeroCells z.cells (gc-(len+ns.length))) J.t s gc (es.drop off++ns) (by
    rw[Array.size_append,size_zeroCells,Q5,OJ,hdl,Z,hzs,<-Pn,<-Pn];congr 1;omega) hg2 A4 (λe he=>by
    rcases List.mem_append.1 he with he|he
    .exact f6 e (PT he)
    .exact X e he) (cs:=cs.drop (off*s)++B) (rest:=(Builtin.zeroCells z.cells (gc-(len+ns.length))).toList) A1 (by
    have e1:(es.drop off++ns).flatten=es.flatten.drop (off*s)++ns.flatten:=by
     rw[Qu]
     congr 1
     have h1:es.flatten=(es.take off).flatten++(es.drop off).flatten:=by rw[<-Qu,PB]
     have h2:(es.take off).flatten.length=off*s:=by
      rw[cn (s:=s) (λe he=>f6 e (O6 he)),Pd,Nat.min_eq_left A0]
     rw[h1,<-h2];simp
    rw[e1];exact((f9.drop _).append W).aH (bj.refl _) (pY I w))
  refine⟨.slice (some ⟨w.heap.size,0,none⟩) (len+ns.length) gc,_,_,_,?_,hr2,?_⟩
  .rw[d7,hc,F];rfl
  .refine .one ?_;have hi:(ι++[(⟨w.heap.size,0,gc,s⟩:Inf)])[h.length]? =some ⟨w.heap.size,0,gc,s⟩:=I3
   simpa using VR.own (off:=0) (len:=len+ns.length) (c:=gc) hi hg1 A1 hg2
 have hvx:=(r.ev hx).bi;generalize hc:a.eval x=c at hvx;cases hvx with
 | @hU _ _ _ oo inf' O hcap=>
  have hm0:0<ns.length\/ns.length=0:=A0
  rcases hm0 with hm0|hm0
  .exact grow _ _ hc A0 (by
    have:cs.drop (off*s)=[]:=by apply Pt;rw[M,<-G];simp
    rw[this];exact run_firstCells_some w.drew _ 0 _ 0 0 [] A1 (λj v h=>F1))
  ·-- nothing is appended
   have e0:ns=[]:=nZ hm0;subst e0;have:inf'=inf:=by rw[H]at O;cases O;rfl
   subst this;have hn0:B=[]:=nZ (by simpa using Z);subst hn0;have F:(Builtin.append_ #[t,tx] ty #[.slice (some ⟨inf'.block,oo,none⟩) 0 0,a.eval y]).run P w= .ok (.slice (some ⟨inf'.block,oo,none⟩) 0 0) w:=by
    have hl0:=D.len;have hc0:=D.cells;simp at hl0 hc0;rcases D.kind with⟨e',hk⟩|hk<;>simp[Builtin.append_,run_underlying u1,run_underlying hk,sizeOf,typeInfo,g1,hl0,hc0,storeCells]
   have hsh:=hor.shift (off:=off) A0;refine⟨_,w,ι++[(⟨inf'.block,inf'.base+off*s,inf'.cap-off,s⟩:Inf)],I,by rw[d7,hc,F];rfl,?_,?_⟩
   .have:=rF.rename (inf':=⟨inf'.block,inf'.base+off*s,inf'.cap-off,s⟩) ho H rfl hsh;rw[OO];exact this
   .have hi:(ι++[(⟨inf'.block,inf'.base+off*s,inf'.cap-off,s⟩:Inf)])[h.length]? =some ⟨inf'.block,inf'.base+off*s,inf'.cap-off,s⟩:=I3
    have:=VR.hU (I:=I) (w:=w) (off:=0) (o:=oo) hi (by show 0=inf'.cap-off;omega);exact .one (by simpa using this)
 | @own _ _ _ _ cap inf' O hle hcap hm=>
  have:inf'=inf:=by rw[H]at O;cases O;rfl
  subst this;by_cases Q:len+ns.length<=cap
  .have N:inf'.base+off*inf'.size+len*C.size+B.length<=cur.size:=by
    rw[f3,f2,g4,hs,Z];have h1:(off+(len+ns.length))*s<=inf'.cap*s:=Qp _ A0;rw[Pn,Pn]at h1;omega
   have F:=xY (P:=P) w t tx ty J.t C u1 g1 inf'.block (inf'.base+off*inf'.size) len cap (a.eval y) ns.length B D Q f1 N;have hpos2:inf'.base+off*inf'.size+len*C.size=pr.length+cs.length:=by
    rw[f8,M,f2,g4,hs,<-G,Pn];omega
   rw[hpos2]at F
   have S:=rF.set (s':=s) (es':=es++ns) (cur:=(cur.toList.take (pr.length+cs.length)++B++cur.toList.drop (pr.length+cs.length+B.length)).toArray) (t:=tt) (w':=w.setRow inf'.block (cur.toList.take (pr.length+cs.length)++B++cur.toList.drop (pr.length+cs.length+B.length)).toArray)
    (pr:=pr) (cs:=cs++B) (rest:=rest.drop B.length) ho H (setRow_heap w _ cur _ tt _ f1) (fun b hb=>setRow_other w _ b _ hb) rfl rfl rfl A1 f2 (by
     have hcl:cur.toList.length=cur.size:=A1
     rw[Q5,OJ,OJ,Pd,Pi,hcl];omega) f4 A4 (λe he=>by
     rcases List.mem_append.1 he with he|he
     .exact f6 e he
     .exact X e he) (by
     simp only[f7];rw[Pk,Qn,Q2,Q2];simp) f8 (by
     rw[Qu];exact f9.append W)
   have ho2:(h.set id (some (.row s (es++ns))))[id]? =some (some (.row s (es++ns))):=by
    rw[sS (gI.1 ho).1]
   have hor2:=S.heap.obj id _ _ ho2 H;have hsh:=hor2.shift (off:=off) A4;have R:=S.rename (inf':=⟨inf'.block,inf'.base+off*s,inf'.cap-off,s⟩) ho2 H rfl hsh;rw[P4]at R;have e2:(es++ns).drop off=es.drop off++ns:=by rw[Qh A0]
   rw[e2]at R;refine⟨_,_,_,I,by rw[d7,hc,F];rfl,R,?_⟩;have hi:(ι++[(⟨inf'.block,inf'.base+off*s,inf'.cap-off,s⟩:Inf)])[h.length]? =some ⟨inf'.block,inf'.base+off*s,inf'.cap-off,s⟩:=I3
   have:=VR.own (I:=I) (w:=w.setRow inf'.block (cur.toList.take (pr.length+cs.length)++B++cur.toList.drop (pr.length+cs.length+B.length)).toArray) (off:=0) (len:=len+ns.length) (c:=cap) hi Q (by show 0+cap=inf'.cap-off;omega) hm;rw[f2];exact .one (by simpa using this)
  .refine grow _ _ hc A0 ?_;have hdl:(cs.drop (off*s)).length=len*s:=by rw[Pi,M,<-G,Pn];omega
   refine run_firstCells_some w.drew _ len _ len cap (cs.drop (off*s)) (by rw[hdl,g4,hs]) (λj u hu=> ?_);rw[dC];rw[Qe]at hu;have hj:off*s+j<cs.length:=(gI.1 hu).1;show w.cell? _=_;simp only[World.cell?,f1];have e1:inf'.base+off*inf'.size+j=pr.length+(off*s+j):=by rw[f8,f2];omega
   simp only[Option.isSome_none,Qz,if_false];rw[e1,<-Ql,f7,aR A0,PY,aL hj];exact hu
theorem rI(A:cm P tb){tx:TypeId}{len:Nat}{v:V}{C:ElI}(G:ev L x=some (.one (.own id off len)))(he:du tb t=some w)(hex:du tb tx=some C)(D:w.zero≠[])(H:w.zero.length=w.size)(hs:w.size=s)
  (ho:h[id]?=some (some (.row s es))) (j:off+len=es.length) (I:ev L y=some (.one v)) (J:eA h s v=some ns) (B:len+ns.length<=4294967296) (F:Nat.ble w.bytes 4096=true) (M:d<E.n)
  (hk:K ((d,.one (.own h.length 0 (len+ns.length)))::L) (h.set id none++[some (.row s (es.drop off++ns))])):ar P ⟨some d,.call ⟨.builtin .append,#[x,y],#[t,tx]⟩,ty,pos,af,gd⟩ E K L h:=
 tH A G he D H hs ho j (fP A hex I J) B F M hk
theorem jS(G:cm P tb){tx:TypeId}{A:ElI}(Z:ev L x=some (.one (.lit (.slice none 0 0))))(he:du tb t=some A)(R:A.zero≠[])(X:A.zero.length=A.size)(hs:A.size=s)
  (C:o8 P E L h s tx y ns) (hm0:0<ns.length) (Y:ns.length<=4294967296) (D:Nat.ble A.bytes 4096=true) (hn:d<E.n)
  (hk:K ((d,.one (.own h.length 0 ns.length))::L) (h++[some (.row s ns)])):ar P ⟨some d,.call ⟨.builtin .append,#[x,y],#[t,tx]⟩,ty,pos,af,gd⟩ E K L h:=by
 refine jM rfl hn (λLf ι I a w rF r=> ?_) hk;have D:=O1 D
 obtain⟨v,z,g1,g2,g3,g4,g5⟩:=nq G he R X;obtain⟨u1,u2,_⟩:=bI G he;obtain⟨j,H,J,M⟩:=C ι I a w r;have F:Src P v.size tx (a.eval y) ns.length j w:=by rw[g4,hs];exact H
 have S:j.length=ns.length*s:=by rw[J.1,cn M]
 have hc:=(r.ev Z).lit.1;have T:=Room.nextslicecap_le' (need:=0+ns.length) (old:=0) A0;have N:Builtin.nextslicecap (0+ns.length) 0*v.bytes<=281474976710656:=by
  rw[g5];exact P3 (Nat.mul_le_mul (P3 T (Nat.mul_le_mul_left 2 (A0:0+ns.length<=4294967296))) D) A3
 have B:=run_append_grow_src (P:=P) w t tx ty A.t v z u1 g1 g2 none 0 0 [] (run_firstCells_none w.drew _ 0 0 0) (a.eval y) ns.length j F A0 A0 N;obtain⟨gc,O⟩:∃gc,gc=grownCap w (0+ns.length) 0 A.t:=⟨_,rfl⟩;rw[<-O]at B;have hg1:0+ns.length<=gc:=O▸grownCap_ge w _ _ _;have Q:gc<=9223372036854775807:=by
  have:=grownCap_le_maxLen w (0+ns.length) 0 A.t Rt;unfold maxLen at this;omega
 have U:z.cells.size=s:=by rw[<-hs,<-X,<-g3];simp
 have W:=(rF.drew).new (([]++j).toArray++Builtin.zeroCells z.cells (gc-(0+ns.length))) A.t s gc ns (by
   rw[Array.size_append,size_zeroCells,Q5,Pm,S,U,<-Pn];congr 1;omega) Q A0 M (cs:=j) (rest:=(Builtin.zeroCells z.cells (gc-(0+ns.length))).toList) A1 (J.aH (bj.refl _) (pY I w))
 refine⟨.slice (some ⟨w.heap.size,0,none⟩) (0+ns.length) gc,_,_,_,?_,W,?_⟩
 .rw[d7,hc,B];rfl
 .refine .one ?_;have hi:(ι++[(⟨w.heap.size,0,gc,s⟩:Inf)])[h.length]? =some ⟨w.heap.size,0,gc,s⟩:=I3
  simpa using VR.own (off:=0) (len:=ns.length) (c:=gc) hi A0 A1 Q
theorem tO(w:cm P tb){tx:TypeId}{v:V}(F:ev L x=some (.one (.lit (.slice none 0 0))))(he:du tb t=some j)(hex:du tb tx=some B)(C:j.zero≠[])(G:j.zero.length=j.size)(hs:j.size=s)
  (H:ev L y=some (.one v)) (I:eA h s v=some ns) (hm0:0<ns.length) (A:ns.length<=4294967296) (D:Nat.ble j.bytes 4096=true) (J:d<E.n)
  (hk:K ((d,.one (.own h.length 0 ns.length))::L) (h++[some (.row s ns)])):ar P ⟨some d,.call ⟨.builtin .append,#[x,y],#[t,tx]⟩,ty,pos,af,gd⟩ E K L h:=
 jS w F he C G hs (fP w hex H I) hm0 A D J hk
theorem gH(d:h0.length=n):(h0++l).length=n+l.length:=I1
theorem cd(d:h0.length=n){x:Y Ob}(hk:l[k]? =some x):(h0++l)[n+k]? =some x:=G1
theorem fS(d:h0.length=n){x:Y Ob}:(h0++l).set (n+k) x=h0++l.set k x:=G1
theorem ba(c:Nat){x:Y Ob}(hc:h0[c]? =some x):(h0++l)[c]? =some x:=G1
theorem kP(c:Nat){x y:Y Ob}(hc:h0[c]? =some x):(h0++l).set c y=h0.set c y++l:=G1
theorem qh(B:cm P tb)(h:h0.length=n){tx:TypeId}{len:Nat}{v:V}{C:ElI}(G:ev L x=some (.one (.own (n+k) off len)))(he:du tb t=some w)(hex:du tb tx=some C)(D:w.zero≠[])(H:w.zero.length=w.size)(hs:w.size=s)
  (ho:l[k]?=some (some (.row s es))) (j:off+len=es.length) (I:ev L y=some (.one v)) (J:eA (h0++l) s v=some ns) (A:len+ns.length<=4294967296) (F:Nat.ble w.bytes 4096=true) (M:d<E.n)
  (hk:K ((d,.one (.own (n+l.length) 0 (len+ns.length)))::L) (h0++(l.set k none++[some (.row s (es.drop off++ns))]))):ar P ⟨some d,.call ⟨.builtin .append,#[x,y],#[t,tx]⟩,ty,pos,af,gd⟩ E K L (h0++l):=by
 refine rI B G he hex D H hs (cd h ho) j I J A F M ?_;rw[gH h,fS h,O5];exact hk
theorem kw(w:cm P tb)(A:h0.length=n){tx:TypeId}{v:V}{h:ElI}(F:ev L x=some (.one (.lit (.slice none 0 0))))(he:du tb t=some h)(hex:du tb tx=some B)(C:h.zero≠[])(G:h.zero.length=h.size)(hs:h.size=s)
  (H:ev L y=some (.one v)) (I:eA (h0++l) s v=some ns) (hm0:0<ns.length) (j:ns.length<=4294967296) (D:Nat.ble h.bytes 4096=true) (J:d<E.n)
  (hk:K ((d,.one (.own (n+l.length) 0 ns.length))::L) (h0++(l++[some (.row s ns)]))):ar P ⟨some d,.call ⟨.builtin .append,#[x,y],#[t,tx]⟩,ty,pos,af,gd⟩ E K L (h0++l):=by
 refine tO w F he hex C G hs H I hm0 j D J ?_;rw[gH A,O5];exact hk
theorem Kk(h:h0.length=n){v:AV}(j:ev L x=some v)(w:v.cells=some vs)(y:d<E.n)(hk:K ((d,.one (.ptr (n+l.length) 0 0))::L) (h0++(l++[some (.row vs.length [vs])]))):ar P ⟨some d,.box t x,ty,pos,af,gd⟩ E K L (h0++l):=by
 refine Gj j w y ?_;rw[gH h,O5];exact hk
theorem jT(h:cm P tb)(j:h0.length=n)(w:tb.lookup t=some i)(y:i.zero.all da=true)(v:i.zero≠[])(A:d<E.n)(hk:K ((d,.one (.ptr (n+l.length) 0 0))::L) (h0++(l++[some (.row i.zero.length [i.zero.map V.lit])]))):
  ar P ⟨some d,.alloc t,ty,pos,af,gd⟩ E K L (h0++l):=by
 refine yH h w y v A ?_;rw[gH j,O5];exact hk
theorem bH(h:cm P tb)(d:h0.length=n){o':Nat}{v:AV}(A:ev L x=some (.one (.ptr (n+k') k o')))(B:ev L y=some v)(C:v.cells=some vs)(D:tb.lookup t=some i)(j:i.size=vs.length)
  (ho:l[k']?=some (some (.row s es))) (he:es[k]? =some e) (w:o'+vs.length<=s) (hk:K L (h0++l.set k' (some (.row s (es.set k (bB e o' vs)))))):ar P ⟨none,.store t x y,ty,pos,af,gd⟩ E K L (h0++l):=by
 refine oU h A B C D j (cd d ho) he w ?_;rw[fS d];exact hk
theorem aB(h:cm P tb)(j:h0.length=n){o:Nat}{v:AV}(w:ev L x=some (.one (.ptr (n+k') k o)))(y:tb.lookup t=some i)(ho:l[k']? =some (some (.row s es)))(he:es[k]? =some e)
  (hl:oB i.agg i.size (e.drop o)=some v) (A:d<E.n) (hk:K ((d,v)::L) (h0++l)):ar P ⟨some d,.load t x,ty,pos,af,gd⟩ E K L (h0++l):=
 nY h w y (cd j ho) he hl A hk
theorem qa(j:cm P tb)(v:h0.length=n){len:Nat}{k:IntKind}{i:Int}{A:ElI}(B:ev L x=some (.one (.own (n+k') off len)))(C:ev L y=some (.one (.lit (.int k i))))(he:du tb t=some A)
  (ho:l[k']?=some (some (.row s es))) (hs:A.size=s) (h:0<s) (hi:0<=i) (w:i<len) (D:d<E.n) (hk:K ((d,.one (.ptr (n+k') (off+i.toNat) 0))::L) (h0++l)):ar P ⟨some d,.indexAddr t x y,ty,pos,af,gd⟩ E K L (h0++l):=
 iu j B C he (cd v ho) hs h hi w D hk
end
end
section
variable {P : Program} {E : Cx} {K : Env → au → Prop} {L : Env} {h h0 l : au} {d n : Nat} {ty : TypeId} {pos : String} {af : Array Edge} {gd : Y (Nat × Bool)} {tb : Tbl} {o : Oper}
section
variable {t:TypeId}{x:Operand}{c k s:Nat}{es:Td (Td V)}{e:Td V}{i:TyI}
theorem eF(h:cm P tb){o:Nat}{v:AV}(hc:h0[c]? =some (some (.row s es)))(j:ev L x=some (.one (.ptr c k o)))(w:tb.lookup t=some i)(he:es[k]? =some e)
  (hl:oB i.agg i.size (e.drop o)=some v) (y:d<E.n) (hk:K ((d,v)::L) (h0++l)):ar P ⟨some d,.load t x,ty,pos,af,gd⟩ E K L (h0++l):=
 nY h j w (ba c hc) he hl y hk
theorem j5(d:cm P tb){y:Operand}{o':Nat}{vs:Td V}{v:AV}(hc:h0[c]? =some (some (.row s es)))(w:ev L x=some (.one (.ptr c k o')))(A:ev L y=some v)(B:v.cells=some vs)(C:tb.lookup t=some i)(h:i.size=vs.length)
  (he:es[k]?=some e) (j:o'+vs.length<=s) (hk:K L (h0.set c (some (.row s (es.set k (bB e o' vs))))++l)):ar P ⟨none,.store t x y,ty,pos,af,gd⟩ E K L (h0++l):=by
 refine oU d w A B C h (ba c hc) he j ?_;rw[kP c hc];exact hk
theorem bL{f:Nat}{ae:Td Operand}{tys:Array TypeId}{xs:Td AV}{v:AV}{h2:au}(j:evs L ae=some xs)(t:d<E.n)(w:Fn P f xs h (λr h'=>r=v/\h'=h2))(hk:K ((d,v)::L) h2):
  ar P ⟨some d,.call ⟨.value (.func f),ae.toArray,tys⟩,ty,pos,af,gd⟩ E K L h:=
 BR j t w λ_ _ ⟨e1,e2⟩=>by subst e1 e2;exact hk
end
end
def V.fz(id s:Nat)(es:Td (Td V)):V->V
 | .own i off len=>if i=id then .imm s ((es.drop off).take len)else .own i off len
 |v=>v
def AV.fz(id s:Nat)(es:Td (Td V)):AV->AV
 | .one v=>.one (v.fz id s es)
 | .agg vs=>.agg (vs.map (V.fz id s es))
 |v=>v
section
variable {P : Program} {E : Cx} {L : Env} {h : au} {ι : Td Inf} {I : Nat → Prop} {a : Act} {w : World}
section
variable {id s n t sm ty k:Nat}{o:Ob}{inf:Inf}{es em:Td (Td V)}{h0 l g:au}{fn:Func}{e:Td V}{i:TyI}{r:AV}{R:AV->au->Prop}
theorem Rel.freeze(r:Rel E L h ι I a w)(ho:h[id]? =some (some o))(j:ι[id]? =some inf):Rel E L (h.set id none) ι (λb=>I b\/b=inf.block) a w:=by
 have hk:cu I (λb=>I b\/b=inf.block) w w:=⟨λ_ h=>.inl h,λ_ _=>rfl⟩;have A:inf.block<w.heap.size:=by
  have:=r.heap.obj id o inf ho j;cases o with
  |row s es=>exact SH
  |map kvs=>exact SI
 have sub:∀{i:Nat}{x:Ob},(h.set id none)[i]? =some (some x)->h[i]? =some (some x)/\i≠id:=λx=>G1
 exact
 { bc :=fun t v B=>let⟨c,x,y⟩:=r.bc t v B;⟨c,x,y.aH (bj.refl _) hk⟩
   heap:=⟨QK,λi x f p q=>(r.heap.obj i x f (sub p).1 q).aH (bj.refl _) hk rfl,λi x f p q d=>by
     rcases d with d|d
     · exact r.heap.off i x f (sub p).1 q d
     · exact(sub p).2 (r.heap.inj i id x o f inf (sub p).1 ho q j d),λi C x D f F p G q H e=>r.heap.inj i C x D f F (sub p).1 (sub G).1 q H e,λb c t d=>.inl (r.heap.sub b c t d)⟩
   imm:=λb d=>by
     rcases d with d|d
     · exact r.imm b d
     · omega
   cw:=λb d=>by
     rcases d with d|d
     · exact r.cw b d
     · rw[d];exact .inr (r.cA id o inf ho j)
   pre:=r.pre
   os:=r.os
   tape:=r.tape
   output:=r.output
   grown:=r.grown
   frame:=r.frame
   cA:=λi x f p q=>r.cA i x f (sub p).1 q
   defers:=r.defers
   size:=r.size}
theorem VR.fz(r:Rel E L h ι I a w)(ho:h[id]? =some (some (.row s es)))(d:ι[id]? =some inf)(C:es.all (·.all V.flat)=true){v:V}{c:Value}
  (B:VR I w ι v c) (D:∀off len,v= .own id off len->off+len<=es.length):VR (λb=>I b\/b=inf.block) w ι (v.fz id s es) c:=by
 have hk:cu I (λb=>I b\/b=inf.block) w w:=⟨λ_ h=>.inl h,λ_ _=>rfl⟩;by_cases hex:∃off len,v= .own id off len
 .obtain⟨off,len,rfl⟩:=hex;have F:=D off len rfl;have he:eA h s (.own id off len)=some ((es.drop off).take len):=by simp[eA,ho,F]
  have hl:((es.drop off).take len).length=len:=A4
  obtain⟨cur,t,J,N,P,f4,Q,f6,K⟩:=r.heap.obj id _ _ ho d;simp only[V.fz,if_true];cases B with
  |hU hi y=>rw[List.take_zero];exact .eE A1
  | @own _ _ _ _ cap inf' hi O y hm=>
   have:inf'=inf:=by rw[d]at hi;cases hi;rfl
   subst this
   have:=VR.imm (ι:=ι) (I:=λb=>I b\/b=inf'.block) (w:=w) (s:=s) (b:=inf'.block) (off:=inf'.base+off*inf'.size) (c:=cap) (es:=(es.drop off).take len) (f:=λk j=>cur.getD (inf'.base+((off+k)*s+j)) undef)
    (fun e he=>f6 e (PT (O6 he))) A0 hm (.inr rfl) (fun k j hk A=>by
     rw[hl]at hk;obtain⟨u,G,_⟩:=K (off+k) A0 j (by rw[f6 _ (gM _)];exact A);have e1:inf'.base+off*inf'.size+(k*s+j)=inf'.base+((off+k)*s+j):=by rw[N,Pn];omega
     rw[e1];simp[World.cell?,J,G]) (λk hk j A=>by
     simp only[PW,Px]at A ⊢;rw[hl]at hk;obtain⟨u,G,B⟩:=K (off+k) A0 j A;simp[G];have H:=aT.1 (aT.1 C _ (gM (A0:off+k<es.length))) _ (gM A);exact(VR.free (ι':=[]) H B).aH (bj.refl _) ⟨λ_ h=>.inl h,λ_ _=>rfl⟩) (.inr λM=>by
     rw[J]at M;exact r.heap.off id _ _ ho d (r.heap.sub _ _ _ M))
   rw[hl]at this;exact this
 .have e:v.fz id s es=v:=by
   cases v with
   | own i off len=>
    simp only[V.fz];rw[O2 (λe=>hex ⟨off,len,by rw[e]⟩)]
   |_=>rfl
  rw[e];exact B.aH (bj.refl _) hk
def V.fits(id n:Nat):V->Bool
 | .own i off len=>if i=id then decide (off+len<=n)else true
 |_=>true
def AV.fits(id n:Nat):AV->Bool
 | .one v=>v.fits id n
 | .agg vs=>vs.all (V.fits id n)
 |_=>true
theorem pe{v:V}(h:v.fits id n=true):∀off len,v= .own id off len->off+len<=n:=λoff len e=>by subst e;simpa [V.fits]using h
theorem Rel.freezeSlot(r:Rel E L h ι I a w){v:AV}(ho:h[id]? =some (some (.row s es)))(C:es.all (·.all V.flat)=true)(J:L.lookup t=some v)(d:v.fits id es.length=true):
  ∃K,Rel E ((t,v.fz id s es)::L) (h.set id none) ι K a w:=by
 obtain⟨inf,y,_,_⟩:=r.row ho;refine⟨λb=>I b\/b=inf.block,?_⟩;have H:=r.freeze ho y;obtain⟨c,h1,h2⟩:=r.bc t v J;have hk:cu I (λb=>I b\/b=inf.block) w w:=⟨λ_ h=>.inl h,λ_ _=>rfl⟩;have O:AR ι (λb=>I b\/b=inf.block) w (v.fz id s es) c:=by
  cases h2 with
  |one M=>exact .one (VR.fz r ho y C M (pe (by simpa only[AV.fits]using d)))
  | agg hl A D=>
   have B:=aT.1 (show _=true by simpa only[AV.fits]using d)
   exact .agg QG (λj F=>A j Rz) (λj F=>by
    simp only[P5];exact VR.fz r ho y C (D j Rz) (pe (B _ (gM _))))
  |tup hl A D=>exact(AR.tup hl A D).aH (bj.refl _) hk
  |dead=>exact .dead
 refine {H with bc:=λu x G=> ?_};rw[OK]at G;by_cases e:u=t
 .grind
 .have N:(u==t)=false:=R1
  rw[N]at G;exact H.bc u x G
theorem br.freeze(t id:Nat){v:AV}(ho:h[id]? =some (some (.row s es)))(j:es.all (·.all V.flat)=true)(w:L.lookup t=some v)(d:v.fits id es.length=true):br L h ((t,v.fz id s es)::L) (h.set id none):=
 ⟨λ_ _ _ _ _ r=>r.freezeSlot ho j w d⟩
theorem Rel.jl(r:Rel E L h ι I a w){m:Nat}(ho:h[id]? =some (some (.row s es)))(hm:h[m]? =some (some (.row sm em)))(H:m≠id)(J:es.all (·.all V.flat)=true)(A:em.all (·.all (V.fits id es.length))=true):
  ∃O,Rel E L ((h.set id none).set m (some (.row sm (em.map (·.map (V.fz id s es)))))) ι O a w:=by
 obtain⟨inf,B,_,_⟩:=r.row ho;obtain⟨C,D,F,_⟩:=r.row hm;refine⟨λb=>I b\/b=inf.block,?_⟩;have v:=r.freeze ho B;have G:(h.set id none)[m]? =some (some (.row sm em)):=by rw[sN (λe=>H e.symm)];exact hm
 obtain⟨cur,t,P,Q,R,f4,S,f6,T⟩:=F;refine {v with heap:=⟨QK,λi x f p q=> ?_,λi x f p q=> ?_,λi U x x' f W p X q Y e=> ?_,λb c t Z=>.inl (r.heap.sub b c t Z)⟩,cA:=λi x f p q=> ?_}
 .rcases cD p with⟨e,d,_⟩|⟨e,d⟩
  .subst e;cases d;have:f=C:=by rw[D]at q;cases q;rfl
   subst this;refine⟨cur,t,P,Q,R,f4,by simpa using S,λe he=> ?_,λk hk j K=> ?_⟩
   .grind
   .simp only[P5,OV]at hk K ⊢;obtain⟨u,hu,hv⟩:=T k hk j K;have M:=aT.1 (aT.1 A _ (gM hk)) _ (gM K);exact⟨u,hu,VR.fz r ho B J hv (pe M)⟩
  .exact v.heap.obj i x f d q
 .rcases cD p with⟨e,d,_⟩|⟨e,d⟩
  .subst e;exact v.heap.off i _ f G q
  .exact v.heap.off i x f d q
 .have low:∀{i:Nat}{x:Ob},((h.set id none).set m (some (.row sm (em.map (·.map (V.fz id s es))))))[i]? =some (some x)->∃y,(h.set id none)[i]? =some (some y):=λ{i x} p=>G1
  obtain⟨y,hy⟩:=low p;obtain⟨y',N⟩:=low X;exact v.heap.inj i U y y' f W hy N q Y e
 .rcases cD p with⟨e,d,_⟩|⟨e,d⟩
  .subst e;exact v.cA i _ f G q
  .exact v.cA i x f d q
theorem br.jl(id m:Nat)(ho:h[id]? =some (some (.row s es)))(hm:h[m]? =some (some (.row sm em)))(j:m≠id)(t:es.all (·.all V.flat)=true)(d:em.all (·.all (V.fits id es.length))=true):
  br L h L ((h.set id none).set m (some (.row sm (em.map (·.map (V.fz id s es)))))):=⟨λ_ _ _ _ _ r=>r.jl ho hm j t d⟩
theorem br.freezeL(d:h0.length=n)(t k:Nat){v:AV}(ho:l[k]? =some (some (.row s es)))(j:es.all (·.all V.flat)=true)(w:L.lookup t=some v)(h:v.fits (n+k) es.length=true):br L (h0++l) ((t,v.fz (n+k) s es)::L) (h0++l.set k none):=by
 rw[<-fS d];exact br.freeze t (n+k) (cd d ho) j w h
theorem br.freezeCellL(d:h0.length=n)(k m:Nat)(ho:l[k]? =some (some (.row s es)))(hm:l[m]? =some (some (.row sm em)))(t:m≠k)(j:es.all (·.all V.flat)=true)(h:em.all (·.all (V.fits (n+k) es.length))=true):
  br L (h0++l) L (h0++(l.set k none).set m (some (.row sm (em.map (·.map (V.fz (n+k) s es)))))):=by
 rw[<-fS d,<-fS d];exact br.jl (n+k) (n+m) (cd d ho) (cd d hm) A0 j h
theorem FE{tb:Tbl}(j:cm P tb){o:Nat}{v:AV}(D:fn.results= #[.cell t ty])(F:L.lookup t=some (.one (.ptr id k o)))(G:tb.lookup ty=some i)(ho:h[id]? =some (some (.row s es)))(he:es[k]? =some e)
  (hl:oB i.agg i.size (e.drop o)=some v):Res P fn L h v:=
 ⟨fun E ι I a w r=>by
  obtain⟨inf,y,A,B⟩:=r.row ho;obtain⟨c,h1,h2⟩:=r.bc t _ F;have H:=h2.bi;cases H with
  | @ptr _ _ _ _ inf' hi=>
   have:inf'=inf:=by rw[y]at hi;cases hi;rfl
   subst this;obtain⟨f,d,C⟩:=A.cells he (o:=o);rw[<-B]at d;obtain⟨c,g1,J⟩:=oV j G d C hl;refine⟨c,?_,J⟩;simp[results,D,h1,asAddr,g1]⟩
theorem vg{tb:Tbl}(d:cm P tb)(h:h0.length=n){k' o:Nat}{v:AV}(j:fn.results= #[.cell t ty])(w:L.lookup t=some (.one (.ptr (n+k') k o)))(y:tb.lookup ty=some i)(ho:l[k']? =some (some (.row s es)))(he:es[k]? =some e)
  (hl:oB i.agg i.size (e.drop o)=some v):Res P fn L (h0++l) v:=FE d j w y (cd h ho) he hl
theorem xK{h1:au}(d:r.flat=true)(hl:h1.length=h0.length)(ho:∀(id:Nat)(o:Ob),h1[id]? =some (some o)->h0[id]? =some (some o)\/o.flat=true)(h:R r h1):Out h0 R r (h1++g):=.inr ⟨h1,g,rfl,d,A0,ho,h⟩
theorem j9(d:r.flat=true)(j:R r h0):Out h0 R r (h0++g):=xK d rfl (λ_ _ h=>.inl h) j
theorem Cm{c:Nat}(d:r.flat=true)(ho:o.flat=true)(h:R r (h0.set c (some o))):Out h0 R r (h0.set c (some o)++g):=
 xK d A1 (λid x j=>by
  rcases cD j with⟨_,e,_⟩|⟨_,e⟩
  .cases e;exact .inr ho
  .exact .inl e) h
end
end
section
variable {P : Program} {E : Cx} {K : Env → au → Prop} {L : Env} {h0 l : au} {d d2 n : Nat} {ty ty2 : TypeId} {pos pos2 : String} {af af2 : Array Edge} {tb : Tbl} {ops : Array Oper} {rest : Td Oper}
theorem uR{h:au}{id s off len:Nat}{es:Td (Td V)}(ho:h[id]? =some (some (.row s es)))(d:off+len<=es.length):eA h s (.own id off len)=some ((es.drop off).take len):=by simp[eA,ho,d]
end
def uv(tmps:Array Value):ResultVar->Sem Value
 | .tmp t=>pure (tmps.getD t undef)
 | .cell a t=>do loadVar t (←asAddr (tmps.getD a undef))
structure FW(P:Program)(L:Env)(h:au)(rv:ResultVar)(v:AV):Prop where
 get:∀E ι I a w,Rel E L h ι I a w->∃c,(uv a.tmps rv).run P w= .ok c w/\AR ι I w v c
inductive ResL(P:Program)(L:Env)(h:au):List ResultVar->List AV->Prop
 |nil:ResL P L h [] []
 |cons {r:ResultVar} {v:AV} {rs:List ResultVar} {vs:List AV}:FW P L h r v->ResL P L h rs vs->ResL P L h (r::rs) (v::vs)
section
variable {P:Program}{L:Env}{h:au}{rs:Td ResultVar}{vs:Td AV}{t ty k o s:Nat}{es:Td (Td V)}{e:Td V}{i:TyI}{E:Cx}{c:Operand}{x y:Code}{K:Env->au->Prop}{af:Array Edge}{gd:Y (Nat×Bool)}{op:BinOp}{a b:Bool}
theorem ResL.run(k:ResL P L h rs vs){E ι I a w}(r:Rel E L h ι I a w):
  ∃cs:Td Value,(rs.mapM (uv a.tmps)).run P w= .ok cs w/\cs.length=vs.length/\∀j (d:j<vs.length),∃c,cs[j]? =some c/\AR ι I w vs[j] c:=by
 induction k with
 |nil=>exact⟨[],A1,rfl,λj d=>QR⟩
 | cons h1 _ t=>
  obtain⟨c,e1,e2⟩:=h1.get _ _ _ _ _ r;obtain⟨cs,e3,v,y⟩:=t;refine⟨c::cs,by simp[List.mapM_cons,e1,e3],by simp[v],λj d=> ?_⟩;cases j with
  |zero=>exact⟨c,rfl,e2⟩
  |succ j=>exact y j QO
theorem v8{fn:Func}(t:fn.results=rs.toArray)(h1:rs.length≠1)(k:ResL P L h rs vs):Res P fn L h (.tup vs):=
 ⟨fun E ι I a w r=>by
  obtain⟨cs,e1,e2,e3⟩:=k.run r;have bF:rs.length=vs.length:=by clear e1 e2 e3 h1 t;induction k with|nil=>rfl|cons _ _ v=>simp[v]
  refine⟨.tuple cs.toArray,?_,.tup (f:=λj=>(cs[j]?).getD undef) (by simpa using e2) (λj d=> ?_) (λj d=> ?_)⟩
  .have y:results fn a.tmps=(do let vs ←rs.toArray.mapM (uv a.tmps);pure (if h:vs.size=1 then vs[0]else .tuple vs)):=by
    unfold results;rw[t]
    congr 2
   rw[y];simp[e1];have:cs.length≠1:=A0
   simp[this]
  .obtain⟨c,g1,_⟩:=e3 j d;simp[g1]
  .obtain⟨c,g1,A⟩:=e3 j d;simpa [g1]using A⟩
theorem oT{v:AV}(d:L.lookup t=some v):FW P L h (.tmp t) v:=
 ⟨fun E ι I a w r=>by
  obtain⟨c,h1,h2⟩:=r.bc t v d;exact⟨c,by simp[uv,h1],h2⟩⟩
theorem ux{tb:Tbl}(j:cm P tb){id:Nat}{v:AV}(D:L.lookup t=some (.one (.ptr id k o)))(F:tb.lookup ty=some i)(ho:h[id]? =some (some (.row s es)))(he:es[k]? =some e)
  (hl:oB i.agg i.size (e.drop o)=some v):FW P L h (.cell t ty) v:=
 ⟨fun E ι I a w r=>by
  obtain⟨inf,y,A,B⟩:=r.row ho;obtain⟨c,h1,h2⟩:=r.bc t _ D;have G:=h2.bi;cases G with
  | @ptr _ _ _ _ inf' hi=>
   have:inf'=inf:=by rw[y]at hi;cases hi;rfl
   subst this;obtain⟨f,d,C⟩:=A.cells he (o:=o);rw[<-B]at d;obtain⟨c,g1,H⟩:=oV j F d C hl;refine⟨c,?_,H⟩;simp[uv,h1,asAddr,g1]⟩
theorem nu{tb:Tbl}(d:cm P tb){h0 l:au}{n:Nat}(h:h0.length=n){k':Nat}{v:AV}(j:L.lookup t=some (.one (.ptr (n+k') k o)))(w:tb.lookup ty=some i)(ho:l[k']? =some (some (.row s es)))(he:es[k]? =some e)
  (hl:oB i.agg i.size (e.drop o)=some v):FW P L (h0++l) (.cell t ty) v:=ux d j w (cd h ho) he hl
theorem n7{Q:Exit->Env->au->Prop}{h':au}{c:Code}(e:h=h')(d:aw P c E Q L h'):aw P c E Q L h:=e▸d
theorem jC{Q:Exit->Env->au->Prop}(J:Env->au->Prop)(h1:aw P x E (qz (λd h2=>∃L',Sub L' d/\J L' h2) Q) L h)(h2:∀L' h',J L' h'->aw P y E Q L' h'):aw P x E (qz (aw P y E Q) Q) L h:=
 gk (λe L h k=>by
  cases e with
  |normal=>obtain⟨L',hs,j⟩:=k;exact cB hs (h2 L' _ j)
  |_=>exact k) h1
def dg:BinOp->Bool->Bool->Bool
 | .eql,a,b=>a==b
 | .neq,a,b=> !(a==b)
 |_,_,_=>false
theorem JY{d:Nat}{ty:TypeId}{pos:String}{j t:TypeId}{x y:Operand}(ho:(op== .eql||op== .neq)=true)(v:P.underlying j=some .bool)
  (A:ev L x=some (.one (.lit (.bool a)))) (B:ev L y=some (.one (.lit (.bool b)))) (C:d<E.n) (hk:K ((d,.one (.lit (.bool (dg op a b))))::L) h):ar P ⟨some d,.binOp op j x y t,ty,pos,af,gd⟩ E K L h:=
 fB (c:=.bool (dg op a b)) A B A1 (λw=>by
  cases op<;>first
   |(cases ho;done)
   |(have e:=run_equalIn_bool w (Op.maxDepth-1) j a b v;rw[show Op.maxDepth-1+1=Op.maxDepth from rfl]at e;simp[binOp,Op.equal,e,dg])) (λ_ _=>trivial) C hk
theorem zJ{d:Nat}{ty:TypeId}{pos:String}{tb:Tbl}(j:cm P tb){t v:TypeId}{x y:Operand}(ho:(op== .eql||op== .neq)=true)(w:tb.lookup t=some i)(hd:i.desc= .bool)
  (A:ev L x=some (.one (.lit (.bool a)))) (B:ev L y=some (.one (.lit (.bool b)))) (C:d<E.n) (hk:K ((d,.one (.lit (.bool (dg op a b))))::L) h):ar P ⟨some d,.binOp op t x y v,ty,pos,af,gd⟩ E K L h:=by
 obtain⟨_,_,h2,_⟩:=co (j t i w);exact JY ho (by rw[h2,hd]) A B C hk
theorem iz{Q:Exit->Env->au->Prop}{t:Bool}(hc:ev L c=some (.one (.lit (.bool t))))(d:t=true)(j:aw P x E Q L h):aw P (.cond c x y) E Q L h:=
 dX hc (λ_=>j) (λe=>by rw[d]at e;cases e)
theorem cJ{Q:Exit->Env->au->Prop}{t:Bool}(hc:ev L c=some (.one (.lit (.bool t))))(d:t=false)(j:aw P y E Q L h):aw P (.cond c x y) E Q L h:=
 dX hc (λe=>by rw[d]at e;cases e) (λ_=>j)
end
section
variable {P : Program} {E : Cx} {K : Env → au → Prop} {L : Env} {h h0 l : au} {d n : Nat} {ty : TypeId} {pos : String} {af : Array Edge} {gd : Y (Nat × Bool)} {tb : Tbl} {o : Oper}
section
variable {w:World}{ι:Td Inf}{s c:Nat}{es:Td (Td V)}{t:TypeId}{x y hi:Operand}{kh B:IntKind}
theorem VR.clipCap{I:Nat->Prop}{A:Y Addr}{n:Nat}(h:VR I w ι (.di s es) (.slice A n c)):c=es.length:=by
 cases h with
 |kc=>rfl
 |di _ _ _ _ _=>rfl
theorem rB(M:cm P tb){tx:TypeId}{ns:Td (Td V)}{C:ElI}(hx:ev L x=some (.one (.di s es)))(he:du tb t=some C)(Y:C.zero≠[])(hz:C.zero.length=C.size)(hs:C.size=s)
  (F:o8 P E L h s tx y ns) (hm0:0<ns.length) (N:es.length+ns.length<=4294967296) (G:Nat.ble C.bytes 4096=true) (hn:d<E.n)
  (hk:K ((d,.one (.own h.length 0 (es.length+ns.length)))::L) (h++[some (.row s (es++ns))])):ar P ⟨some d,.call ⟨.builtin .append,#[x,y],#[t,tx]⟩,ty,pos,af,gd⟩ E K L h:=by
 refine jM rfl hn (λLf ι I a w rF r=> ?_) hk;have G:=O1 G
 obtain⟨B,z,g1,g2,g3,g4,g5⟩:=nq M he Y hz;obtain⟨u1,u2,_⟩:=bI M he;obtain⟨v,O,Q,R⟩:=F ι I a w r;have H:Src P B.size tx (a.eval y) ns.length v w:=by rw[g4,hs];exact O
 have Z:v.length=ns.length*s:=by rw[Q.1,cn R]
 have J:=(r.ev hx).bi;obtain⟨A,cap,cs,hc,h1,h2,h3,h4,X,h6⟩:=se (s:=s) (es:=es) r J (by simp[eA]);rw[hc]at J;have hcap:=J.clipCap;have S:(Builtin.firstCells B.size es.length (.slice A es.length cap)).run P w.drew= .ok cs.toArray w.drew:=by
  cases A with
  | none=>
   have:cs=[]:=by
    rcases h6 with rfl|⟨b,off,hA,_⟩
    .exact nZ (by simpa using X)
    .cases hA
   subst this;exact run_firstCells_none w.drew _ _ _ _
  | some ad=>
   refine run_firstCells_some w.drew _ _ _ _ _ cs (by rw[X,g4,hs]) (λj u hu=> ?_);rcases h6 with rfl|⟨b,off,hA,h7⟩
   .have:cs=[]:=nZ (by simpa using X);subst this;simp at hu
   .cases hA;rw[dC];exact h7 j u hu
 have hnc:=Room.nextslicecap_le' (need:=es.length+ns.length) (old:=cap) A0;have T:Builtin.nextslicecap (es.length+ns.length) cap*B.bytes<=281474976710656:=by
  rw[g5];exact P3 (Nat.mul_le_mul (P3 hnc (Nat.mul_le_mul_left 2 N)) G) A3
 have D:=run_append_grow_src (P:=P) w t tx ty C.t B z u1 g1 g2 A es.length cap cs S (a.eval y) ns.length v H A0 A0 T;obtain⟨gc,U⟩:∃gc,gc=grownCap w (es.length+ns.length) cap C.t:=⟨_,rfl⟩;rw[<-U]at D;have hg1:es.length+ns.length<=gc:=U▸grownCap_ge w _ _ _;have W:gc<=9223372036854775807:=by
  have:=grownCap_le_maxLen w (es.length+ns.length) cap C.t Rt;unfold maxLen at this;omega
 have hzs:z.cells.size=s:=by rw[<-hs,<-hz,<-g3];simp
 have hr2:=(rF.drew).new ((cs++v).toArray++Builtin.zeroCells z.cells (gc-(es.length+ns.length))) C.t s gc (es++ns) (by
   rw[Array.size_append,size_zeroCells,Q5,OJ,X,Z,hzs,<-Pn,<-Pn];congr 1;omega) W A4 (λe he=>by
   rcases List.mem_append.1 he with he|he
   .exact h3 e he
   .exact R e he) (cs:=cs++v) (rest:=(Builtin.zeroCells z.cells (gc-(es.length+ns.length))).toList) A1 (by
   rw[Qu];exact(h4.append Q).aH (bj.refl _) (pY I w))
 refine⟨.slice (some ⟨w.heap.size,0,none⟩) (es.length+ns.length) gc,_,_,_,?_,hr2,?_⟩
 .rw[d7,hc,D];rfl
 .refine .one ?_;have hi:(ι++[(⟨w.heap.size,0,gc,s⟩:Inf)])[h.length]? =some ⟨w.heap.size,0,gc,s⟩:=I3
  simpa using VR.own (off:=0) (len:=es.length+ns.length) (c:=gc) hi hg1 A1 W
theorem VR.clip{I:Nat->Prop}{A:Y Addr}(h:VR I w ι (.imm s es) (.slice A es.length c)):VR I w ι (.di s es) (.slice (if es.length=0 then A else A.map (·.add (0*s))) (es.length-0) (es.length-0)):=by
 by_cases h0:es.length=0
 .have:es=[]:=nZ h0;subst this;exact .kc
 .rw[O2 h0];cases h with
  |eE=>simp at h0
  | imm hs hc hm j d t v=>
   simp only[Pg,dC,Nat.zero_mul,PF,Nat.sub_zero];exact .di hs A0 j d t v
theorem KF(j:cm P tb){v:Operand}{y:ElI}(C:ev L x=some (.one (.imm s es)))(he:du tb t=some y)(hs:y.size=s)(D:0<s)(G:ev L hi=some (.one (.lit (.int kh es.length))))(hm:ev L v=some (.one (.lit (.int B es.length))))(H:d<E.n)
  (hk:K ((d,.one (.di s es))::L) h):ar P ⟨some d,.slice t x none (some hi) (some v),ty,pos,af,gd⟩ E K L h:=
 bO rfl H (λι I a w r=>by
  obtain⟨A,cap,e1,g1,N⟩:=(r.ev C).bi.oE;have F:=(r.ev C).bi;rw[e1]at F;obtain⟨u1,u2,_⟩:=bI j he;obtain⟨J,_⟩:=(r.ev G).lit;obtain⟨em,_⟩:=(r.ev hm).lit;have M:(Instr.sliceBounds true es.length cap none (some (.int kh es.length)) (some (.int B es.length))).run P w= .ok (0,es.length,es.length) w:=by
   simp[Instr.sliceBounds,Instr.sliceBound,asIntOf,g1]
  refine⟨_,?_,.one F.clip⟩;simp[execOp,Instr.sliceAt,Instr.slice,e1,J,em,run_underlying u1,M,cg u2 A0,hs]) hk
theorem AQ(v:cm P tb){A:ElI}(C:ev L x=some (.one (.lit (.slice none 0 0))))(he:du tb t=some A)(j:0<A.size)(D:ev L hi=some (.one (.lit (.int kh 0))))(hm:ev L y=some (.one (.lit (.int B 0))))(F:d<E.n)
  (hk:K ((d,.one (.lit (.slice none 0 0)))::L) h):ar P ⟨some d,.slice t x none (some hi) (some y),ty,pos,af,gd⟩ E K L h:=
 bO rfl F (λι I a w r=>by
  obtain⟨e1,_⟩:=(r.ev C).lit;obtain⟨u1,u2,_⟩:=bI v he;obtain⟨G,_⟩:=(r.ev D).lit;obtain⟨em,_⟩:=(r.ev hm).lit;have H:(Instr.sliceBounds true 0 0 none (some (.int kh 0)) (some (.int B 0))).run P w= .ok (0,0,0) w:=by
   simp[Instr.sliceBounds,Instr.sliceBound,asIntOf]
  refine⟨.slice none 0 0,?_,.one (.lit trivial)⟩;simp[execOp,Instr.sliceAt,Instr.slice,e1,G,em,run_underlying u1,H,cg u2 j]) hk
theorem Ej(zs:Td Int):∀r:Z,(zs.foldl (λr n=>r.push (UInt8.ofNat n.toNat)) r).size=r.size+zs.length:=by
 induction zs with
 |nil=>intro r;rfl
 |cons z zs d=>intro r;rw[PI,d,OP,ByteArray.size_push];omega
theorem ze(v:cm P tb){B dst:TypeId}{zs:Td Int}{G:ElI}{j:TyI}(H:ev L x=some (.one (.imm 1 (zs.map λn=>[V.lit (.int .u8 n)]))))(he:du tb B=some G)(C:P.underlying G.t=some (.int .u8))(hd:tb.lookup dst=some j)(O:j.desc= .string)(Q:d<E.n)
  (hk:K ((d,.one (.lit (.string (zs.foldl (λr n=>r.push (UInt8.ofNat n.toNat)) ByteArray.empty))))::L) h):ar P ⟨some d,.convert B dst x,ty,pos,af,gd⟩ E K L h:=
 bO     rfl Q (λι I a w r=>by
  obtain⟨A,cap,cs,hc,h1,h2,R,h4,S,t⟩:=se (s:=1) (es:=zs.map λn=>[V.lit (.int .u8 n)]) r (r.ev H).bi (by simp[eA]);obtain⟨u1,u2,_⟩:=bI v he;obtain⟨_,_,J,_⟩:=co (v dst j hd);rw[O]at J;have D:(zs.map λn=>[V.lit (.int .u8 n)]).flatten=zs.map λn=>V.lit (.int .u8 n):=by
   clear H hk hc h1 R h4 S t
   induction zs with
   |nil=>rfl
   |cons z zs T=>rw[Pz,PX,T];rfl
  rw[D]at h4;have F:cs=zs.map (Value.int .u8):=by
   apply Qq
   .rw[h4.1];simp
   .intro q q1 q2;obtain⟨u,v1,M⟩:=h4.2 q (by simpa using q2);rw[P5]at M;rw[O0 q1]at v1;have v1:=Pf v1;rw[P5];generalize cs[q]=y at v1;subst v1;cases M;rfl
  refine⟨.string (zs.foldl (λr n=>r.push (UInt8.ofNat n.toNat)) ByteArray.empty),?_,.one (.lit ?_)⟩
  .rw [OV] at hc;have key:(Conv.bytesToString (a.eval x)).run P w= .ok (.string (zs.foldl (λr n=>r.push (UInt8.ofNat n.toNat)) ByteArray.empty)) w:=by
    rw[hc];cases A with
    | none=>
     rcases t with t|⟨b,off,hA,_⟩
     .have:zs=[]:=QD
      subst this;simp[Conv.bytesToString]
     .cases hA
    | some N=>
     refine run_bytesToString w N _ cap zs ?_;have:=run_loadCells_list (P:=P) w N cs (λq u C=>by
      rcases t with t|⟨b,off,hA,U⟩
      .grind
      .cases hA;rw[dC];exact U q u C)
     rw[F,OV]at this;exact this
   simp only[execOp,convert,Sem.run_bind,run_underlying u1,run_underlying J,Result.andThen_ok];rw[hc]at key ⊢;simp only[Sem.run_bind,run_underlying C,Result.andThen_ok,key,Sem.run_pure]
  .show (zs.foldl (λr n=>r.push (UInt8.ofNat n.toNat)) ByteArray.empty).size<=maxLen;rw[Ej];have:(ByteArray.empty).size=0:=rfl;simp at h1;unfold maxLen;omega) hk
end
end
theorem HR.nil(I:Nat->Prop)(w:World)(hs:∀b c t,Bt b (some (.cells c t (0,0)))->I b):HR [] I w []:=⟨rfl,λ_ _ _ h=>F1,λ_ _ _ h=>F1,λ_ _ _ _ _ _ h=>F1,hs⟩
theorem lM(b:Nat):¬ei [] [] b:=λ⟨_,_,_,h,_⟩=>F1
section
variable {ι:Td Inf}{w:World}{h:au}{id:Nat}
theorem HR.blk{I:Nat->Prop}(d:HR ι I w h){o:Ob}{inf:Inf}(x:h[id]? =some (some o))(y:ι[id]? =some inf):inf.block<w.heap.size:=by
 have:=d.obj id o inf x y;cases o with
 |row s es=>exact SH
 |map kvs=>obtain⟨en,j,h1,_⟩:=this;exact SP
theorem Fn.frame{P:Program}{f:FuncId}{xs:Td AV}{C:AV}(G:Fn P f xs [] (fun r h'=>r=C/\h'=[]))(J:AV.fZ xs=true)(K:C.flat=true)(h:au):Fn P f xs h (fun r h'=>r=C/\h'=h):=by
 refine⟨G.1,λw I ι cs L v E hA=>(G.2 w I [] cs ⟨L.1,lM 0⟩ (HR.nil I w v.sub) E ⟨hA.1,λj H=>let⟨c,h1,h2⟩:=hA.2 j H;⟨c,h1,h2.free (AV.flats_mem J _ (gM H))⟩⟩).mono ?_⟩;rintro e w' ⟨r,h',ι',B,c,⟨rfl,rfl⟩,rfl,D⟩;have A:∀b,b<w.heap.size->w'.heap[b]? =w.heap[b]? :=λb d=>D.frame b d (lM b);have hk:cu I (λb=>I b\/B b) w w':=⟨λ_ h=>.inl h,λb d=>by rw[A b (E b d)]⟩;have F:cu B (λb=>I b\/B b) w' w':=⟨λ_ h=>.inr h,λ_ _=>rfl⟩
 refine ⟨r, h,ι,fun b=>I b\/B b,c,⟨rfl,rfl⟩,rfl,
  { res := (D.res.free K).aH (bj.refl _) F
    heap:=⟨v.len,λid o inf x y=>(v.obj id o inf x y).aH (bj.refl _) hk (A _ (v.blk x y)),λid o inf x y d=> ?_,v.inj,λb c t d=>.inl (v.sub b c t d)⟩
    imm:=λb d=>by
      rcases d with d|d
      · have:=E b d;have:=D.grown;omega
      · exact D.imm b d
    cw:=λb d=>by
      rcases d with d|d
      · exact .inl d
      · rcases D.cw b d with d|d|d
        · exact .inl d
        · exact(lM b d).elim
        · exact .inr (.inr d)
    pre:=bj.refl _
    os:=D.os
    tape:=D.tape
    output:=D.output
    grown:=D.grown
    frame:=λb d _=>A b d
    cA:=λid o inf x y=>.inl ⟨id,o,inf,x,y,rfl⟩}⟩
 rcases d with d|d
 .exact v.off id o inf x y d
 .rcases D.cw _ d with d|d|d
  .exact v.off id o inf x y d
  .exact lM _ d
  .have:=v.blk x y;omega
theorem VR.lend{E:Cx}{L:Env}{I:Nat->Prop}{a:Act}(r:Rel E L h ι I a w){off len s:Nat}{es:Td (Td V)}{c:Value}(ho:h[id]? =some (some (.row s es)))(t:es.all (·.all V.flat)=true)(v:off+len<=es.length)
  (y:VR I w ι (.own id off len) c):VR (λb=>b<w.heap.size) w [] (.imm s ((es.drop off).take len)) c:=by
 obtain⟨inf,d⟩:∃inf,ι[id]?=some inf:=by cases y with|own hi _ _ _=>exact⟨_,hi⟩|hU hi _=>exact⟨_,hi⟩
 have h1:=VR.fz r ho d t y (λA B e=>by cases e;exact v);have h2:(V.own id off len).fz id s es= .imm s ((es.drop off).take len):=by simp[V.fz]
 rw[h2]at h1;refine(h1.free (ι':=[]) rfl).aH (bj.refl _) ⟨λb j=> ?_,λ_ _=>rfl⟩;rcases j with j|j
 .exact r.imm b j
 .rw[j];exact r.heap.blk ho d
end
section
variable {h:au}{P:Program}{f:FuncId}{xs:Td AV}{u:Value}
theorem HR.below{ι:Td Inf}{I:Nat->Prop}{w w':World}(d:HR ι I w h)(A:∀b,I b->b<w.heap.size)(y:Below w.heap.size w w'):HR ι I w' h:=
 have hk:cu I I w w':=⟨λ_ h=>h,λb j=>y.block b (A b j)⟩
 { len := d.len
   obj := fun id o inf h1 h2=>by
     have ho:=d.obj id o inf h1 h2;have v:inf.block<w.heap.size:=by
       cases o with
       | row s es=>
         obtain⟨cur,t,e,_⟩:=ho;rcases Pq inf.block w.heap.size with h|h
         · exact h
         · rw[Pu h]at e;cases e
       | map kvs=>
         obtain⟨cur,t,e,_⟩:=ho;rcases Pq inf.block w.heap.size with h|h
         · exact h
         · rw[Pu h]at e;cases e
     exact ho.aH (bj.refl _) hk (y.block _ v)
   off:=d.off
   inj:=d.inj
   sub:=d.sub}
theorem wF(hc:dI P f)(y:dM u)
  (A:∀[Zb](w:World)(I:Nat->Prop)(ι:Td Inf)(cs:Array Value),GV w->(∀b,I b->b<w.heap.size)->ARs ι I w xs cs->Calls P f cs w λe w'=>e= .returned u/\Below w.heap.size w w'):Fn P f xs h (λr h'=>r= .one (.lit u)/\h'=h):=
 ⟨hc, fun w I ι cs B C t hA=>(A w I ι cs B.1 t hA).mono fun _ _ ⟨e1,d⟩=>⟨_,_,ι,I,u,⟨rfl,rfl⟩,e1,
  { res:=.one (.lit y)
    heap:=C.below t d
    imm:=λb j=>PD (t b j) d.size
    cw:=λ_ j=>.inl j
    pre:=bj.refl _
    os:=d.os
    tape:=d.tape
    output:=d.output
    grown:=d.size
    frame:=λb v _=>d.block b v
    cA:=λid o inf h1 h2=>.inl ⟨id,o,inf,h1,h2,rfl⟩}⟩⟩
theorem yC(hc:dI P f)(d:dM u)
  (j:∀[Zb](w:World)(I:Nat->Prop)(ι:Td Inf)(cs:Array Value),(∀b,I b->b<w.heap.size)->ARs ι I w xs cs->Calls P f cs w λe w'=>e= .returned u/\Below w.heap.size w w'):Fn P f xs h (λr h'=>r= .one (.lit u)/\h'=h):=
 wF hc d λw I ι cs _=>j w I ι cs
end
theorem Aq{P:Program}{f:FuncId}{xs:Td AV}{h:au}{s:Nat}{es:Td (Td V)}(hc:dI P f)
  (O:∀[Zb] (w:World) (I:Nat->Prop) (ι:Td Inf) (cs:Array Value),GV w->(∀b,I b->b<w.heap.size)->ARs ι I w xs cs->Calls P f cs w fun e w'=>∃g d cur t,e= .returned (.slice (some ⟨g,0,none⟩) es.length d)/\Below w.heap.size w w'/\w.heap.size<=g/\
   w'.heap[g]?=some (.cells cur t (0,0))/\cur.size=d*s/\es.length<=d/\d<=9223372036854775807/\(∀e∈es,e.length=s)/\∀(k:Nat)(hk:k<es.length)(j:Nat)(K:j<es[k].length),∃u,cur[k*s+j]? =some u/\VR I w' [] es[k][j] u):
  Fn P f xs h (λr h'=>r= .one (.own h.length 0 es.length)/\h'=h++[some (.row s es)]):=
 ⟨hc, fun w I ι cs G H F hA=>(O w I ι cs G.1 F hA).mono fun _ w' ⟨g,d,cur,t,e1,A,Q,B,J,L,v,hs,C⟩=>⟨_,_,ι++[⟨g,0,d,s⟩],I,_,⟨rfl,rfl⟩,e1,by
  have h1:=H.below F A;have bF:=H.len
  have blk:∀{id:Nat}{o:Ob}{inf:Inf},h[id]? =some (some o)->ι[id]? =some inf->inf.block<w.heap.size:=λ{id o inf} q1 q2=>by
   have ho:=H.obj id o inf q1 q2;cases o with
   | row s es=>
    obtain⟨cur,t,e,_⟩:=ho;rcases Pq inf.block w.heap.size with h|h
    .exact h
    .rw[Pu h]at e;cases e
   | map kvs=>
    obtain⟨cur,t,e,_⟩:=ho;rcases Pq inf.block w.heap.size with h|h
    .exact h
    .rw[Pu h]at e;cases e
  have y:(ι++[⟨g,0,d,s⟩])[h.length]? =some ⟨g,0,d,s⟩:=by rw[bF];simp
  have split:∀{id:Nat}{o:Ob}{inf:Inf},(h++[some (.row s es)])[id]? =some (some o)->(ι++[⟨g,0,d,s⟩])[id]? =some inf->(h[id]? =some (some o)/\ι[id]? =some inf)\/(id=h.length/\o= .row s es/\inf=⟨g,0,d,s⟩):=λ{id o inf} q1 q2=>by
   rcases Pq id h.length with D|hge
   .rw[aL D]at q1;rw[aL A0]at q2;exact .inl ⟨q1,q2⟩
   .have hid:id=h.length:=by
     have:=(gI.1 q1).1;simp at this;omega
    subst hid;rw[y]at q2;simp at q1;cases q2;exact .inr ⟨rfl,q1.symm,rfl⟩
  exact
  { res := .one (by
      have:=VR.own (I:=I) (w:=w') (ι:=ι++[⟨g,0,d,s⟩]) (id:=h.length) (off:=0) (len:=es.length) (c:=d) y L A1 v;simpa using this)
    heap :=
      { len := by simp[bF]
        obj := fun id o inf q1 q2=>by
          rcases split q1 q2 with⟨q1,q2⟩|⟨_,rfl,rfl⟩
          · exact(h1.obj id o inf q1 q2).aH (bj.app _ _) (cu.refl _ _) rfl
          · refine⟨cur,t,B,rfl,by simpa using J,v,L,hs,λk hk j K=> ?_⟩
            obtain⟨u,u1,u2⟩:=C k hk j K;exact⟨u,by simpa using u1,u2.up⟩
        off := fun id o inf q1 q2 q3=>by
          rcases split q1 q2 with⟨q1,q2⟩|⟨_,rfl,rfl⟩
          · exact h1.off id o inf q1 q2 q3
          · have:=F _ q3
            simp only at this;omega
        inj := fun id id' o o' inf inf' q1 q2 q3 q4 e=>by
          rcases split q1 q3 with⟨M,N⟩|⟨rfl,rfl,rfl⟩<;>rcases split q2 q4 with⟨b1,b2⟩|⟨rfl,rfl,rfl⟩
          · exact h1.inj id id' o o' inf inf' M b1 N b2 e
          · have:=blk M N
            simp only at e;omega
          · have:=blk b1 b2
            simp only at e;omega
          · rfl
        sub:=h1.sub}
    imm:=λb E=>PD (F b E) A.size
    cw:=λ_ E=>.inl E
    pre:=bj.app _ _
    os:=A.os
    tape:=A.tape
    output:=A.output
    grown:=A.size
    frame:=λb D _=>A.block b D
    cA:=λid o inf q1 q2=>by
      rcases split q1 q2 with⟨q1,q2⟩|⟨_,rfl,rfl⟩
      · exact .inl ⟨id,o,inf,q1,q2,rfl⟩
      · exact .inr Q}⟩⟩
def mask(h:au)(M:Nat->Bool):au:=h.mapIdx λi x=>if M i then x else none
def isL:Y (Y Ob)->Bool
 |some (some _)=>true
 |_=>false
def ve(h:au)(M:Nat->Bool)(h1:au):au:=h1.mapIdx λi x=>if M i=false/\isL h[i]? =true then h.getD i none else x
section
variable {h:au}{M:Nat->Bool}{i:Nat}{o:Ob}
theorem il:(mask h M)[i]? =some (some o)↔M i=true/\h[i]? =some (some o):=by
 unfold mask;rw[PK];cases h[i]? with
 |none=>simp
 |some x=>cases M i<;>simp
theorem F7{x:Y (Y Ob)}(h:isL x=true):∃o,x=some (some o):=by
 match x,h with
 |some (some o),_=>exact⟨o,rfl⟩
theorem jV{h1:au}(e:(ve h M h1)[i]? =some (some o)):(M i=false/\h[i]? =some (some o))\/(¬(M i=false/\isL h[i]? =true)/\h1[i]? =some (some o)):=by
 unfold ve at e;rw[PK]at e;cases hi:h1[i]? with
 |none=>rw[hi]at e;cases e
 | some x=>
  rw[hi]at e;simp only[Pg,OW]at e;split at e
  .grind
  .grind
theorem Fn.mask{P:Program}{f:FuncId}{xs:Td AV}{h:au}{M:Nat->Bool}{R:AV->au->Prop}(hf:Fn P f xs (mask h M) R):
  Fn P f xs h (λr h'=>∃h1,R r h1/\(∀(i:Nat)(o:Ob),h1[i]? =some (some o)->h'[i]? =some (some o))/\(∀(i:Nat)(o:Ob),M i=false->h[i]? =some (some o)->h'[i]? =some (some o))):=by
 refine⟨hf.1,λw I ι cs hg C hI hA=> ?_⟩;have bF:=C.len;have A:∀b,ei ι (Abs.mask h M) b->ei ι h b:=λb ⟨id,o,inf,x,y,e⟩=>⟨id,o,inf,(il.1 x).2,y,e⟩;have J:∀b,I b->¬ei ι (Abs.mask h M) b:=λb j ⟨id,o,inf,x,y,e⟩=>C.off id o inf (il.1 x).2 y (e▸j);have X:HR ι I w (Abs.mask h M):=⟨by unfold Abs.mask;rw[List.length_mapIdx];exact bF,λid o inf x y=>C.obj id o inf (il.1 x).2 y,λid o inf x y=>C.off id o inf (il.1 x).2 y,λid id' o o' inf inf' x Y y Z e=>C.inj id id' o o' inf inf' (il.1 x).2 (il.1 Y).2 y Z e,C.sub⟩;refine(hf.2 w I ι cs ⟨hg.1,λk=>hg.2 (A _ k)⟩ X hI hA).mono ?_;rintro e w' ⟨r,h1,ι',V,cc,hR,rfl,⟨K,⟨L,N,Hoff,Hinj,Hsub⟩,Dimm,F,B,Dos,H,D,G,v,E⟩⟩;have hl1:h.length<=h1.length:=by
  rcases Pq h1.length h.length with O|hge
  .have Q:h1.length<ι.length:=A0
   have:=B _ _ (O0 Q);rw[Qj A0]at this;cases this
  .exact hge
 have hk:cu I (λb=>I b\/V b) w w':=⟨λb j=>.inl j,λb j=>by rw[v b (hI b j) (J b j)]⟩;have S:cu V (λb=>I b\/V b) w' w':=⟨λb j=>.inr j,λ_ _=>rfl⟩
 have d:∀{id:Nat}{o:Ob}{inf:Inf},M id=false->h[id]? =some (some o)->ι'[id]? =some inf->ι[id]? =some inf/\inf.block<w.heap.size/\¬ei ι (Abs.mask h M) inf.block:=λ{id o inf} q2 q3 q4=>by
  have O:=(gI.1 q3).1;have hi:=O0 (A0:id<ι.length);have:=B _ _ hi;rw[q4]at this;cases this;have T:ι[id].block<w.heap.size:=by
   have:=C.obj id o _ q3 hi;cases o with
   |row s es=>exact SJ
   |map kvs=>obtain⟨en,cl,e,_⟩:=this;exact SQ
  refine⟨hi,T,λ⟨a,o',inf',x,y,e⟩=> ?_⟩;obtain⟨m1,m2⟩:=il.1 x;have:=C.inj a id o' o inf' _ m2 q3 y hi e;subst this;rw[m1]at q2;cases q2
 have live:∀(i:Nat)(o:Ob),h1[i]? =some (some o)->¬(M i=false/\isL h[i]? =true):=λi o h2 ⟨q1,q2⟩=>by
  obtain⟨o',ho⟩:=F7 q2;have li:=(gI.1 h2).1;have hi:=O0 (A0:i<ι'.length);obtain⟨_,p2,U⟩:=d q1 ho hi;rcases E i o _ h2 hi with k|k
  .exact U k
  .omega
 refine ⟨r, ve  h M h1,ι',fun b=>I b\/V b,cc,⟨h1,hR,fun i o h2=> ?_,fun i o q1 q2=> ?_⟩,rfl,
  { res := K.aH (bj.refl _) S
    heap :=
      { len := by unfold ve;rw[List.length_mapIdx];exact L
        obj := fun id o inf x y=>by
          rcases jV x with⟨q2,q3⟩|⟨_,q3⟩
          · obtain⟨W,p2,U⟩:=d q2 q3 y
            exact(C.obj id o inf q3 W).aH B hk (v _ p2 U)
          · exact(N id o inf q3 y).aH (bj.refl _) S rfl
        off := fun id o inf x y j=>by
          rcases jV x with⟨q2,q3⟩|⟨_,q3⟩
          · obtain⟨W,p2,U⟩:=d q2 q3 y
            rcases j with j|j
            · exact C.off id o inf q3 W j
            · rcases F _ j with j|j|j
              · exact C.off id o inf q3 W j
              · exact U j
              · omega
          · grind
        inj:=λid id' o o' inf inf' x Y y Z e=>by
          rcases jV x with⟨q2,q3⟩|⟨_,q3⟩<;>rcases jV Y with⟨k2,k3⟩|⟨_,k3⟩
          · exact C.inj id id' o o' inf inf' q3 k3 (d q2 q3 y).1 (d k2 k3 Z).1 e
          · grind
          · grind
          · grind
        sub:=λb c t j=>.inl (C.sub b c t j)}
    imm:=λb j=>G1
    cw:=λb j=>G1
    pre:=B
    os:=Dos
    tape:=H
    output:=D
    grown:=G
    frame:=λb j hp=>v b j λk=>hp (A b k)
    cA:=λid o inf x y=>by
      rcases jV x with⟨q2,q3⟩|⟨_,q3⟩
      · exact .inl ⟨id,o,inf,q3,(d q2 q3 y).1,rfl⟩
      · exact(E id o inf q3 y).imp (A _) λk=>k}⟩
 .unfold ve;rw[PK,h2];simp only[Pg];rw[O2 (live i o h2)]
 .have O:=(gI.1 q2).1;unfold ve;rw[PK,O0 (A0:i<h1.length)];simp only[Pg];rw[mt ⟨q1,by rw[q2];rfl⟩];simp[List.getD,q2]
end
end Go.Proofs.YtkegnipofloejaaGreatDoor.Abs
