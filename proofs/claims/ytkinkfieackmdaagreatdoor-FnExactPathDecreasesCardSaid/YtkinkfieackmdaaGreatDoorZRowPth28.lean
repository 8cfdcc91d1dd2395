/-
  Texts that the claim rests on, merged: ShelfC, ClT.
-/
import Derived.Shelf.SlicesE.Clone
import Derived.Test.YtkinkfieackmdaaGreatDoorProg
import Derived.Test.YtkinkfieackmdaaGreatDoorZRowPth26
import Derived.Test.YtkinkfieackmdaaGreatDoorZRowPth27

namespace Go.Proofs
open Go.Shelf
def Tryz.cloneT_ren :Go.Shelf.Ren:=⟨λ|41=>116|n=>n,λ|22=>54|23=>56|4=>4|n=>n,λ|n=>n⟩
theorem Tryz.cloneT :Go.Proofs.SlLaysE0.n41 Tryz.prog Tryz.cloneT_ren:={
 mixed:=by kernel_rfl
 f41:=⟨Tryz.f116.name,by decide,Tryz.func116.trans (congrArg some (by kernel_rfl))⟩
 t4:=Tryz.underlying4
 a4:=Tryz.isAgg4
 z4:=Tryz.sizeOf4
 v4:=Tryz.zeroValue4
 t22:=Tryz.underlying54
 a22:=Tryz.isAgg54
 z22:=Tryz.sizeOf54
 v22:=Tryz.zeroValue54}
open Go.RowKit Go.Lib in
theorem Tryz.slices_Clone (i0:TypeInfo) (z:Value) (size bytes:Nat) (hi:Tryz.prog.info? 56=some i0) (hz0:i0.zero=some z) (hz1:i0.size=size) (hz2:i0.bytes=bytes) (hzs:z.cells.size=size) (hsz:0<size)
  (z23:∀w,(Go.sizeOf 56).run Tryz.prog w= .ok size w) (b off n c:Nat) (news:List Value) (w:World) (hl:news.length=n*size) (hn:n<=maxLen) (hbig:n*bytes<=140737488355328)
  (hc:∀j u,news[j]? =some u->w.cell? ⟨b,off+j,none⟩=some u) (h1:∀u∈news,u.oneCell'=true):
  Calls Tryz.prog 116 #[.slice (some ⟨b,off,none⟩) n c] w λe w'=>∃v',e= .returned v'/\w'.ownsRow w.heap.size 56 size v' n news/\v'≠.slice none 0 0/\Below w.heap.size w w':=AnyE.slices_Clone Tryz.cloneT i0 z size bytes hi hz0 hz1 hz2 hzs hsz z23 b off n c news w hl hn hbig hc h1
end Go.Proofs
namespace Go.Proofs.YtkinkfieackmdaaGreatDoor.Den
open Go.RowKit
open Classical
open Abs (V AV VR)
theorem Tryz.infoTm :(Tryz.prog.info? 56).map (λi=>(i.zero,i.size,i.bytes))=some (some (.agg #[.int .i64 0,.string ⟨#[]⟩,.int .i64 0,.slice none 0 0]),4,56):=by kernel_rfl
theorem Eo {xs:List Tm} {v:V} (h:FR (.l (.n 1) xs) v):∃es:List (List V),v= .imm 4 es/\es.length=xs.length:=by
 cases h with
 | @l _ _ es hp hl hs hr=>exact⟨es,rfl,hl⟩
theorem th         (xs : List Tm) (h0 : xs ≠ []) (hl : xs.length ≤ 1024) : CFn Tryz.prog 116 [.one (.l (.n 1) xs)] [] (.one (.o 0)) [.row (.n 1) 0 xs] := fun ρ h avs hH hA => by
 obtain⟨hA1,hA2⟩:=hA
 match avs,hA1 with
 | [x], _ =>
  have ex:=hA2 0 (by simp) (by simp);simp only[List.getElem_cons_zero]at ex;cases ex with
  |one ex=>
  cases ex with
  |fl ex=>
  obtain⟨es,rfl,e1⟩:=Eo ex;have hfr:FR (.l (.n 1) xs) (.imm (szT (.n 1)) es):=ex;have hs4:∀e∈es,e.length=4:=by
   cases ex with
   |l hp hl hs hr=>exact hs
  have hρ:ρ=[]:=by have:=hH.len;simpa using this
  subst hρ
  refine (Abs.xI        (s := 4) (es := es) ⟨Tryz.f116, Tryz.func116, by kernel_rfl, by kernel_rfl⟩ fun w I ι cs hI hAr => ?_).mono fun r h' ⟨q1, q2⟩ => by
   subst q1;subst q2;have hnew:(h++[some (Abs.Ob.row 4 es)])[h.length]? =some (some (.row 4 es)):=by simp
   refine⟨[some h.length],.one ?_,?_,?_⟩
   ·rw[e1];exact .o (T:=.n 1) (n:=0) (xs:=xs) rfl rfl
   ·exact
    { len := rfl
      row := fun id n T ys q => by
        match id,q with
        | 0, q =>
          have q:=Option.some.inj (show some (Ob.row (.n 1) 0 xs)=some (.row T n ys)from q);cases q;exact .inl ⟨h.length,es,rfl,hnew,hfr⟩
        |id+1,q=>simp at q
      box:=λid cs q=>by
        match id,q with
        |0,q=>simp at q
        |id+1,q=>simp at q
      map:=λid T kvs q=>by
        match id,q with
        |0,q=>simp at q
        |id+1,q=>simp at q
      inj:=λi j a q1 q2 _ _=>by
        have a1:=(gI.1 q1).1;have a2:=(gI.1 q2).1;simp at a1 a2;omega
      lt := fun i a q => by
        match i,q with
        | 0, q =>
          simp at q;subst q;simp
        |i+1,q=>simp at q}
   ·exact
    { len := by simp
      old := fun id a q1 _ q2 => by
        match id,q1 with
        | 0, q1 =>
          simp at q1;subst q1;simp at q2
        |id+1,q1=>simp at q1
      same:=λa ha _=>aL ha
      rho:=λid x q=>by simp at q
      ob:=λid x q=>by simp at q}
  obtain⟨c,rfl,p1⟩:∃c,cs= #[c]/\VR I w ι (.imm 4 es) c:=by
   obtain⟨h1,h2⟩:=hAr;obtain⟨u,u1,u2⟩:=h2 0 (by simp);rcases cs with⟨l⟩
   match l,h1 with
   | [p], _ =>
    simp at u1;subst u1;cases u2 with
    |one u2=>exact⟨p,rfl,u2⟩
  obtain⟨i0,i1,i2⟩:=Option.map_eq_some_iff.1 Tryz.infoTm;have i2a:i0.zero=_:=congrArg (λz=>z.1) i2;have i2b:i0.size=4:=congrArg (λz=>z.2.1) i2;have i2c:i0.bytes=56:=congrArg (λz=>z.2.2) i2;simp only at i2a;cases p1 with
  |imm0 hc=>exact absurd (nZ (by rw[<-e1];rfl)) h0
  | @imm _ _ b off cap _ f hs hc hm hI' hcell hr =>
   have hg:∀t,t<es.length*4->((List.range (es.length*4)).map λt=>f (t / 4) (t%4))[t]? =some (f (t / 4) (t%4)):=λt ht=>by simp[ht]
   have:=Tryz.slices_Clone i0 _ 4 56 i1 i2a i2b i2c (by simp[Value.cells]) (by omega) (λw=>Tryz.sizeOf56 w) b off es.length cap ((List.range (es.length*4)).map λt=>f (t / 4) (t%4)) w (by simp) (by unfold maxLen;omega) (by omega) (λt u hu=>by
    have ht:t<es.length*4:=by have:=(gI.1 hu).1;simpa using this
    rw[hg t ht]at hu;cases hu;have:=hcell (t / 4) (t%4) (by omega) (by omega)
    rwa [show t / 4*4+t%4=t by omega]at this) λu hu=>by
     obtain⟨t,ht,rfl⟩:=List.mem_map.1 hu;have ht:t<es.length*4:=by simpa using ht
     exact(hr (t / 4) (by omega) (t%4) (by rw[hs _ (gM _)];omega)).plain.1
   refine this.mono λe w' ⟨v',k1,k2,k3,k4⟩=> ?_;have kI:Abs.Keeps I I w w':=⟨λ_ q=>q,λb o q=>by
    simp only[World.cell?];rw[k4.block b (hI b q)]⟩
   have k2':=k2;obtain⟨_,⟨rfl,_⟩|⟨g,cp,cur,rfl,hg',hheap,hn,hcap,hsz,_⟩⟩:=k2
   ·exact absurd rfl k3
   ·have hcells:=k2'.cells (g:=g) rfl;refine⟨g,cp,cur,_,k1,k4,hg',hheap,hsz,hn,by unfold maxLen at hcap;omega,hs,λk hk j hj=> ?_⟩;have hl4:=hs es[k] (gM hk);refine⟨f k j,?_,(hr k hk j hj).keep (Abs.Grows.refl _) kI⟩;have hkj:=hg (k*4+j) (by omega);rw[show (k*4+j) / 4=k by omega,show (k*4+j)%4=j by omega]at hkj;have:=hcells (k*4+j) (f k j) hkj;rw[Addr.add_lit]at this;simpa [World.cell?,hheap]using this
noncomputable def qr:List Tm->Option (List Tm):=λl=>if l≠[]/\l.length<=1024 then some l else none
theorem w6 :EO (z4x.ent qr):=λR xs H K r hc=>by
 simp only[z4x.ent]at hc;split at hc
 ·rename_i a;obtain⟨r,q1,q2⟩:=bind_some hc;unfold qr   at q1;split at q1
  ·rename_i hl;cases q1;exact⟨_,_,q2,th a hl.1 hl.2⟩
  ·cases q1
 ·cases hc
end Go.Proofs.YtkinkfieackmdaaGreatDoor.Den
