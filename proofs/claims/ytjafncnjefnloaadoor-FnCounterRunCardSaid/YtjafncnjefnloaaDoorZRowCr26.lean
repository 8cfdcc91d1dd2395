/-
  Texts that the claim rests on, merged: Some2, Some3, Equiv, Chk, RunsF.
-/
import Derived.Test.YtjafncnjefnloaaDoorZRowCr18
import Derived.Test.YtjafncnjefnloaaDoorZRowCr25

namespace Go.Proofs.YtjafncnjefnloaaDoor.Den
open Go.RowKit
open Classical
theorem blockL_succ {labels:List Int} {T:List Fm} {s set s' l:Nat}:blockL labels T s set s' (l+1)=blockL labels T s set s' l++(if folL labels T s set s' l T 0=true then [((s'*2^T.length+l:Nat):Int)]else []):=by
 unfold blockL
 rw[List.range_succ,List.filter_append,List.map_append]
 congr 1
 by_cases h:folL labels T s set s' l T 0=true<;>simp[h]
theorem blocks_take {labels:List Int} {T:List Fm} {s set j:Nat} {fs:List Int} {x:Int} (h:fs[j]? =some x):blocks labels T s set (fs.take (j+1))=blocks labels T s set (fs.take j)++blockL labels T s set x.toNat (2^T.length):=by
 obtain⟨hlt,e⟩:=List.getElem?_eq_some_iff.1 h
 unfold blocks
 rw[List.take_succ_eq_append_getElem hlt,List.flatMap_append,e]
 simp
def EAt (g:Gr) (labels:List Int) (T:List Fm) (a:Nat) (cur:List Int) (es:List (List Int)):Prop:=es.length=g.states.length*2^T.length/\∀v,v<g.states.length*2^T.length->es[v]? =some (if v<a then rowE g labels T v else if v=a then cur else [])
theorem EAt.zero {g:Gr} {labels:List Int} {T:List Fm}:EAt g labels T 0 [] (List.replicate (g.states.length*2^T.length) []):=by
 refine⟨by simp,fun v hv=> ?_⟩
 rw[List.getElem?_replicate,if_pos hv,if_neg (by omega),ite_self]
theorem EAt.put {g:Gr} {labels:List Int} {T:List Fm} {a:Nat} {cur cur':List Int} {es:List (List Int)} (h:EAt g labels T a cur es) (ha:a<g.states.length*2^T.length):es[a]? =some cur/\EAt g labels T a cur' (es.set a cur'):=by
 refine⟨by rw[h.2 a ha,if_neg (by omega),if_pos rfl],by simp[h.1],fun v hv=> ?_⟩
 rw[List.getElem?_set]
 by_cases e:a=v
 ·subst e
  rw[if_pos rfl,if_pos (by rw[h.1];exact ha),if_neg (by omega),if_pos rfl]
 ·rw[if_neg e,h.2 v hv]
  by_cases h1:v<a
  ·rw[if_pos h1,if_pos h1]
  ·rw[if_neg h1,if_neg h1,if_neg (Ne.symm e),if_neg (Ne.symm e)]
theorem EAt.next {g:Gr} {labels:List Int} {T:List Fm} {a:Nat} {es:List (List Int)} (h:EAt g labels T a (rowE g labels T a) es):EAt g labels T (a+1) [] es:=by
 refine⟨h.1,fun v hv=> ?_⟩
 rw[h.2 v hv]
 by_cases h1:v<a
 ·rw[if_pos h1,if_pos (by omega)]
 ·by_cases h2:v=a
  ·subst h2
   rw[if_neg h1,if_pos rfl,if_pos (by omega)]
  ·rw[if_neg h1,if_neg h2,if_neg (by omega),ite_self]
theorem EAt.all {g:Gr} {labels:List Int} {T:List Fm} {es:List (List Int)} (h:EAt g labels T (g.states.length*2^T.length) [] es):es=esF g labels T:=by
 apply List.ext_getElem?
 intro v
 by_cases hv:v<g.states.length*2^T.length
 ·rw[h.2 v hv,if_pos hv,esF_get hv]
 ·rw[List.getElem?_eq_none (by rw[h.1];omega),List.getElem?_eq_none (by rw[esF_len];omega)]
theorem addr_wr {a b c:Nat} (h:a*b+c<=100000):wr (wr ((a:Int)*(b:Int))+(c:Int))=((a*b+c:Nat):Int):=by
 have e:(a:Int)*(b:Int)=((a*b:Nat):Int):=by simp
 rw[e,wr_in (x:=((a*b:Nat):Int)) (by omega),wr_in (by omega)]
 omega
theorem addr_lt {n s q set:Nat} (hs:s<n) (hset:set<q):s*q+set<n*q:=by
 have:(s+1)*q<=n*q:=Nat.mul_le_mul_right _ hs
 rw[Nat.succ_mul]at this;omega
def PreX (g:Gr) (labels:List Int) (T:List Fm) (index:List (ByteArray×Int)):Prop:=graphOk g/\labOk g labels/\TabOK labels T index/\∀t∈T,6<=t.kind
theorem PreX.tot {g:Gr} {labels:List Int} {T:List Fm} {index:List (ByteArray×Int)} (h:PreX g labels T index):g.states.length*2^T.length<=640:=Nat.mul_le_mul h.1.2.1 (pow_le h.2.2.1.2.2.2.1).2
section
variable {R : Type}
variable (G0 : Fm → List Fm → Option (List Fm)) (G1 : Fm → Option ByteArray) (GH : List Tm → List (List Int) → Bool → List Int → List Fm → (List (ByteArray × Int)) → Fm → Int → Int → Option (Bool × List (ByteArray × Int))) (GS : List (List Int) → Int → List Bool → Option (List Bool)) (GF : List Tm → List (List Int) → Bool → List Int → List Fm → (List (ByteArray × Int)) → List (List Int) → Int → Int → Option (Bool × List (ByteArray × Int)))
variable (n : Nat) (hn : 1000 < n) (t60 t61 t64 t65 t71 t72 : Int) (t70 : List Int) (h0 : List Tm) (h02 : List (List Int)) (h03 : Bool) (h1 h12 : Int) (h13 : List Fm) (h2 : List Tm) (h22 : List (List Int)) (h23 : Bool)
include hn
theorem lay_sets {g:Gr} {labels:List Int} {T:List Fm} {index:List (ByteArray×Int)} (hp:PreX g labels T index) {s set s':Nat} (hs:s<g.states.length) (hset:set<2^T.length) (hs':s'<g.states.length) (pre:List Int) (hpre:pre.length<=100000) (es:List (List Int)) (he:EAt g labels T (s*2^T.length+set) pre es):
  ∃es',EAt g labels T (s*2^T.length+set) (pre++blockL labels T s set s' (2^T.length)) es'/\∀k0:List (ByteArray×Int)->List (List Int)->Option R,i_someRun.l19 ⟨G0,G1,gFollow,gFol,GH,GS,GF⟩ n n ((2^T.length:Nat):Int) (s:Int) (set:Int) (s':Int) t60 t61 t64 t65 t70 t71 t72 ((2^T.length:Nat):Int) h0 h02 h03 h1 h12 h13 h2 h22 h23 labels T 0 index es k0=k0 index es':=by
 have htot:=hp.tot
 obtain⟨hg,hlab,ht,h6⟩:=hp
 obtain⟨p1,p2⟩:=pow_le ht.2.2.2.1
 have ha:=addr_lt hs hset
 unfold i_someRun.l19
 obtain⟨st,q1,q2⟩:=iterE (R:=R) (2^T.length) (fun k0 (v:Int×(List (ByteArray×Int))×List (List Int)) nx=>i_someRun.b19 ⟨G0,G1,gFollow,gFol,GH,GS,GF⟩ n ((2^T.length:Nat):Int) (s:Int) (set:Int) (s':Int) t60 t61 t64 t65 t70 t71 t72 ((2^T.length:Nat):Int) h0 h02 h03 h1 h12 h13 h2 h22 h23 labels T v.1 v.2.1 v.2.2 (fun y0 y1 y2=>nx (y0,y1,y2)) (fun a b=>k0 (a,b))) (fun l st=>st.1=(l:Int)/\st.2.1=index/\EAt g labels T (s*2^T.length+set) (pre++blockL labels T s set s' l) st.2.2) (fun st=>(st.2.1,st.2.2)) (fun k0 st nx hq=>by
   obtain⟨l,h,es⟩:=st
   obtain⟨e1,e2,hq⟩:=hq
   dsimp only at e1 e2 hq
   subst e1;subst e2
   unfold i_someRun.b19
   dsimp only
   rw[nlt_nat (by omega),cond_false]) (fun l st hl hq=>by
   obtain⟨l',h,es⟩:=st
   obtain⟨e1,e2,hq⟩:=hq
   dsimp only at e1 e2 hq
   subst e1;subst e2
   have hfol:gFol h2 h22 h23 labels T h (s:Int) (set:Int) (s':Int) (l:Int)=some (folL labels T s set s' l T 0,h):=by
    unfold gFol
    rw[if_pos ⟨⟨ht,h6⟩,⟨by omega,by have:=hlab.1;omega⟩,⟨by omega,by omega⟩,⟨by omega,by have:=hlab.1;omega⟩,by omega,by omega⟩]
    simp only[Int.toNat_natCast]
   have hb:=blockL_len (labels:=labels) (T:=T) (s:=s) (set:=set) (s':=s') (l:=l)
   cases hf:folL labels T s set s' l T 0
   ·refine⟨(((l+1:Nat):Int),h,es),⟨rfl,rfl,by rw[blockL_succ,hf];simpa using hq⟩,fun k0 nx=> ?_⟩
    unfold i_someRun.b19
    dsimp only
    rw[lt_nat hl,cond_true,hfol,Option.bind_some,hf,cond_false,wr_one (by omega)]
   ·obtain⟨r1,r2⟩:=hq.put (cur':=pre++blockL labels T s set s' (l+1)) ha
    refine⟨(((l+1:Nat):Int),h,es.set (s*2^T.length+set) (pre++blockL labels T s set s' (l+1))),⟨rfl,rfl,r2⟩,fun k0 nx=> ?_⟩
    unfold i_someRun.b19
    dsimp only
    have haddr:=addr_lt hs' hl
    have hlim:lim (pre++blockL labels T s set s' l++[((s'*2^T.length+l:Nat):Int)])=some (pre++blockL labels T s set s' (l+1)):=by
     rw[blockL_succ,hf,if_pos rfl,<-List.append_assoc]
     exact lim_eq (by simp;omega)
    rw[lt_nat hl,cond_true,hfol,Option.bind_some,hf,cond_true,addr_wr (by omega),ix_get r1,Option.bind_some,Int.toNat_natCast,r1,Option.bind_some,addr_wr (by omega),hlim,Option.bind_some,Option.bind_some,eqN_self (by rw[hq.1];exact ha),Option.bind_some,wr_one (by omega)]) n 0 ((0:Int),index,es) ⟨rfl,rfl,by simpa [blockL]using he⟩ (by omega) (by omega)
 refine⟨st.2.2,q1.2.2,fun k0=>(q2 (fun p=>k0 p.1 p.2)).trans ?_⟩
 rw[q1.2.1]
theorem lay_row {g:Gr} {labels:List Int} {T:List Fm} {index:List (ByteArray×Int)} (hp:PreX g labels T index) {s set:Nat} (hs:s<g.states.length) (hset:set<2^T.length) (es:List (List Int)) (he:EAt g labels T (s*2^T.length+set) [] es):
  ∃es',EAt g labels T (s*2^T.length+set) (blocks labels T s set (folS g s)) es'/\∀k0:List (ByteArray×Int)->List (List Int)->Option R,i_someRun.l16 ⟨G0,G1,gFollow,gFol,GH,GS,GF⟩ n n ((2^T.length:Nat):Int) (s:Int) (set:Int) t60 t61 t64 t65 (folS g s) ((folS g s).length:Int) h0 h02 h03 h1 h12 h13 h2 h22 h23 labels T 0 index es k0=k0 index es':=by
 obtain⟨p1,p2⟩:=pow_le hp.2.2.1.2.2.2.1
 obtain⟨f1,f2,f3⟩:=folS_of hp.1 hs
 unfold i_someRun.l16
 obtain⟨st,q1,q2⟩:=iterE (R:=R) (folS g s).length (fun k0 (v:Int×(List (ByteArray×Int))×List (List Int)) nx=>i_someRun.b16 ⟨G0,G1,gFollow,gFol,GH,GS,GF⟩ n ((2^T.length:Nat):Int) (s:Int) (set:Int) t60 t61 t64 t65 (folS g s) ((folS g s).length:Int) h0 h02 h03 h1 h12 h13 h2 h22 h23 labels T v.1 v.2.1 v.2.2 (fun y0 y1 y2=>nx (y0,y1,y2)) (fun a b=>k0 (a,b))) (fun j st=>st.1=(j:Int)/\st.2.1=index/\EAt g labels T (s*2^T.length+set) (blocks labels T s set ((folS g s).take j)) st.2.2) (fun st=>(st.2.1,st.2.2)) (fun k0 st nx hq=>by
   obtain⟨l,h,es⟩:=st
   obtain⟨e1,e2,hq⟩:=hq
   dsimp only at e1 e2 hq
   subst e1;subst e2
   unfold i_someRun.b16
   dsimp only
   rw[nlt_nat (by omega),cond_false]) (fun j st hj hq=>by
   obtain⟨l',h,es⟩:=st
   obtain⟨e1,e2,hq⟩:=hq
   dsimp only at e1 e2 hq
   subst e1;subst e2
   obtain⟨x,hx,hm⟩:=get_lt hj
   obtain⟨x0,x1⟩:=f3 x hm
   obtain⟨s',rfl⟩:=Int.eq_ofNat_of_zero_le x0
   have hlen:(blocks labels T s set ((folS g s).take j)).length<=100000:=by
    have h1:=blocks_len (labels:=labels) (T:=T) (s:=s) (set:=set) ((folS g s).take j)
    have h2:((folS g s).take j).length*2^T.length<=40*16:=Nat.mul_le_mul (by rw[List.length_take];omega) p2
    omega
   obtain⟨es',r1,r2⟩:=lay_sets (R:=R) G0 G1 GH GS GF n hn t60 t61 t64 t65 ((folS g s).length:Int) (j:Int) (folS g s) h0 h02 h03 h1 h12 h13 h2 h22 h23 hp hs hset (s':=s') (by omega) _ hlen es hq
   refine⟨(((j+1:Nat):Int),h,es'),⟨rfl,rfl,by rw[blocks_take hx,Int.toNat_natCast];exact r1⟩,fun k0 nx=> ?_⟩
   unfold i_someRun.b16
   dsimp only
   rw[lt_nat hj,cond_true,ix_get hx,Option.bind_some,r2,wr_one (by omega)]) n 0 ((0:Int),index,es) ⟨rfl,rfl,by simpa [blocks]using he⟩ (by omega) (by omega)
 refine⟨st.2.2,by have:=q1.2.2;rwa [take_all]at this,fun k0=>(q2 (fun p=>k0 p.1 p.2)).trans ?_⟩
 rw[q1.2.1]
theorem lay_state {g:Gr} {labels:List Int} {T:List Fm} {index:List (ByteArray×Int)} (hp:PreX g labels T index) {s:Nat} (hs:s<g.states.length) (es:List (List Int)) (he:EAt g labels T (s*2^T.length) [] es):
  ∃es',EAt g labels T ((s+1)*2^T.length) [] es'/\∀k0:List (ByteArray×Int)->List (List Int)->Option R,i_someRun.l13 ⟨G0,G1,gFollow,gFol,GH,GS,GF⟩ n n ((2^T.length:Nat):Int) (s:Int) t60 t61 ((2^T.length:Nat):Int) g.states g.edges g.whole h1 h12 h13 h2 h22 h23 labels T 0 index es k0=k0 index es':=by
 obtain⟨p1,p2⟩:=pow_le hp.2.2.1.2.2.2.1
 unfold i_someRun.l13
 obtain⟨st,q1,q2⟩:=iterE (R:=R) (2^T.length) (fun k0 (v:Int×(List (ByteArray×Int))×List (List Int)) nx=>i_someRun.b13 ⟨G0,G1,gFollow,gFol,GH,GS,GF⟩ n ((2^T.length:Nat):Int) (s:Int) t60 t61 ((2^T.length:Nat):Int) g.states g.edges g.whole h1 h12 h13 h2 h22 h23 labels T v.1 v.2.1 v.2.2 (fun y0 y1 y2=>nx (y0,y1,y2)) (fun a b=>k0 (a,b))) (fun l st=>st.1=(l:Int)/\st.2.1=index/\EAt g labels T (s*2^T.length+l) [] st.2.2) (fun st=>(st.2.1,st.2.2)) (fun k0 st nx hq=>by
   obtain⟨l,h,es⟩:=st
   obtain⟨e1,e2,hq⟩:=hq
   dsimp only at e1 e2 hq
   subst e1;subst e2
   unfold i_someRun.b13
   dsimp only
   rw[nlt_nat (by omega),cond_false]) (fun l st hl hq=>by
   obtain⟨l',h,es⟩:=st
   obtain⟨e1,e2,hq⟩:=hq
   dsimp only at e1 e2 hq
   subst e1;subst e2
   obtain⟨es',r1,r2⟩:=lay_row (R:=R) G0 G1 GH GS GF n hn t60 t61 ((2^T.length:Nat):Int) (l:Int) g.states g.edges g.whole h1 h12 h13 h2 h22 h23 hp hs hl es hq
   have hrow:blocks labels T s l (folS g s)=rowE g labels T (s*2^T.length+l):=by
    unfold rowE
    have e1:(s*2^T.length+l) / 2^T.length=s:=by
     rw[Nat.mul_comm,Nat.mul_add_div (by omega),Nat.div_eq_of_lt hl];rfl
    have e2:(s*2^T.length+l)%2^T.length=l:=by
     rw[Nat.mul_comm,Nat.mul_add_mod,Nat.mod_eq_of_lt hl]
    rw[e1,e2]
   rw[hrow]at r1
   refine⟨(((l+1:Nat):Int),h,es'),⟨rfl,rfl,r1.next⟩,fun k0 nx=> ?_⟩
   unfold i_someRun.b13
   dsimp only
   have e:gFollow (Gr.mk g.states g.edges g.whole) (s:Int)=some (folS g s):=by
    unfold gFollow
    rw[if_pos (show graphOk g/\(0:Int)<=(s:Int)/\(s:Int)<(g.states.length:Int)from⟨hp.1,by omega,by omega⟩),Int.toNat_natCast]
   rw[lt_nat hl,cond_true,e,Option.bind_some,r2,wr_one (by omega)]) n 0 ((0:Int),index,es) ⟨rfl,rfl,by simpa using he⟩ (by omega) (by omega)
 refine⟨st.2.2,by have:=q1.2.2;rwa [<-Nat.succ_mul]at this,fun k0=>(q2 (fun p=>k0 p.1 p.2)).trans ?_⟩
 rw[q1.2.1]
theorem lay_all {g:Gr} {labels:List Int} {T:List Fm} {index:List (ByteArray×Int)} (hp:PreX g labels T index) (k0:List (ByteArray×Int)->List (List Int)->Option R):
  i_someRun.l10 ⟨G0,G1,gFollow,gFol,GH,GS,GF⟩ n n ((2^T.length:Nat):Int) (g.states.length:Int) g.states g.edges g.whole h1 h12 h13 h2 h22 h23 labels T 0 index (List.replicate (g.states.length*2^T.length) []) k0=k0 index (esF g labels T):=by
 have hg:=hp.1
 unfold i_someRun.l10
 obtain⟨st,q1,q2⟩:=iterE (R:=R) g.states.length (fun k0 (v:Int×(List (ByteArray×Int))×List (List Int)) nx=>i_someRun.b10 ⟨G0,G1,gFollow,gFol,GH,GS,GF⟩ n ((2^T.length:Nat):Int) (g.states.length:Int) g.states g.edges g.whole h1 h12 h13 h2 h22 h23 labels T v.1 v.2.1 v.2.2 (fun y0 y1 y2=>nx (y0,y1,y2)) (fun a b=>k0 (a,b))) (fun l st=>st.1=(l:Int)/\st.2.1=index/\EAt g labels T (l*2^T.length) [] st.2.2) (fun st=>(st.2.1,st.2.2)) (fun k0 st nx hq=>by
   obtain⟨l,h,es⟩:=st
   obtain⟨e1,e2,hq⟩:=hq
   dsimp only at e1 e2 hq
   subst e1;subst e2
   unfold i_someRun.b10
   dsimp only
   rw[nlt_nat (by omega),cond_false]) (fun l st hl hq=>by
   obtain⟨l',h,es⟩:=st
   obtain⟨e1,e2,hq⟩:=hq
   dsimp only at e1 e2 hq
   subst e1;subst e2
   obtain⟨es',r1,r2⟩:=lay_state (R:=R) G0 G1 GH GS GF n hn (g.states.length:Int) (l:Int) h1 h12 h13 h2 h22 h23 hp hl es hq
   refine⟨(((l+1:Nat):Int),h,es'),⟨rfl,rfl,r1⟩,fun k0 nx=> ?_⟩
   unfold i_someRun.b10
   dsimp only
   rw[lt_nat hl,cond_true,r2,wr_one (by have:=hg.2.1;omega)]) n 0 ((0:Int),index,_) ⟨rfl,rfl,by rw[Nat.zero_mul];exact .zero⟩ (by omega) (by have:=hg.2.1;omega)
 refine(q2 (fun p=>k0 p.1 p.2)).trans ?_
 rw[q1.2.1,q1.2.2.all]
end
end Go.Proofs.YtjafncnjefnloaaDoor.Den

namespace Go.Proofs.YtjafncnjefnloaaDoor.Den
open Go.RowKit
open Classical
def someI (g:Gr) (labels:List Int) (T:List Fm) (f:Fm):Prop:=∃j,(∃set,set<2^T.length/\val (labAt labels 0) (tvF T set) f=true/\Star (edge (esF g labels T)) set j)/\fairI labels T (esF g labels T) j
def PreM (g:Gr) (labels:List Int) (f:Fm):Prop:=graphOk g/\labOk g labels/\goodF f/\(temps 13 f []).length<=4
noncomputable def gSome:Gr->List Int->Fm->Option Bool:=fun g labels f=>if PreM g labels f then some (decide (someI g labels (temps 13 f []) f))else none
theorem idx_drop {T:List Fm} {i:Nat} {x:Fm} (h:T[i]? =some x) (acc:List (ByteArray×Int)):idxMapFrom (T.drop i) i acc=idxMapFrom (T.drop (i+1)) (i+1) ((Fm.text x,(i:Int))::acc):=by
 obtain⟨hlt,rfl⟩:=List.getElem?_eq_some_iff.1 h
 rw[List.drop_eq_getElem_cons hlt];rfl
section
variable {R : Type}
variable (G0 : Fm → List Fm → Option (List Fm)) (GFl : Gr → Int → Option (List Int)) (GFo : List Tm → List (List Int) → Bool → List Int → List Fm → (List (ByteArray × Int)) → Int → Int → Int → Int → Option (Bool × List (ByteArray × Int)))
variable (n : Nat) (hn : 1000 < n)
include hn
theorem index_loop (GH:List Tm->List (List Int)->Bool->List Int->List Fm->(List (ByteArray×Int))->Fm->Int->Int->Option (Bool×List (ByteArray×Int))) (GS:List (List Int)->Int->List Bool->Option (List Bool)) (GF:List Tm->List (List Int)->Bool->List Int->List Fm->(List (ByteArray×Int))->List (List Int)->Int->Int->Option (Bool×List (ByteArray×Int))) (h0:List Tm) (h02:List (List Int)) (h03:Bool) (h1 h12:Int) (h13:List Fm) (h2:List Tm) (h22:List (List Int)) (h23:Bool) (h24:List Int) (h25:List Fm) (T:List Fm) (hT:∀x∈T,goodF x) (hl:T.length<=4) (k0:List (ByteArray×Int)->Option R):
  i_someRun.l3 ⟨G0,gText 13,GFl,GFo,GH,GS,GF⟩ n n T (T.length:Int) h0 h02 h03 h1 h12 h13 h2 h22 h23 h24 h25 0 [] k0=k0 (idxMapFrom T 0 []):=by
 unfold i_someRun.l3
 refine count T.length (fun t h nx=>i_someRun.b3 ⟨G0,gText 13,GFl,GFo,GH,GS,GF⟩ n T (T.length:Int) h0 h02 h03 h1 h12 h13 h2 h22 h23 h24 h25 t h nx k0) (fun i h=>idxMapFrom (T.drop i) i h=idxMapFrom T 0 []) (fun _ _=>k0 (idxMapFrom T 0 [])) (fun h nx hq=> ?_) (fun i h nx hi hq hnx=> ?_) n 0 [] rfl (by omega) (by omega)
 ·unfold i_someRun.b3
  rw[nlt_nat (by omega),cond_false,<-hq,drop_nat];rfl
 ·obtain⟨x,hx,hm⟩:=get_lt hi
  unfold i_someRun.b3
  simp only[Fm.eta]
  rw[lt_nat hi,cond_true,ix_get hx,Option.bind_some,gText_good (hT x hm),Option.bind_some,wr_one (by omega)]
  exact hnx _ (by rw[<-idx_drop hx];exact hq)
theorem starts_loop (GF:List Tm->List (List Int)->Bool->List Int->List Fm->(List (ByteArray×Int))->List (List Int)->Int->Int->Option (Bool×List (ByteArray×Int))) {g:Gr} {labels:List Int} {T:List Fm} {index:List (ByteArray×Int)} (hp:PreX g labels T index) (f:Fm) (hf:goodF f):
  ∃m,(m.length=g.states.length*2^T.length/\∀j,mkd m j↔∃set,set<2^T.length/\val (labAt labels 0) (tvF T set) f=true/\Star (edge (esF g labels T)) set j)/\∀k0:List (ByteArray×Int)->List Bool->Option R,i_someRun.l29 ⟨G0,gText 13,GFl,GFo,gHolds 13,gSpread 1001,GF⟩ n n ((2^T.length:Nat):Int) (esF g labels T) ((2^T.length:Nat):Int) f.kind f.prop f.kids g.states g.edges g.whole labels T 0 index (List.replicate (g.states.length*2^T.length) false) k0=k0 index m:=by
 have htot:=hp.tot
 have hes:=esF_good (labels:=labels) hp.1 hp.2.2.1.2.2.2.1
 obtain⟨p1,p2⟩:=pow_le hp.2.2.1.2.2.2.1
 have hn1:1*2^T.length<=g.states.length*2^T.length:=Nat.mul_le_mul_right _ hp.1.1
 unfold i_someRun.l29
 obtain⟨st,q1,q2⟩:=iterE (R:=R) (2^T.length) (fun k0 (v:Int×(List (ByteArray×Int))×List Bool) nx=>i_someRun.b29 ⟨G0,gText 13,GFl,GFo,gHolds 13,gSpread 1001,GF⟩ n ((2^T.length:Nat):Int) (esF g labels T) ((2^T.length:Nat):Int) f.kind f.prop f.kids g.states g.edges g.whole labels T v.1 v.2.1 v.2.2 (fun y0 y1 y2=>nx (y0,y1,y2)) (fun a b=>k0 (a,b))) (fun l st=>st.1=(l:Int)/\st.2.1=index/\st.2.2.length=g.states.length*2^T.length/\closedM (esF g labels T) st.2.2/\∀j,mkd st.2.2 j↔∃set,set<l/\val (labAt labels 0) (tvF T set) f=true/\Star (edge (esF g labels T)) set j) (fun st=>(st.2.1,st.2.2)) (fun k0 st nx hq=>by
   obtain⟨l,h,m⟩:=st
   obtain⟨e1,e2,hq⟩:=hq
   dsimp only at e1 e2 hq
   subst e1;subst e2
   unfold i_someRun.b29
   dsimp only
   rw[nlt_nat (by omega),cond_false]) (fun l st hl hq=>by
   obtain⟨l',h,m⟩:=st
   obtain⟨e1,e2,hq1,hq2,hq3⟩:=hq
   dsimp only at e1 e2 hq1 hq2 hq3
   subst e1;subst e2
   have hh:gHolds 13 g.states g.edges g.whole labels T h (Fm.mk f.kind f.prop f.kids) 0 (l:Int)=some (val (labAt labels 0) (tvF T l) f,h):=by
    rw[Fm.eta]
    exact gHolds_eq (s:=0) hf.1 hf hp.2.2.1 (by have:=hp.2.1.1;have:=hp.1.1;omega) (by omega)
   have hsplit:∀j,(∃set,set<l+1/\val (labAt labels 0) (tvF T set) f=true/\Star (edge (esF g labels T)) set j)↔mkd m j\/(val (labAt labels 0) (tvF T l) f=true/\Star (edge (esF g labels T)) l j):=fun j=>by
    rw[hq3]
    constructor
    ·rintro⟨set,s1,s2⟩
     rcases Nat.lt_or_eq_of_le (Nat.le_of_lt_succ s1)with s1|rfl
     ·exact .inl ⟨set,s1,s2⟩
     ·exact .inr s2
    ·rintro(⟨set,s1,s2⟩|s2)
     ·exact⟨set,by omega,s2⟩
     ·exact⟨l,by omega,s2⟩
   cases hv:val (labAt labels 0) (tvF T l) f
   ·refine⟨(((l+1:Nat):Int),h,m),⟨rfl,rfl,hq1,hq2,fun j=>by rw[hsplit,hv];simp⟩,fun k0 nx=> ?_⟩
    unfold i_someRun.b29
    dsimp only
    rw[lt_nat hl,cond_true,hh,Option.bind_some,hv,cond_false,wr_one (by omega)]
   ·have hcnt:m.count false<1001:=Nat.lt_of_le_of_lt (cnt_len m) (by omega)
    have hpost:=spread_post hes.1 1001 l m (by rw[esF_len];omega) (by rw[hq1,esF_len]) hcnt
    refine⟨(((l+1:Nat):Int),h,spreadF (esF g labels T) 1001 l m),⟨rfl,rfl,by rw[hpost.len,hq1],hpost.shut hq2,fun j=> ?_⟩,fun k0 nx=> ?_⟩
    ·rw[hsplit,hv]
     refine(hpost.iff hq2 j).trans ⟨fun q=>q.imp_right fun⟨v,e,q⟩=>⟨rfl,e▸q⟩,fun q=>q.imp_right fun⟨_,q⟩=>⟨l,rfl,q⟩⟩
    ·unfold i_someRun.b29
     dsimp only
     rw[lt_nat hl,cond_true,hh,Option.bind_some,hv,cond_true,show gSpread 1001 (esF g labels T) (l:Int) m=some _ from if_pos ⟨hes.1,by rw[hq1,esF_len],⟨by omega,by rw[esF_len];omega⟩,hcnt⟩,Option.bind_some,Int.toNat_natCast,wr_one (by omega)]) n 0 ((0:Int),index,List.replicate (g.states.length*2^T.length) false) ⟨rfl,rfl,by simp,closed_rep,fun j=>⟨fun q=>absurd q mkd_rep,fun⟨_,q,_⟩=>absurd q (Nat.not_lt_zero _)⟩⟩ (by omega) (by omega)
 refine⟨st.2.2,⟨q1.2.2.1,q1.2.2.2.2⟩,fun k0=>(q2 (fun p=>k0 p.1 p.2)).trans ?_⟩
 rw[q1.2.1]
theorem ends_loop (GS:List (List Int)->Int->List Bool->Option (List Bool)) {g:Gr} {labels:List Int} {T:List Fm} {index:List (ByteArray×Int)} (hp:PreX g labels T index) (m:List Bool) (hm:m.length=g.states.length*2^T.length) (K:Bool->Option R):
  i_someRun.l35 ⟨G0,gText 13,GFl,GFo,gHolds 13,GS,gFair⟩ n n ((2^T.length:Nat):Int) (esF g labels T) (m.length:Int) g.states g.edges g.whole labels T m 0 index (fun t=>K t) (K false)=K (decide (∃j,mkd m j/\fairI labels T (esF g labels T) j)):=by
 have htot:=hp.tot
 have hes:=esF_good (labels:=labels) hp.1 hp.2.2.1.2.2.2.1
 unfold i_someRun.l35
 refine(iterV m.length (fun(v:Int×List (ByteArray×Int)) nx=>i_someRun.b35 ⟨G0,gText 13,GFl,GFo,gHolds 13,GS,gFair⟩ n ((2^T.length:Nat):Int) (esF g labels T) (m.length:Int) g.states g.edges g.whole labels T m v.1 v.2 (fun y0 y1=>nx (y0,y1)) (fun t=>K t) (K false)) (fun i s=>s.1=(i:Int)/\s.2=index) (fun i _=>K (decide (∃j,i<=j/\mkd m j/\fairI labels T (esF g labels T) j))) (fun s nx hq=> ?_) (fun i s nx hi hq hnx=> ?_) n 0 ((0:Int),index) ⟨rfl,rfl⟩ (by omega) (by omega)).trans ?_
 ·obtain⟨k,h⟩:=s
  obtain⟨e1,e2⟩:=hq
  dsimp only at e1 e2
  subst e1;subst e2
  unfold i_someRun.b35
  dsimp only
  rw[nlt_nat (by omega),cond_false,decide_eq_false]
  rintro⟨j,j1,j2,_⟩
  have:=(List.getElem?_eq_some_iff.1 j2).1
  omega
 ·obtain⟨k,h⟩:=s
  obtain⟨e1,e2⟩:=hq
  dsimp only at e1 e2
  subst e1;subst e2
  have hnx:=hnx (((i+1:Nat):Int),h) ⟨rfl,rfl⟩
  have hsplit:(∃j,i<=j/\mkd m j/\fairI labels T (esF g labels T) j)↔(mkd m i/\fairI labels T (esF g labels T) i)\/∃j,i+1<=j/\mkd m j/\fairI labels T (esF g labels T) j:=by
   constructor
   ·rintro⟨j,j1,j2⟩
    rcases Nat.eq_or_lt_of_le j1 with rfl|j1
    ·exact .inl j2
    ·exact .inr ⟨j,j1,j2⟩
   ·rintro(j2|⟨j,j1,j2⟩)
    ·exact⟨i,Nat.le_refl _,j2⟩
    ·exact⟨j,by omega,j2⟩
  unfold i_someRun.b35
  dsimp only
  rw[lt_nat hi,cond_true,mkd_ix hi,Option.bind_some,wr_one (by omega)]
  by_cases a1:mkd m i
  ·rw[decide_eq_true a1,cond_true,show gFair g.states g.edges g.whole labels T h (esF g labels T) (i:Int) ((2^T.length:Nat):Int)=some _ from if_pos ⟨hes,⟨hp.2.2.1,hp.2.2.2⟩,rfl,by rw[esF_len,hp.2.1.1],by omega,by rw[esF_len];omega⟩,Option.bind_some,Int.toNat_natCast]
   by_cases a2:fairI labels T (esF g labels T) i
   ·rw[decide_eq_true a2,cond_true,decide_eq_true (hsplit.2 (.inl ⟨a1,a2⟩))]
   ·rw[decide_eq_false a2,cond_false,hnx]
    congr 1
    exact decide_eq_decide.2 ⟨fun q=>hsplit.2 (.inr q),fun q=>(hsplit.1 q).resolve_left fun q=>a2 q.2⟩
  ·rw[decide_eq_false a1,cond_false,hnx]
   congr 1
   exact decide_eq_decide.2 ⟨fun q=>hsplit.2 (.inr q),fun q=>(hsplit.1 q).resolve_left fun q=>a1 q.1⟩
 ·congr 1
  exact decide_eq_decide.2 ⟨fun⟨j,_,q⟩=>⟨j,q⟩,fun⟨j,q⟩=>⟨j,Nat.zero_le _,q⟩⟩
end
theorem temps_nil (f:Fm):(temps 13 f []).Nodup/\∀y∈temps 13 f [],6<=y.kind:=temps_inv (P:=fun y=>6<=y.kind) (fun _ h=>h) 13 f [] List.nodup_nil (by simp)
theorem some_main {R:Type} (g:Gr) (labels:List Int) (f:Fm) (h:PreM g labels f) (K:Bool->Option R):
  i_someRun.main ⟨gTempsI,gText 13,gFollow,gFol,gHolds 13,gSpread 1001,gFair⟩ 1001 g labels f K=K (decide (someI g labels (temps 13 f []) f)):=by
 obtain⟨hg,hlab,hf,h4⟩:=h
 have hT:=(temps_grow 13 f [] hf).2 (by simp)
 obtain⟨hnd,h6⟩:=temps_nil f
 have ht:TabOK labels (temps 13 f []) (idxMapFrom (temps 13 f []) 0 []):=⟨hlab.2,hT,hnd,h4,rfl⟩
 have hp:PreX g labels (temps 13 f []) (idxMapFrom (temps 13 f []) 0 []):=⟨hg,hlab,ht,h6⟩
 have htot:=hp.tot
 unfold i_someRun.main i_someRun.d1
 simp only[Fm.eta]
 have e1:gTempsI f []=some (temps 13 f []):=if_pos ⟨hf.1,hf,by simp,by have:=hf.1;simp;omega⟩
 rw[e1,Option.bind_some]
 generalize temps 13 f []=T at*
 rw[index_loop gTempsI gFollow gFol 1001 (by omega) (gHolds 13) (gSpread 1001) gFair g.states g.edges g.whole f.kind f.prop f.kids g.states g.edges g.whole labels T T hT h4,shl_some (by omega),Option.bind_some]
 have e2:wr ((g.states.length:Int)*((2^T.length:Nat):Int))=((g.states.length*2^T.length:Nat):Int):=by
  rw[show (g.states.length:Int)*((2^T.length:Nat):Int)=((g.states.length*2^T.length:Nat):Int) by simp]
  exact wr_in (by omega)
 rw[e2,mk_eq (by omega),Option.bind_some,lay_all gTempsI (gText 13) (gHolds 13) (gSpread 1001) gFair 1001 (by omega) f.kind f.prop f.kids g.states g.edges g.whole hp]
 rw[esF_len,mk_eq (by omega),Option.bind_some]
 obtain⟨m,⟨m1,m2⟩,m3⟩:=starts_loop (R:=R) gTempsI gFollow gFol 1001 (by omega) gFair hp f hf
 rw[m3,ends_loop gTempsI gFollow gFol 1001 (by omega) (gSpread 1001) hp m m1 K]
 congr 1
 refine decide_eq_decide.2 (exists_congr fun j=> ?_)
 rw[m2]
theorem some_ok :EntOK Tryd.prog (i_someRun.ent gSome):=i_someRun.ok (G:=⟨gTempsI,gText 13,gFollow,gFol,gHolds 13,gSpread 1001,gFair⟩) ⟨tempsI_ok,formulaText_ok 13,followers_ok,fol_ok,holds_ok 13,spread_ok 1001,fair_ok,trivial⟩ fun g labels f r h=>by
 unfold gSome at h
 split at h
 ·rename_i hp
  cases h
  exact⟨1001,some_main g labels f hp _⟩
 ·cases h
end Go.Proofs.YtjafncnjefnloaaDoor.Den

namespace Go.Proofs.YtjafncnjefnloaaDoor.Den
open Go.RowKit
open Classical
theorem tF_app (a b:List Fm):tF (a++b)=tF a++tF b:=by unfold tF;rw[List.filter_append]
theorem mem_tF {P:List Fm} {t:Fm}:t∈tF P↔t∈P/\6<=t.kind:=by unfold tF;rw[List.mem_filter,decide_eq_true_eq]
theorem kind_le {f:Fm} (h:f.ok=true):f.kind<=7:=(text_hd h).2.1
theorem tF_add {f:Fm} (hf:f.ok=true) (L:List Fm):tF (addF f L)=add6 f (tF L):=by
 have hk:=kind_le hf
 unfold addF add6
 by_cases h6:6<=f.kind
 ·by_cases hm:f∈L
  ·rw[if_pos hm,if_neg (fun q=>q.2 (mem_tF.2 ⟨hm,h6⟩))]
  ·rw[if_neg hm,if_pos ⟨by omega,fun q=>hm (mem_tF.1 q).1⟩,tF_app]
   congr 1
   simp[tF,h6]
 ·have e:tF [f]=[]:=by simp[tF,h6]
  rw[if_neg (c:=(f.kind=6\/f.kind=7)/\f∉tF L) (fun q=>by have:=q.1;omega)]
  split
  ·rfl
  ·rw[tF_app,e,List.append_nil]
theorem tF_parts :∀(k:Nat) (f:Fm) (acc:List Fm),goodF f->tF (parts k f acc)=temps k f (tF acc)
 |0,_,_,_=>rfl
 | k + 1, f, acc, hf => by
  have key:∀(xs:List Fm) (acc:List Fm),(∀x∈xs,goodF x)->tF (xs.foldl (fun a x=>parts k x a) acc)=xs.foldl (fun a x=>temps k x a) (tF acc):=by
   intro xs
   induction xs with
   |nil=>intro acc _;rfl
   |cons x xs ih=>intro acc h;rw[List.foldl_cons,List.foldl_cons,ih _ (fun y hy=>h y (by simp[hy])),tF_parts k x acc (h x (by simp))]
  show tF (addF f _)=add6 f _
  rw[tF_add hf.2,key f.kids acc (fun x hx=>hf.kid hx)]
structure PInv (acc L:List Fm):Prop where
 nd:L.Nodup
 well:wellP L
 sub:∀x∈acc,x∈L
theorem parts_inv :∀(k:Nat) (f:Fm) (acc:List Fm),f.size<=k->acc.Nodup->wellP acc->PInv acc (parts k f acc)/\f∈parts k f acc
 |0,f,_,h,_,_=>by rw[Fm.size_eq]at h;omega
 | k + 1, f, acc, h, hn, hw => by
  have key:∀(xs:List Fm) (acc:List Fm),(∀x∈xs,x.size<=k)->acc.Nodup->wellP acc->PInv acc (xs.foldl (fun a x=>parts k x a) acc)/\∀x∈xs,x∈xs.foldl (fun a x=>parts k x a) acc:=by
   intro xs
   induction xs with
   |nil=>intro acc _ hn hw;exact⟨⟨hn,hw,fun _ h=>h⟩,fun _ h=>by simp at h⟩
   | cons x xs ih =>
    intro acc hx hn hw
    obtain⟨p1,p2⟩:=parts_inv k x acc (hx x (by simp)) hn hw
    obtain⟨q1,q2⟩:=ih (parts k x acc) (fun y hy=>hx y (by simp[hy])) p1.nd p1.well
    rw[List.foldl_cons]
    refine⟨⟨q1.nd,q1.well,fun y hy=>q1.sub y (p1.sub y hy)⟩,fun y hy=> ?_⟩
    rcases List.mem_cons.1 hy with rfl|hy
    ·exact q1.sub _ p2
    ·exact q2 y hy
  obtain⟨q1,q2⟩:=key f.kids acc (fun x hx=>by have:=size_mem hx;omega) hn hw
  show PInv acc (addF f _)/\f∈addF f _
  generalize f.kids.foldl (fun a x=>parts k x a) acc=L at*
  unfold addF
  split
  ·rename_i hm;exact⟨q1,hm⟩
  ·rename_i hm
   refine⟨⟨List.nodup_append.2 ⟨q1.nd,by simp,fun a ha b hb=>by simp at hb;subst hb;exact fun e=>hm (e▸ha)⟩,fun i p hp x hx=> ?_,fun x hx=>List.mem_append.2 (.inl (q1.sub x hx))⟩,by simp⟩
   by_cases hi:i<L.length
   ·rw[List.getElem?_append_left hi]at hp
    obtain⟨j,j1,j2⟩:=q1.well i p hp x hx
    exact⟨j,j1,by rw[List.getElem?_append_left (by omega)];exact j2⟩
   ·have hlen:=(List.getElem?_eq_some_iff.1 hp).1
    simp at hlen
    have e:i=L.length:=by omega
    subst e
    simp at hp
    subst hp
    obtain⟨j,hj,e⟩:=List.getElem_of_mem (q2 x hx)
    exact⟨j,hj,by rw[List.getElem?_append_left hj,List.getElem?_eq_getElem hj,e]⟩
theorem parts_nil {f:Fm} (hf:goodF f) (h4:(temps 13 f []).length<=4):PreP (parts 13 f [])/\tF (parts 13 f [])=temps 13 f []/\f∈parts 13 f []:=by
 have e:=tF_parts 13 f [] hf
 obtain⟨p1,p2⟩:=parts_inv 13 f [] hf.1 List.nodup_nil (fun i p h=>by simp at h)
 obtain⟨g1,g2⟩:=parts_grow 13 f [] hf
 exact⟨⟨g2 (by simp),p1.nd,p1.well,by have:=hf.1;simp at g1;omega,by rw[e];exact h4⟩,e,p2⟩
section
variable {g : Gr} {labels : List Int} {P : List Fm}
theorem full_bit (hP:PreP P) {lab k i:Nat} {p:Fm} (hp:P[i]? =some p):hasB (fullK P lab k) (i:Int)=val lab (tvF (tF P) k) p:=by
 have hi:=(List.getElem?_eq_some_iff.1 hp).1
 have:=hP.2.2.2.1
 unfold fullK
 rw[hasB_nat (by omega),fullTo_bit,decide_eq_true hi,Bool.true_and]
 unfold kidv
 rw[hp]
theorem full_at (hP:PreP P) {lab k:Nat} {p:Fm} (hp:p∈P):hasB (fullK P lab k) (idxF p P 0)=val lab (tvF (tF P) k) p:=by
 obtain⟨i,hi,e⟩:=List.getElem_of_mem hp
 have h:P[i]? =some p:=by rw[List.getElem?_eq_getElem hi,e]
 rw[idx_at hP.2.1 h]
 exact full_bit hP h
theorem kid_mem (hP:PreP P) {p x:Fm} (hp:p∈P) (hx:x∈p.kids):x∈P:=by
 obtain⟨i,hi,e⟩:=List.getElem_of_mem hp
 obtain⟨j,_,h⟩:=hP.2.2.1 i p (by rw[List.getElem?_eq_getElem hi,e]) x hx
 exact List.mem_of_getElem? h
theorem kid_full (hP:PreP P) {lab k j:Nat} {p:Fm} (hp:p∈P):kidv (fun x=>hasB (fullK P lab k) (idxF x P 0)) p.kids j=kidv (val lab (tvF (tF P) k)) p.kids j:=
 kidv_congr fun _ hx=>full_at hP (kid_mem hP hp hx)
theorem val_temp {lab:Nat} {tv:Fm->Bool} {p:Fm} (h:6<=p.kind):val lab tv p=tv p:=by
 rw[val_eq,if_neg (by omega),if_neg (by omega),if_neg (by omega),if_neg (by omega),if_neg (by omega)]
theorem stepL_all (a b:Nat):∀(ps:List Fm) (i:Nat),stepL P a b ps i=true↔∀j p,ps[j]? =some p->stepAt P a b (i+j) p=true
 |[],i=>by simp[stepL]
 | q :: ps, i => by
  unfold stepL
  rw[Bool.and_eq_true,stepL_all a b ps (i+1)]
  constructor
  ·rintro⟨h1,h2⟩ j p hj
   cases j with
   |zero=>simp at hj;subst hj;exact h1
   | succ j =>
    simp at hj
    have:=h2 j p hj
    rwa [show i+(j+1)=i+1+j by omega]
  ·intro h
   exact⟨h 0 q (by simp),fun j p hj=>by have:=h (j+1) p (by simpa using hj);rwa [show i+(j+1)=i+1+j by omega]at this⟩
theorem folL_all (T:List Fm) (s set s' set':Nat):∀(ts:List Fm) (i:Nat),folL labels T s set s' set' ts i=true↔∀j t,ts[j]? =some t->due labels T s set s' set' (i+j) t=set.testBit (i+j)
 |[],i=>by simp[folL]
 | q :: ts, i => by
  unfold folL
  rw[Bool.and_eq_true,folL_all T s set s' set' ts (i+1),beq_iff_eq]
  constructor
  ·rintro⟨h1,h2⟩ j p hj
   cases j with
   |zero=>simp at hj;subst hj;exact h1
   | succ j =>
    simp at hj
    have:=h2 j p hj
    rwa [show i+(j+1)=i+1+j by omega]
  ·intro h
   exact⟨h 0 q (by simp),fun j p hj=>by have:=h (j+1) p (by simpa using hj);rwa [show i+(j+1)=i+1+j by omega]at this⟩
theorem tF_nodup (hP:PreP P):(tF P).Nodup:=List.Nodup.sublist List.filter_sublist hP.2.1
theorem mem_at {L:List Fm} {t:Fm} (h:t∈L):∃i:Nat,L[i]? =some t:=by
 obtain⟨i,hi,e⟩:=List.getElem_of_mem h
 exact⟨i,by rw[List.getElem?_eq_getElem hi,e]⟩
theorem step_fol (hP:PreP P) (s k s' k':Nat):stepL P (fullK P (labAt labels s) k) (fullK P (labAt labels s') k') P 0=true↔folL labels (tF P) s k s' k' (tF P) 0=true:=by
 rw[stepL_all,folL_all]
 have key:∀(i j:Nat) (p:Fm),P[i]? =some p->(tF P)[j]? =some p->(stepAt P (fullK P (labAt labels s) k) (fullK P (labAt labels s') k') i p=true↔due labels (tF P) s k s' k' j p=k.testBit j):=fun i j p hi hj=>by
  have hm:=List.mem_of_getElem? hi
  have h6:=(mem_tF.1 (List.mem_of_getElem? hj)).2
  have hpos:posF (tF P) p=j:=posF_self (tF_nodup hP) hj
  have hk:=kind_le (hP.1 p hm).2
  unfold stepAt due
  rw[full_bit hP hi,full_bit hP hi,val_temp h6,val_temp h6,kid_full hP hm,kid_full hP hm,kid_full hP hm]
  unfold tvF
  rw[hpos]
  by_cases c:p.kind=6
  ·rw[if_pos c,if_pos c,beq_iff_eq];exact eq_comm
  ·rw[if_neg c,if_neg c,if_pos (by omega),beq_iff_eq];exact eq_comm
 constructor
 ·intro h j t hj
  obtain⟨i,hi⟩:=mem_at (mem_tF.1 (List.mem_of_getElem? hj)).1
  have:=h i t hi
  rw[Nat.zero_add]at this ⊢
  exact(key i j t hi hj).1 this
 ·intro h i p hi
  rw[Nat.zero_add]
  by_cases h6:6<=p.kind
  ·obtain⟨j,hj⟩:=mem_at (mem_tF.2 ⟨List.mem_of_getElem? hi,h6⟩)
   have:=h j p hj
   rw[Nat.zero_add]at this
   exact(key i j p hi hj).2 this
  ·unfold stepAt
   rw[if_neg (by omega),if_neg (by omega)]
theorem fol_ok_set (hP:PreP P) {s k s' k':Nat} (h:folL labels (tF P) s k s' k' (tF P) 0=true):okK P (labAt labels s) k=true:=by
 rw[folL_all]at h
 unfold okK
 rw[List.all_eq_true]
 intro p hm
 unfold consB
 by_cases c:p.kind=7
 ·obtain⟨j,hj⟩:=mem_at (mem_tF.2 ⟨hm,show 6<=p.kind by omega⟩)
  have:=h j p hj
  rw[Nat.zero_add]at this
  unfold due at this
  rw[if_neg (by omega)]at this
  rw[val_temp (show 6<=p.kind by omega)]
  unfold tvF
  rw[posF_self (tF_nodup hP) hj,<-this,decide_eq_true c]
  have e:(fun f=>k.testBit (posF (tF P) f))=tvF (tF P) k:=rfl
  rw[e]
  cases kidv (val (labAt labels s) (tvF (tF P) k)) p.kids 1<;>cases kidv (val (labAt labels s) (tvF (tF P) k)) p.kids 0<;>cases k'.testBit j<;>rfl
 ·rw[decide_eq_false c];rfl
def isNode (g:Gr) (labels:List Int) (P:List Fm) (x v:Nat):Prop:=∃s k,s<g.states.length/\k<2^(tF P).length/\okK P (labAt labels s) k=true/\(nodesTo labels P g.states.length)[x]? =some ⟨(s:Int),((fullK P (labAt labels s) k:Nat):Int)⟩/\v=s*2^(tF P).length+k
theorem addr_div {s q k:Nat} (h:k<q):(s*q+k) / q=s/\(s*q+k)%q=k:=by
 constructor
 ·rw[Nat.mul_comm,Nat.mul_add_div (by omega),Nat.div_eq_of_lt h];rfl
 ·rw[Nat.mul_comm,Nat.mul_add_mod,Nat.mod_eq_of_lt h]
theorem node_of {x:Nat} (hx:x<(nodesTo labels P g.states.length).length):∃v,isNode g labels P x v:=by
 obtain⟨nd,h1,h2⟩:=get_lt hx
 obtain⟨s,s1,s2,s3⟩:=mem_nodes.1 h2
 obtain⟨k,k1,k2,k3⟩:=mem_sets.1 s3
 refine⟨_,s,k,s1,k1,k2,?_,rfl⟩
 rw[h1]
 cases nd
 dsimp only at s2 k3
 rw[s2,k3]
theorem node_for {s k:Nat} (hs:s<g.states.length) (hk:k<2^(tF P).length) (ho:okK P (labAt labels s) k=true):∃x,isNode g labels P x (s*2^(tF P).length+k):=by
 have hm:(⟨(s:Int),((fullK P (labAt labels s) k:Nat):Int)⟩:Nd)∈nodesTo labels P g.states.length:=mem_nodes.2 ⟨s,hs,rfl,mem_sets.2 ⟨k,hk,ho,rfl⟩⟩
 obtain⟨x,hx,e⟩:=List.getElem_of_mem hm
 exact⟨x,s,k,hs,hk,ho,by rw[List.getElem?_eq_getElem hx,e],rfl⟩
theorem edge_es {v w:Nat}:edge (esF g labels (tF P)) v w↔v<g.states.length*2^(tF P).length/\∃s'∈folS g (v / 2^(tF P).length),∃k',k'<2^(tF P).length/\folL labels (tF P) (v / 2^(tF P).length) (v%2^(tF P).length) s'.toNat k' (tF P) 0=true/\w=s'.toNat*2^(tF P).length+k':=by
 unfold edge
 constructor
 ·rintro⟨row,h1,h2⟩
  have hv:=(List.getElem?_eq_some_iff.1 h1).1
  rw[esF_len]at hv
  rw[esF_get hv]at h1
  cases h1
  obtain⟨s',q1,k',q2,q3,q4⟩:=mem_row.1 h2
  exact⟨hv,s',q1,k',q2,q3,by omega⟩
 ·rintro⟨hv,s',q1,k',q2,q3,rfl⟩
  exact⟨_,esF_get hv,mem_row.2 ⟨s',q1,k',q2,q3,rfl⟩⟩
theorem edge_node (hP:PreP P) (_hg:graphOk g) {v w:Nat} (h:edge (esF g labels (tF P)) v w):∃x,isNode g labels P x v:=by
 obtain⟨hv,s',q1,k',q2,q3,q4⟩:=edge_es.1 h
 have p1:=(pow_le hP.2.2.2.2).1
 have hs:v / 2^(tF P).length<g.states.length:=Nat.div_lt_of_lt_mul (by rw[Nat.mul_comm];exact hv)
 have hk:v%2^(tF P).length<2^(tF P).length:=Nat.mod_lt _ (by omega)
 obtain⟨x,hx⟩:=node_for hs hk (fol_ok_set hP q3)
 have e:v / 2^(tF P).length*2^(tF P).length+v%2^(tF P).length=v:=by
  rw[Nat.mul_comm];exact Nat.div_add_mod _ _
 rw[e]at hx
 exact⟨x,hx⟩
theorem edge_iff (hP:PreP P) (hg:graphOk g) {x y v w:Nat} (hx:isNode g labels P x v) (hy:isNode g labels P y w):edge (nextF g P (nodesTo labels P g.states.length)) x y↔edge (esF g labels (tF P)) v w:=by
 obtain⟨s,k,s1,s2,s3,s4,rfl⟩:=hx
 obtain⟨s',k',t1,t2,t3,t4,rfl⟩:=hy
 obtain⟨d1,d2⟩:=addr_div (s:=s) s2
 rw[edge_next,edge_es,d1,d2]
 have hc:conn g P (nodesTo labels P g.states.length) x y=(decide ((s':Int)∈folS g s)&&stepL P (fullK P (labAt labels s) k) (fullK P (labAt labels s') k') P 0):=by
  unfold conn
  rw[s4,t4]
  rfl
 rw[hc,Bool.and_eq_true,decide_eq_true_eq,step_fol hP]
 have hx:=(List.getElem?_eq_some_iff.1 s4).1
 have hy:=(List.getElem?_eq_some_iff.1 t4).1
 constructor
 ·rintro⟨_,_,h1,h2⟩
  exact⟨addr_lt s1 s2,_,h1,k',t2,by rw[Int.toNat_natCast];exact h2,by rw[Int.toNat_natCast]⟩
 ·rintro⟨_,u,h1,k'',h2,h3,h4⟩
  obtain⟨u,rfl⟩:=Int.eq_ofNat_of_zero_le (((folS_of hg s1).2.2 u h1).1)
  rw[Int.toNat_natCast]at h3 h4
  have a1:=addr_div (s:=s') t2
  have a2:=addr_div (s:=u) h2
  rw[h4]at a1
  have e1:u=s':=a2.1.symm.trans a1.1
  have e2:k''=k':=a2.2.symm.trans a1.2
  subst e1;subst e2
  exact⟨hx,hy,h1,h3⟩
theorem plus_to (hP:PreP P) (hg:graphOk g) {x y:Nat} (h:Plus (edge (nextF g P (nodesTo labels P g.states.length))) x y):∀v w,isNode g labels P x v->isNode g labels P y w->Plus (edge (esF g labels (tF P))) v w:=by
 obtain⟨b,h1,h2⟩:=h
 revert x
 induction h2 with
 |refl b=>intro x h1 v w hv hw;exact⟨w,(edge_iff hP hg hv hw).1 h1,.refl _⟩
 | step e _ ih =>
  intro x h1 v w hv hw
  obtain⟨u,hu⟩:=node_of (g:=g) (labels:=labels) (P:=P) (edge_next.1 h1).2.1
  have:=ih e u w hu hw
  exact⟨u,(edge_iff hP hg hv hu).1 h1,this.star⟩
theorem plus_from (hP:PreP P) (hg:graphOk g) {v w:Nat} (h:Plus (edge (esF g labels (tF P))) v w):∀x y,isNode g labels P x v->isNode g labels P y w->Plus (edge (nextF g P (nodesTo labels P g.states.length))) x y:=by
 obtain⟨b,h1,h2⟩:=h
 revert v
 induction h2 with
 |refl b=>intro v h1 x y hx hy;exact⟨y,(edge_iff hP hg hx hy).2 h1,.refl _⟩
 | step e _ ih =>
  intro v h1 x y hx hy
  obtain⟨z,hz⟩:=edge_node hP hg e
  have:=ih e z y hz hy
  exact⟨z,(edge_iff hP hg hx hz).2 h1,this.star⟩
theorem plus_node (hP:PreP P) (hg:graphOk g) {v w:Nat} (h:Plus (edge (esF g labels (tF P))) v w):∃x,isNode g labels P x v:=h.elim fun _ q=>edge_node hP hg q.1
theorem paid_same (hP:PreP P) {i j:Nat} {t:Fm} (hi:P[i]? =some t) (hj:(tF P)[j]? =some t) {s k:Nat} (hk:k<2^(tF P).length):(hasB (((fullK P (labAt labels s) k:Nat):Int)).toNat (i:Int)=false\/kidv (fun x=>hasB (((fullK P (labAt labels s) k:Nat):Int)).toNat (idxF x P 0)) t.kids 1=true)↔(((s*2^(tF P).length+k)%2^(tF P).length).testBit j=false\/kidv (val (labAt labels ((s*2^(tF P).length+k) / 2^(tF P).length)) (tvF (tF P) ((s*2^(tF P).length+k)%2^(tF P).length))) t.kids 1=true):=by
 obtain⟨d1,d2⟩:=addr_div (s:=s) hk
 rw[d1,d2,Int.toNat_natCast,full_bit hP hi,kid_full hP (List.mem_of_getElem? hi),val_temp ((mem_tF.1 (List.mem_of_getElem? hj)).2)]
 unfold tvF
 rw[posF_self (tF_nodup hP) hj]
theorem fair_same (hP:PreP P) (hg:graphOk g) {j w:Nat} (hn:isNode g labels P j w):fairS (nodesTo labels P g.states.length) (farF (nextF g P (nodesTo labels P g.states.length)) (nodesTo labels P g.states.length).length) P j↔fairI labels (tF P) (esF g labels (tF P)) w:=by
 have hfar:=fun a b=>farAt_iff (next:=nextF g P (nodesTo labels P g.states.length)) (a:=a) (b:=b)
 rw[nextF_len]at hfar
 have lt_of:∀{a b},Plus (edge (nextF g P (nodesTo labels P g.states.length))) a b->a<(nodesTo labels P g.states.length).length:=fun h=>h.elim fun _ q=>(edge_next.1 q.1).1
 have hnode_lt:∀{x v},isNode g labels P x v->x<(nodesTo labels P g.states.length).length:=fun h=>by obtain⟨s,k,_,_,_,h4,_⟩:=h;exact(List.getElem?_eq_some_iff.1 h4).1
 unfold fairS fairI
 constructor
 ·rintro⟨h1,h2⟩
  refine⟨plus_to hP hg ((hfar j j).1 h1).2.2 w w hn hn,fun i t hi h7=> ?_⟩
  obtain⟨i',hi'⟩:=mem_at (mem_tF.1 (List.mem_of_getElem? hi)).1
  obtain⟨y,nd,q1,q2,q3,q4⟩:=h2 i' t hi' h7
  obtain⟨u,hu⟩:=node_of (g:=g) (labels:=labels) (P:=P) (List.getElem?_eq_some_iff.1 q1).1
  have hu':=hu
  obtain⟨s,k,s1,s2,s3,s4,rfl⟩:=hu
  rw[q1]at s4;cases s4
  exact⟨_,plus_to hP hg ((hfar j y).1 q3).2.2 w _ hn hu',(plus_to hP hg ((hfar y j).1 q4).2.2 _ w hu' hn).star,(paid_same hP hi' hi s2).1 q2⟩
 ·rintro⟨h1,h2⟩
  refine⟨(hfar j j).2 ⟨hnode_lt hn,hnode_lt hn,plus_from hP hg h1 j j hn hn⟩,fun i t hi h7=> ?_⟩
  obtain⟨i',hi'⟩:=mem_at (mem_tF.2 ⟨List.mem_of_getElem? hi,show 6<=t.kind by omega⟩)
  obtain⟨u,u1,u2,u3⟩:=h2 i' t hi' h7
  obtain⟨y,hy⟩:=plus_node hP hg (u2.plus h1)
  have hy':=hy
  obtain⟨s,k,s1,s2,s3,s4,rfl⟩:=hy
  refine⟨y,_,s4,(paid_same hP hi hi' s2).2 u3,(hfar j y).2 ⟨hnode_lt hn,hnode_lt hy',plus_from hP hg u1 j y hn hy'⟩,(hfar y j).2 ⟨hnode_lt hy',hnode_lt hn,plus_from hP hg (u2.plus h1) y j hy' hn⟩⟩
theorem some_same (hP:PreP P) (hg:graphOk g) {f:Fm} (hf:f∈P):someS g labels P f↔someI g labels (tF P) f:=by
 have hfair:=fun j w=>fair_same (g:=g) (labels:=labels) (P:=P) hP hg (j:=j) (w:=w)
 have htop:∀{k:Nat},hasB (((fullK P (labAt labels 0) k:Nat):Int)).toNat (idxF f P 0)=val (labAt labels 0) (tvF (tF P) k) f:=fun {k}=>by rw[Int.toNat_natCast];exact full_at hP hf
 unfold someS someI
 constructor
 ·rintro⟨j,⟨x,nd,x1,x2,x3,x4⟩,hj⟩
  obtain⟨v,hv⟩:=node_of (g:=g) (labels:=labels) (P:=P) (List.getElem?_eq_some_iff.1 x1).1
  have hv':=hv
  obtain⟨s,k,s1,s2,s3,s4,rfl⟩:=hv
  rw[x1]at s4;cases s4
  dsimp only at x2 x3
  have hs:s=0:=by omega
  subst hs
  rw[Nat.zero_mul,Nat.zero_add]at hv'
  have hjlt:j<(nodesTo labels P g.states.length).length:=by
   rcases x4.cases_plus with rfl|q
   ·exact(List.getElem?_eq_some_iff.1 x1).1
   ·obtain⟨b,b1,b2⟩:=q
    exact b2.inv (S:=fun y=>y<(nodesTo labels P g.states.length).length) (fun a b _ e=>(edge_next.1 e).2.1) (edge_next.1 b1).2.1
  rcases x4.cases_plus with rfl|q
  ·exact⟨k,⟨k,s2,by rw[<-htop];exact x3,.refl _⟩,(hfair _ _ hv').1 hj⟩
  ·obtain⟨w,hw⟩:=node_of (g:=g) (labels:=labels) (P:=P) hjlt
   exact⟨w,⟨k,s2,by rw[<-htop];exact x3,(plus_to hP hg q _ _ hv' hw).star⟩,(hfair _ _ hw).1 hj⟩
 ·rintro⟨w,⟨k,k1,k2,k3⟩,hw⟩
  obtain⟨j,hj⟩:=plus_node hP hg hw.1
  obtain⟨x,hx⟩:=plus_node hP hg (k3.plus hw.1)
  have hpl:=plus_from hP hg (k3.plus hw.1) x j hx hj
  refine⟨j,?_,(hfair _ _ hj).2 hw⟩
  obtain⟨s,k',s1,s2,s3,s4,e⟩:=hx
  have d1:=addr_div (s:=s) s2
  have d2:=addr_div (s:=0) k1
  rw[Nat.zero_mul,Nat.zero_add]at d2
  rw[<-e]at d1
  have e1:s=0:=d1.1.symm.trans d2.1
  have e2:k'=k:=d1.2.symm.trans d2.2
  subst e1;subst e2
  exact⟨x,_,s4,rfl,by rw[htop];exact k2,hpl.star⟩
end
end Go.Proofs.YtjafncnjefnloaaDoor.Den

namespace Go.Proofs.YtjafncnjefnloaaDoor.Den
open Go.RowKit
open Classical
def entOk (n:Nat) (l:List Int) (k:Nat):Prop:=∀x:Int,l[k]? =some x->0<=x/\x<n/\∀(j:Nat) (y:Int),k=j+1->l[j]? =some y->y<x
theorem row_split {n:Nat} {l:List Int} {i:Nat}:(∀k,i<=k->entOk n l k)↔entOk n l i/\∀k,i+1<=k->entOk n l k:=by
 constructor
 ·intro h;exact⟨h i (Nat.le_refl _),fun k hk=>h k (by omega)⟩
 ·rintro⟨h1,h2⟩ k hk
  rcases Nat.eq_or_lt_of_le hk with rfl|hk
  ·exact h1
  ·exact h2 k hk
section
variable {R : Type}
theorem iRow_loop (n N:Nat) (l:List Int) (hl:l.length<=2097152) (hn:l.length<n) (t25:List (List Int)) (t26 t27:Int) (k0:Bool->Option R) (k1:Option R):
  i_IsGraph.l8 ⟨()⟩ n n (N:Int) l t25 t26 t27 l (l.length:Int) 0 k0 k1=bif decide (rowOk N l)then k1 else k0 false:=by
 unfold i_IsGraph.l8
 refine(count0 l.length (fun t nx=>i_IsGraph.b8 ⟨()⟩ n (N:Int) l t25 t26 t27 l (l.length:Int) t nx k0 k1) (fun i=>bif decide (∀k,i<=k->entOk N l k)then k1 else k0 false) (fun nx=> ?_) (fun i nx hi hnx=> ?_) n 0 (by omega) (by omega)).trans ?_
 ·unfold i_IsGraph.b8
  rw[nlt_nat (by omega),cond_false,decide_eq_true,cond_true]
  intro k hk x hx
  have:=(List.getElem?_eq_some_iff.1 hx).1
  omega
 ·obtain⟨x,hx,hm⟩:=get_lt hi
  have no:¬entOk N l i->(bif decide (∀k,i<=k->entOk N l k)then k1 else k0 false)=k0 false:=fun h=>by
   rw[decide_eq_false (fun q=>h (row_split.1 q).1),cond_false]
  have yes:entOk N l i->(bif decide (∀k,i<=k->entOk N l k)then k1 else k0 false)=nx ((i+1:Nat):Int):=fun h=>by
   rw[hnx]
   congr 1
   exact decide_eq_decide.2 ⟨fun q=>(row_split.1 q).2,fun q=>row_split.2 ⟨h,q⟩⟩
  unfold i_IsGraph.b8
  rw[lt_nat hi,cond_true,ix_get hx,Option.bind_some,wr_one (by omega)]
  by_cases a1:x<0
  ·rw[decide_eq_true a1,cond_true]
   exact(no fun q=>by have:=q x hx;omega).symm
  ·rw [decide_eq_false a1, cond_false]
   by_cases a2:(N:Int)<=x
   ·rw[decide_eq_true a2,cond_true]
    exact(no fun q=>by have:=q x hx;omega).symm
   ·rw [decide_eq_false a2, cond_false]
    cases i with
    | zero =>
     rw[decide_eq_false (by simp),cond_false]
     exact(yes fun x' hx'=>by rw[hx]at hx';cases hx';exact⟨by omega,by omega,fun j y e=>by omega⟩).symm
    | succ j =>
     have hj:j<l.length:=by omega
     obtain⟨y,hy,_⟩:=get_lt hj
     rw[decide_eq_true (by omega),cond_true,wr_in (by omega),show ((j+1:Nat):Int)-1=(j:Int) by omega,ix_get hy,Option.bind_some]
     by_cases a3:x<=y
     ·rw[decide_eq_true a3,cond_true]
      exact(no fun q=>by have:=(q x hx).2.2 j y rfl hy;omega).symm
     ·rw[decide_eq_false a3,cond_false]
      refine(yes fun x' hx'=> ?_).symm
      rw[hx]at hx';cases hx'
      refine⟨by omega,by omega,fun j' y' e hy'=> ?_⟩
      have:j'=j:=by omega
      subst this
      rw[hy]at hy';cases hy';omega
 ·congr 1
  exact decide_eq_decide.2 ⟨fun q k=>q k (Nat.zero_le _),fun q k _=>q k⟩
abbrev gIn :Int->Int->Int->Option Bool:=fun x lo hi=>some (decide (lo<=x)&&decide (x<=hi))
theorem sRow_loop (n N:Nat) (hN:1<=N/\N<=40) (es:List (List Int)) {i:Nat} {l:List Int} (he:es[i]? =some l) (hl:l.length<=2097152) (hn:l.length<n) (sts:List Tm) (hs:sts.length=N) (wh:Bool) (k0:Bool->Option R) (k1:Option R):
  s_IsGraph.l7 ⟨gIn⟩ n n (i:Int) sts es wh 0 k0 k1=bif decide (rowOk N l)then k1 else k0 false:=by
 unfold s_IsGraph.l7
 refine(count0 l.length (fun t nx=>s_IsGraph.b7 ⟨gIn⟩ n (i:Int) sts es wh t nx k0 k1) (fun i=>bif decide (∀k,i<=k->entOk N l k)then k1 else k0 false) (fun nx=> ?_) (fun k nx hk hnx=> ?_) n 0 (by omega) (by omega)).trans ?_
 ·unfold s_IsGraph.b7
  rw[ix_get he,Option.bind_some,nlt_nat (by omega),cond_false,decide_eq_true,cond_true]
  intro k hk x hx
  have:=(List.getElem?_eq_some_iff.1 hx).1
  omega
 ·obtain⟨x,hx,hm⟩:=get_lt hk
  have no:¬entOk N l k->(bif decide (∀j,k<=j->entOk N l j)then k1 else k0 false)=k0 false:=fun h=>by
   rw[decide_eq_false (fun q=>h (row_split.1 q).1),cond_false]
  have yes:entOk N l k->(bif decide (∀j,k<=j->entOk N l j)then k1 else k0 false)=nx ((k+1:Nat):Int):=fun h=>by
   rw[hnx]
   congr 1
   exact decide_eq_decide.2 ⟨fun q=>(row_split.1 q).2,fun q=>row_split.2 ⟨h,q⟩⟩
  have e1:wr ((sts.length:Int)-1)=(N:Int)-1:=by rw[hs];exact wr_in (by omega)
  unfold s_IsGraph.b7
  simp only[ix_get he,Option.bind_some,lt_nat hk,cond_true,ix_get hx,wr_one (show k<4294967296 by omega),e1]
  by_cases a1:0<=x/\x<=(N:Int)-1
  ·rw [decide_eq_true a1.1, decide_eq_true a1.2, Bool.and_self, Bool.not_true, cond_false]
   cases k with
   | zero =>
    rw[decide_eq_false (by simp),cond_false]
    exact(yes fun x' hx'=>by rw[hx]at hx';cases hx';exact⟨by omega,by omega,fun j y e=>by omega⟩).symm
   | succ j =>
    have hj:j<l.length:=by omega
    obtain⟨y,hy,_⟩:=get_lt hj
    rw[decide_eq_true (by omega),cond_true,wr_in (x:=((j+1:Nat):Int)-1) (by omega),show ((j+1:Nat):Int)-1=(j:Int) by omega,ix_get hy,Option.bind_some]
    by_cases a3:x<=y
    ·rw[decide_eq_true a3,cond_true]
     exact(no fun q=>by have:=(q x hx).2.2 j y rfl hy;omega).symm
    ·rw[decide_eq_false a3,cond_false]
     refine(yes fun x' hx'=> ?_).symm
     rw[hx]at hx';cases hx'
     refine⟨by omega,by omega,fun j' y' e hy'=> ?_⟩
     have:j'=j:=by omega
     subst this
     rw[hy]at hy';cases hy';omega
  ·have e2:(decide (0<=x)&&decide (x<=(N:Int)-1))=false:=by
    rw[<-Bool.decide_and];exact decide_eq_false a1
   rw[e2,Bool.not_false,cond_true]
   exact(no fun q=>by have:=q x hx;omega).symm
 ·congr 1
  exact decide_eq_decide.2 ⟨fun q k=>q k (Nat.zero_le _),fun q k _=>q k⟩
end
def smallG (g:Gr):Prop:=g.states.length<=2097152/\g.edges.length<=2097152/\∀row∈g.edges,row.length<=2097152
noncomputable def gIsG:Gr->Option Bool:=fun g=>if smallG g then some (decide (graphOk g))else none
theorem iIsGraph_main {R:Type} (g:Gr) (h:smallG g) (K:Bool->Option R):i_IsGraph.main ⟨()⟩ 2097153 g K=K (decide (graphOk g)):=by
 obtain⟨h1,h2,h3⟩:=h
 unfold i_IsGraph.main
 by_cases c1:g.states.length<1
 ·rw[decide_eq_true (by omega),cond_true,decide_eq_false (p:=graphOk g) (fun q=>by have:=q.1;omega)]
 ·rw [decide_eq_false (by omega), cond_false]
  by_cases c2:40<g.states.length
  ·rw[decide_eq_true (by omega),cond_true,decide_eq_false (p:=graphOk g) (fun q=>by have:=q.2.1;omega)]
  ·rw [decide_eq_false (by omega), cond_false]
   by_cases c3:g.edges.length=g.states.length
   ·rw [decide_eq_true (by omega), Bool.not_true, cond_false]
    unfold i_IsGraph.l5
    refine(count0 g.edges.length (fun t nx=>i_IsGraph.b5 ⟨()⟩ 2097153 (g.states.length:Int) g.edges (g.edges.length:Int) t nx (fun t2=>K t2) (K true)) (fun i=>K (decide (∀row∈g.edges.drop i,rowOk g.states.length row))) (fun nx=> ?_) (fun i nx hi hnx=> ?_) 2097153 0 (by omega) (by omega)).trans ?_
    ·unfold i_IsGraph.b5
     rw[nlt_nat (by omega),cond_false,drop_nat];simp
    ·obtain⟨row,hr,hrm⟩:=get_lt hi
     obtain⟨hlt,e⟩:=List.getElem?_eq_some_iff.1 hr
     unfold i_IsGraph.b5
     rw[lt_nat hi,cond_true,ix_get hr,Option.bind_some,iRow_loop 2097153 g.states.length row (h3 row hrm) (by have:=h3 row hrm;omega),wr_one (by omega),hnx,List.drop_eq_getElem_cons hlt,e]
     by_cases ho:rowOk g.states.length row
     ·rw[decide_eq_true ho,cond_true]
      congr 1
      exact decide_eq_decide.2 ⟨fun q r hr=>(List.mem_cons.1 hr).elim (fun e=>e▸ho) (q r),fun q r hr=>q r (List.mem_cons_of_mem _ hr)⟩
     ·rw[decide_eq_false ho,cond_false,decide_eq_false (fun q=>ho (q row (by simp)))]
    ·rw[List.drop_zero]
     congr 1
     exact decide_eq_decide.2 ⟨fun q=>⟨by omega,by omega,c3,q⟩,fun q=>q.2.2.2⟩
   ·rw[decide_eq_false (by omega),Bool.not_false,cond_true,decide_eq_false (p:=graphOk g) (fun q=>c3 q.2.2.1)]
theorem sIsGraph_main {R:Type} (g:Gr) (h:smallG g) (K:Bool->Option R):s_IsGraph.main ⟨gIn⟩ 2097153 g K=K (decide (graphOk g)):=by
 obtain⟨h1,h2,h3⟩:=h
 unfold s_IsGraph.main
 by_cases c1:g.states.length<1
 ·rw[decide_eq_true (by omega),cond_true,decide_eq_false (p:=graphOk g) (fun q=>by have:=q.1;omega)]
 ·rw [decide_eq_false (by omega), cond_false]
  by_cases c2:40<g.states.length
  ·rw[decide_eq_true (by omega),cond_true,decide_eq_false (p:=graphOk g) (fun q=>by have:=q.2.1;omega)]
  ·rw [decide_eq_false (by omega), cond_false]
   by_cases c3:g.edges.length=g.states.length
   ·rw [decide_eq_true (by omega), Bool.not_true, cond_false]
    unfold s_IsGraph.l4
    refine(count0 g.edges.length (fun t nx=>s_IsGraph.b4 ⟨gIn⟩ 2097153 g.states g.edges g.whole t nx (fun t2=>K t2) (K true)) (fun i=>K (decide (∀row∈g.edges.drop i,rowOk g.states.length row))) (fun nx=> ?_) (fun i nx hi hnx=> ?_) 2097153 0 (by omega) (by omega)).trans ?_
    ·unfold s_IsGraph.b4
     rw[nlt_nat (by omega),cond_false,drop_nat];simp
    ·obtain⟨row,hr,hrm⟩:=get_lt hi
     obtain⟨hlt,e⟩:=List.getElem?_eq_some_iff.1 hr
     unfold s_IsGraph.b4
     rw[lt_nat hi,cond_true,sRow_loop 2097153 g.states.length ⟨by omega,by omega⟩ g.edges hr (h3 row hrm) (by have:=h3 row hrm;omega) g.states rfl,wr_one (by omega),hnx,List.drop_eq_getElem_cons hlt,e]
     by_cases ho:rowOk g.states.length row
     ·rw[decide_eq_true ho,cond_true]
      congr 1
      exact decide_eq_decide.2 ⟨fun q r hr=>(List.mem_cons.1 hr).elim (fun e=>e▸ho) (q r),fun q r hr=>q r (List.mem_cons_of_mem _ hr)⟩
     ·rw[decide_eq_false ho,cond_false,decide_eq_false (fun q=>ho (q row (by simp)))]
    ·rw[List.drop_zero]
     congr 1
     exact decide_eq_decide.2 ⟨fun q=>⟨by omega,by omega,c3,q⟩,fun q=>q.2.2.2⟩
   ·rw[decide_eq_false (by omega),Bool.not_false,cond_true,decide_eq_false (p:=graphOk g) (fun q=>c3 q.2.2.1)]
theorem iIsGraph_ok :EntOK Tryd.prog (i_IsGraph.ent gIsG):=i_IsGraph.ok (G:=⟨()⟩) trivial fun g r h=>by
 unfold gIsG at h
 split at h
 ·rename_i hp
  cases h
  exact⟨2097153,iIsGraph_main g hp _⟩
 ·cases h
theorem sIsGraph_ok :EntOK Tryd.prog (s_IsGraph.ent gIsG):=s_IsGraph.ok (G:=⟨gIn⟩) ⟨l1In_ok,trivial⟩ fun g r h=>by
 unfold gIsG at h
 split at h
 ·rename_i hp
  cases h
  exact⟨2097153,sIsGraph_main g hp _⟩
 ·cases h
def byteL (labels:List Int):Prop:=∀l∈labels,0<=l/\l<=255
noncomputable def gLab:List Int->Option Bool:=fun labels=>if labels.length<=2097152 then some (decide (byteL labels))else none
theorem byteL_cons {x:Int} {l:List Int}:byteL (x::l)↔(0<=x/\x<=255)/\byteL l:=by unfold byteL;simp
theorem iLab_main {R:Type} (labels:List Int) (hp:labels.length<=2097152) (K:Bool->Option R):i_labelsOK.main ⟨()⟩ 2097153 labels K=K (decide (byteL labels)):=by
 unfold i_labelsOK.main i_labelsOK.l2
 refine(count0 labels.length (fun t nx=>i_labelsOK.b2 ⟨()⟩ 2097153 labels (labels.length:Int) t nx (fun t2=>K t2) (K true)) (fun i=>K (decide (byteL (labels.drop i)))) (fun nx=> ?_) (fun i nx hi hnx=> ?_) 2097153 0 (by omega) (by omega)).trans ?_
 ·unfold i_labelsOK.b2
  rw[nlt_nat (by omega),cond_false,drop_nat];simp[byteL]
 ·obtain⟨x,hx,hm⟩:=get_lt hi
  obtain⟨hlt,e⟩:=List.getElem?_eq_some_iff.1 hx
  unfold i_labelsOK.b2
  rw[lt_nat hi,cond_true,ix_get hx,Option.bind_some,wr_one (by omega),hnx,List.drop_eq_getElem_cons hlt,e]
  by_cases a1:x<0
  ·rw[decide_eq_true a1,cond_true,decide_eq_false (fun q=>by have:=(byteL_cons.1 q).1;omega)]
  ·rw[decide_eq_false a1,cond_false]
   by_cases a2:255<x
   ·rw[decide_eq_true a2,cond_true,decide_eq_false (fun q=>by have:=(byteL_cons.1 q).1;omega)]
   ·rw[decide_eq_false a2,cond_false]
    congr 1
    exact decide_eq_decide.2 ⟨fun q=>byteL_cons.2 ⟨⟨by omega,by omega⟩,q⟩,fun q=>(byteL_cons.1 q).2⟩
 ·rw[List.drop_zero]
theorem iLab_ok :EntOK Tryd.prog (i_labelsOK.ent gLab):=i_labelsOK.ok (G:=⟨()⟩) trivial fun labels r h=>by
 unfold gLab at h
 split at h
 ·rename_i hp
  cases h
  exact⟨2097153,iLab_main labels hp _⟩
 ·cases h
theorem sLab_main {R:Type} (labels:List Int) (hp:labels.length<=2097152) (K:Bool->Option R):s_l31Labels.main ⟨gIn⟩ 2097153 labels K=K (decide (byteL labels)):=by
 unfold s_l31Labels.main s_l31Labels.l2
 refine(count0 labels.length (fun t nx=>s_l31Labels.b2 ⟨gIn⟩ 2097153 labels t nx (fun t2=>K t2) (K true)) (fun i=>K (decide (byteL (labels.drop i)))) (fun nx=> ?_) (fun i nx hi hnx=> ?_) 2097153 0 (by omega) (by omega)).trans ?_
 ·unfold s_l31Labels.b2
  rw[nlt_nat (by omega),cond_false,drop_nat];simp[byteL]
 ·obtain⟨x,hx,hm⟩:=get_lt hi
  obtain⟨hlt,e⟩:=List.getElem?_eq_some_iff.1 hx
  unfold s_l31Labels.b2
  dsimp only
  rw[lt_nat hi,cond_true,ix_get hx,Option.bind_some,Option.bind_some,wr_one (by omega),hnx,List.drop_eq_getElem_cons hlt,e]
  by_cases a1:0<=x/\x<=255
  ·rw[decide_eq_true a1.1,decide_eq_true a1.2,Bool.and_self,Bool.not_true,cond_false]
   congr 1
   exact decide_eq_decide.2 ⟨fun q=>byteL_cons.2 ⟨a1,q⟩,fun q=>(byteL_cons.1 q).2⟩
  ·have e2:(decide (0<=x)&&decide (x<=255))=false:=by
    rw[<-Bool.decide_and];exact decide_eq_false a1
   rw[e2,Bool.not_false,cond_true,decide_eq_false (fun q=>a1 (byteL_cons.1 q).1)]
 ·rw[List.drop_zero]
theorem sLab_ok :EntOK Tryd.prog (s_l31Labels.ent gLab):=s_l31Labels.ok (G:=⟨gIn⟩) ⟨l1In_ok,trivial⟩ fun labels r h=>by
 unfold gLab at h
 split at h
 ·rename_i hp
  cases h
  exact⟨2097153,sLab_main labels hp _⟩
 ·cases h
end Go.Proofs.YtjafncnjefnloaaDoor.Den

namespace Go.Proofs.YtjafncnjefnloaaDoor.Den
open Go.RowKit
open Classical
theorem temps_same :∀(k k':Nat) (f:Fm) (acc:List Fm),f.size<=k->f.size<=k'->temps k f acc=temps k' f acc
 |0,_,f,_,h,_=>by rw[Fm.size_eq]at h;omega
 |_,0,f,_,_,h=>by rw[Fm.size_eq]at h;omega
 | k + 1, k' + 1, f, acc, h, h' => by
  have key:∀(xs:List Fm) (acc:List Fm),(∀x∈xs,x.size<=k/\x.size<=k')->xs.foldl (fun a x=>temps k x a) acc=xs.foldl (fun a x=>temps k' x a) acc:=by
   intro xs
   induction xs with
   |nil=>intro acc _;rfl
   |cons x xs ih=>intro acc h;rw[List.foldl_cons,List.foldl_cons,temps_same k k' x acc (h x (by simp)).1 (h x (by simp)).2,ih _ (fun y hy=>h y (by simp[hy]))]
  show add6 f _=add6 f _
  rw[key f.kids acc (fun x hx=>by have:=size_mem hx;omega)]
def notF (f:Fm):Fm:=⟨3,0,[f]⟩
theorem notF_size (f:Fm):(notF f).size=1+f.size:=by rw[Fm.size_eq];simp[notF]
theorem notF_ok {f:Fm} (h:f.ok=true):(notF f).ok=true:=by
 rw[ok_parts_eq]
 simp[notF,h,okHead,arity]
theorem notF_good {f:Fm} (h:isFormula f=true):goodF (notF f):=⟨by rw[notF_size];have:=(isF_parts h).1;omega,notF_ok (isF_parts h).2⟩
theorem isF_good {f:Fm} (h:isFormula f=true):goodF f:=⟨by have:=(isF_parts h).1;omega,(isF_parts h).2⟩
theorem notF_temps {f:Fm} (h:isFormula f=true):temps 13 (notF f) []=temps 13 f []:=by
 have e:temps 13 (notF f) []=add6 (notF f) (temps 12 f []):=rfl
 rw[e]
 unfold add6
 rw[if_neg (c:=((notF f).kind=6\/(notF f).kind=7)/\notF f∉temps 12 f []) (fun q=>by have:=q.1;simp[notF]at this)]
 exact temps_same 12 13 f [] (isF_parts h).1 (by have:=(isF_parts h).1;omega)
def chkOk (g:Gr) (labels:List Int) (f:Fm):Prop:=graphOk g/\labels.length=g.states.length/\byteL labels/\isFormula f=true/\(temps 13 f []).length<=4
def smallA (g:Gr) (labels:List Int) (f:Fm):Prop:=smallG g/\labels.length<=2097152/\f.size<=2097152
noncomputable def gChk:Gr->List Int->Fm->Option Bool:=fun g labels f=>if smallA g labels f then some (decide (chkOk g labels f))else none
theorem chk_main {R:Type} (g:Gr) (labels:List Int) (f:Fm) (h:smallA g labels f) (K:Bool->Option R):i_checkable.main ⟨gIsG,gLab,gIs 2097152,gTempsI⟩ 1 g labels f K=K (decide (chkOk g labels f)):=by
 obtain⟨h1,h2,h3⟩:=h
 unfold i_checkable.main
 simp only[Fm.eta]
 rw[show gIsG g=some _ from if_pos h1,Option.bind_some]
 by_cases c1:graphOk g
 ·rw [decide_eq_true c1, cond_true]
  by_cases c2:labels.length=g.states.length
  ·rw [decide_eq_true (by omega), cond_true, show gLab labels = some _ from if_pos h2, Option.bind_some]
   by_cases c3:byteL labels
   ·rw[decide_eq_true c3,cond_true,show gIs 2097152 f=some _ from if_pos h3,Option.bind_some]
    cases c4:isFormula f
    ·rw[cond_false,decide_eq_false (fun q=>by have:=q.2.2.2.1;rw[c4]at this;cases this)]
    ·have e1:gTempsI f []=some (temps 13 f []):=if_pos ⟨(isF_good c4).1,isF_good c4,by simp,by have:=(isF_good c4).1;simp;omega⟩
     rw[cond_true,e1,Option.bind_some]
     congr 1
     exact decide_eq_decide.2 ⟨fun q=>⟨c1,c2,c3,c4,by omega⟩,fun q=>by have:=q.2.2.2.2;omega⟩
   ·rw[decide_eq_false c3,cond_false,decide_eq_false (fun q=>c3 q.2.2.1)]
  ·rw[decide_eq_false (by omega),cond_false,decide_eq_false (fun q=>c2 q.2.1)]
 ·rw[decide_eq_false c1,cond_false,decide_eq_false (fun q=>c1 q.1)]
theorem chk_ok :EntOK Tryd.prog (i_checkable.ent gChk):=i_checkable.ok (G:=⟨gIsG,gLab,gIs 2097152,gTempsI⟩) ⟨iIsGraph_ok,iLab_ok,i_IsFormula_ok _ (by omega),tempsI_ok,trivial⟩ fun g labels f r h=>by
 unfold gChk at h
 split at h
 ·rename_i hp
  cases h
  exact⟨1,chk_main g labels f hp _⟩
 ·cases h
noncomputable def gCount:Fm->Option Int:=fun f=>if goodF f then some ((temps 13 f []).length:Int)else none
theorem count_main {R:Type} (f:Fm) (hf:goodF f) (K:Int->Option R):s_l32Temporal.main ⟨gParts 13⟩ 1001 f K=K ((temps 13 f []).length:Int):=by
 have e1:gParts 13 f []=some (parts 13 f []):=if_pos ⟨hf.1,hf,by simp,by have:=hf.1;simp;omega⟩
 have e2:=tF_parts 13 f [] hf
 have hl:=(parts_grow 13 f [] hf).1
 have h13:=hf.1
 simp only[List.length_nil]at hl
 have e3:temps 13 f []=tF (parts 13 f []):=e2.symm
 rw[e3]
 unfold s_l32Temporal.main
 simp only[Fm.eta]
 rw[e1,Option.bind_some]
 generalize parts 13 f []=P at*
 unfold s_l32Temporal.l4
 refine countR P.length (fun a t nx=>s_l32Temporal.b4 ⟨gParts 13⟩ 1001 P a t nx (fun n12=>K n12)) (fun i a=>a=((tF (P.take i)).length:Int)) (fun _ _=>K ((tF P).length:Int)) (fun a nx ha=> ?_) (fun i a nx hi ha hnx=> ?_) 1001 0 0 (by simp[tF]) (by omega) (by omega)
 ·unfold s_l32Temporal.b4
  rw[nlt_nat (by omega),cond_false,ha,take_all]
 ·subst ha
  obtain⟨p,hp,hm⟩:=get_lt hi
  obtain⟨hlt,e⟩:=List.getElem?_eq_some_iff.1 hp
  have hle:(tF (P.take i)).length<=i:=by
   unfold tF
   exact Nat.le_trans (List.length_filter_le _ _) (by rw[List.length_take];omega)
  have hs:tF (P.take (i+1))=tF (P.take i)++tF [p]:=by rw[List.take_succ_eq_append_getElem hlt,e,tF_app]
  unfold s_l32Temporal.b4
  rw[lt_nat hi,cond_true,ix_get hp,Option.bind_some,wr_one (by omega),wr_one (by omega)]
  by_cases h6:6<=p.kind
  ·rw[decide_eq_true h6,cond_true]
   exact hnx _ (by rw[hs,List.length_append];simp[tF,h6])
  ·rw[decide_eq_false h6,cond_false]
   exact hnx _ (by rw[hs,List.length_append];simp[tF,h6])
theorem count_ok :EntOK Tryd.prog (s_l32Temporal.ent gCount):=s_l32Temporal.ok (G:=⟨gParts 13⟩) ⟨parts_ok 13,trivial⟩ fun f r h=>by
 unfold gCount at h
 split at h
 ·rename_i hp
  cases h
  exact⟨1001,count_main f hp _⟩
 ·cases h
theorem rightG_main {R:Type} (g:Gr) (labels:List Int) (f:Fm) (h:smallA g labels f) (K:Bool->Option R):s_l32Right.main ⟨gIsG,gLab,gIs 2097152,gCount⟩ 1 g labels f K=K (decide (chkOk g labels f)):=by
 obtain⟨h1,h2,h3⟩:=h
 unfold s_l32Right.main
 simp only[Fm.eta]
 rw[show gIsG g=some _ from if_pos h1,Option.bind_some]
 by_cases c1:graphOk g
 ·rw [decide_eq_true c1, cond_true]
  by_cases c2:labels.length=g.states.length
  ·rw [decide_eq_true (by omega), cond_true, show gLab labels = some _ from if_pos h2, Option.bind_some]
   by_cases c3:byteL labels
   ·rw[decide_eq_true c3,cond_true,show gIs 2097152 f=some _ from if_pos h3,Option.bind_some]
    cases c4:isFormula f
    ·rw[cond_false,decide_eq_false (fun q=>by have:=q.2.2.2.1;rw[c4]at this;cases this)]
    ·have e1:gCount f=some ((temps 13 f []).length:Int):=if_pos (isF_good c4)
     rw[cond_true,e1,Option.bind_some]
     congr 1
     exact decide_eq_decide.2 ⟨fun q=>⟨c1,c2,c3,c4,by omega⟩,fun q=>by have:=q.2.2.2.2;omega⟩
   ·rw[decide_eq_false c3,cond_false,decide_eq_false (fun q=>c3 q.2.2.1)]
  ·rw[decide_eq_false (by omega),cond_false,decide_eq_false (fun q=>c2 q.2.1)]
 ·rw[decide_eq_false c1,cond_false,decide_eq_false (fun q=>c1 q.1)]
theorem right_ok :EntOK Tryd.prog (s_l32Right.ent gChk):=s_l32Right.ok (G:=⟨gIsG,gLab,gIs 2097152,gCount⟩) ⟨sIsGraph_ok,sLab_ok,s_IsFormula_ok _ (by omega),count_ok,trivial⟩ fun g labels f r h=>by
 unfold gChk at h
 split at h
 ·rename_i hp
  cases h
  exact⟨1,rightG_main g labels f hp _⟩
 ·cases h
theorem chk_preN {g:Gr} {labels:List Int} {f:Fm} (h:chkOk g labels f):PreM g labels (notF f):=⟨h.1,⟨h.2.1,h.2.2.1⟩,notF_good h.2.2.2.1,by rw[notF_temps h.2.2.2.1];exact h.2.2.2.2⟩
theorem runs_some {g:Gr} {labels:List Int} {f:Fm} (h:PreM g labels f):gSome g labels f=some (decide (someI g labels (temps 13 f []) f))/\gRuns g labels f=some (decide (someI g labels (temps 13 f []) f)):=by
 obtain⟨p1,p2,p3⟩:=parts_nil h.2.2.1 h.2.2.2
 refine⟨if_pos h,?_⟩
 unfold gRuns
 rw[if_pos ⟨h.1,h.2.1,h.2.2.1,p1⟩]
 congr 1
 refine decide_eq_decide.2 ?_
 rw[some_same p1 h.1 p3,p2]
noncomputable def allF (g:Gr) (labels:List Int) (f:Fm):Bool×Bool:=if chkOk g labels f then (!decide (someI g labels (temps 13 (notF f) []) (notF f)),true)else (false,false)
noncomputable def gAll:Gr->List Int->Fm->Option (Bool×Bool):=fun g labels f=>if smallA g labels f then some (allF g labels f)else none
theorem iAll_ok :EntOK Tryd.prog (i_AllRunsHold.ent gAll):=i_AllRunsHold.ok (G:=⟨gChk,gSome⟩) ⟨chk_ok,some_ok,trivial⟩ fun g labels f r h=>by
 unfold gAll at h
 split at h
 ·rename_i hp
  cases h
  refine⟨1,?_⟩
  unfold i_AllRunsHold.main allF
  simp only[Fm.eta]
  rw[show gChk g labels f=some _ from if_pos hp,Option.bind_some]
  by_cases c:chkOk g labels f
  ·rw[decide_eq_true c,Bool.not_true,cond_false,if_pos c,show gSome g labels (Fm.mk 3 0 [f])=some _ from (runs_some (chk_preN c)).1];rfl
  ·rw[decide_eq_false c,if_neg c];rfl
 ·cases h
theorem sAll_ok :EntOK Tryd.prog (s_AllRunsHold.ent gAll):=s_AllRunsHold.ok (G:=⟨gChk,gRuns⟩) ⟨right_ok,runs_ok,trivial⟩ fun g labels f r h=>by
 unfold gAll at h
 split at h
 ·rename_i hp
  cases h
  refine⟨1,?_⟩
  unfold s_AllRunsHold.main allF
  simp only[Fm.eta]
  rw[show gChk g labels f=some _ from if_pos hp,Option.bind_some]
  by_cases c:chkOk g labels f
  ·rw[decide_eq_true c,Bool.not_true,cond_false,if_pos c,show gRuns g labels (Fm.mk 3 0 [f])=some _ from (runs_some (chk_preN c)).2];rfl
  ·rw[decide_eq_false c,if_neg c];rfl
 ·cases h
end Go.Proofs.YtjafncnjefnloaaDoor.Den
