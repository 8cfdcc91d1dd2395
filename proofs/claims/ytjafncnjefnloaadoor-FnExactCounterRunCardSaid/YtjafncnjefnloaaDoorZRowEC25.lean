import Derived.Test.YtjafncnjefnloaaDoorZRowEC21
namespace Go.Proofs.YtjafncnjefnloaaDoor.Den
open Go.RowKit
abbrev gText (k:Nat):Fm->Option ByteArray:=fun f=>if f.size<=k/\f.size<=13/\f.ok=true then some (Fm.text f)else none
abbrev gNum :Int->Option ByteArray:=fun q=>if 0<=q/\q<=7 then some (numB q)else none
theorem i_FormatInt_ok :EntOK Tryd.prog (i_FormatInt.ent gNum):=i_FormatInt.ok (G:=⟨itoaF⟩) ⟨strconv_Itoa_ok,trivial⟩ fun q r h=>by
 unfold gNum at h
 split at h
 ·rename_i hq
  cases h
  refine⟨1,?_⟩
  unfold i_FormatInt.main
  show Option.bind (itoaF q) _=_
  unfold itoaF
  rw[if_pos (by omega)]
  rfl
 ·cases h
theorem s_FormatInt_ok :EntOK Tryd.prog (s_FormatInt.ent gNum):=s_FormatInt.ok (G:=⟨()⟩) trivial fun q r h=>by
 unfold gNum at h
 split at h
 ·rename_i hq
  cases h
  refine⟨9,?_⟩
  rw[numB_eq hq]
  have hc:q=0\/q=1\/q=2\/q=3\/q=4\/q=5\/q=6\/q=7:=by omega
  rcases hc with rfl|rfl|rfl|rfl|rfl|rfl|rfl|rfl<;>(refine Eq.trans (b:=some (AT.one (.s _),[])) ?_ rfl;kernel_rfl)
 ·cases h
def smallJ :List ByteArray->Bool
 |[a]=>decide (a.size<=1000)
 |[a,b]=>decide (a.size<=1000)&&decide (b.size<=1000)
 |_=>false
theorem smallJ_cases :∀{xs:List ByteArray},smallJ xs=true->(∃a,xs=[a]/\a.size<=1000)\/∃a b,xs=[a,b]/\a.size<=1000/\b.size<=1000
 |[a],h=>.inl ⟨a,rfl,of_decide_eq_true h⟩
 | [a, b], h => by
  simp only[smallJ,Bool.and_eq_true,decide_eq_true_eq]at h
  exact .inr ⟨a,b,rfl,h⟩
abbrev gJoin :List ByteArray->ByteArray->Option ByteArray:=fun xs sep=>if sep=sep2/\smallJ xs=true then some (joinB xs sep)else none
section
variable {R : Type}
theorem c7_eq {n:Nat} {xs:List ByteArray} {sep e:ByteArray} {i:Int} {h:List Int} (hx:ix xs i=some e) (hl:h.length+e.size<=1048576) (k0:ByteArray->Option R) (k1:List ByteArray->ByteArray->Int->List Int->Option R):s_Join.c7 ⟨()⟩ n xs sep i h k0 k1=k1 xs sep i (h++ofS e):=by
 unfold s_Join.c7
 have e1:(List.append h (ofS e))=h++ofS e:=rfl
 rw[hx,Option.bind_some,e1,lim_eq (by rw[List.length_append,ofS_len];omega),Option.bind_some,decide_eq_false (by rw[List.length_append,ofS_len];omega),cond_false]
theorem join_one_main (a sep:ByteArray) (ha:a.size<=1000) (K:ByteArray->Option R):s_Join.main ⟨()⟩ 4 [a] sep K=K a:=by
 show s_Join.b3 ⟨()⟩ 4 [a] sep 0 [] (fun y0 y1 y2 y3=>s_Join.l3 ⟨()⟩ 4 3 y0 y1 y2 y3 (fun t4=>K t4) (fun h0=>K (sOf h0))) (fun t4=>K t4) (fun h0=>K (sOf h0))=_
 unfold s_Join.b3
 rw[decide_eq_true (by simp),cond_true,decide_eq_false (by omega),cond_false,c7_eq (e:=a) rfl (by simp;omega),List.nil_append]
 show s_Join.b3 ⟨()⟩ 4 [a] sep (wr (0+1)) (ofS a) (fun y0 y1 y2 y3=>s_Join.l3 ⟨()⟩ 4 2 y0 y1 y2 y3 (fun t4=>K t4) (fun h0=>K (sOf h0))) (fun t4=>K t4) (fun h0=>K (sOf h0))=_
 unfold s_Join.b3
 rw[wr_in (by omega),decide_eq_false (by simp),cond_false]
 show K (sOf (ofS a))=_
 rw[sOf_ofS]
theorem join_two_main (a b sep:ByteArray) (ha:a.size<=1000) (hb:b.size<=1000) (hs:sep.size<=1000) (K:ByteArray->Option R):s_Join.main ⟨()⟩ 4 [a,b] sep K=K (a++sep++b):=by
 show s_Join.b3 ⟨()⟩ 4 [a,b] sep 0 [] (fun y0 y1 y2 y3=>s_Join.l3 ⟨()⟩ 4 3 y0 y1 y2 y3 (fun t4=>K t4) (fun h0=>K (sOf h0))) (fun t4=>K t4) (fun h0=>K (sOf h0))=_
 unfold s_Join.b3
 rw[decide_eq_true (by simp),cond_true,decide_eq_false (by omega),cond_false,c7_eq (e:=a) rfl (by simp;omega),List.nil_append]
 show s_Join.b3 ⟨()⟩ 4 [a,b] sep (wr (0+1)) (ofS a) (fun y0 y1 y2 y3=>s_Join.l3 ⟨()⟩ 4 2 y0 y1 y2 y3 (fun t4=>K t4) (fun h0=>K (sOf h0))) (fun t4=>K t4) (fun h0=>K (sOf h0))=_
 unfold s_Join.b3
 have e1:(List.append (ofS a) (ofS sep))=ofS a++ofS sep:=rfl
 rw[wr_in (x:=0+1) (by omega),decide_eq_true (by simp),cond_true,decide_eq_true (by omega),cond_true,e1,lim_eq (by rw[List.length_append,ofS_len,ofS_len];omega),Option.bind_some,
  c7_eq (e:=b) rfl (by rw[List.length_append,ofS_len,ofS_len];omega)]
 show s_Join.b3 ⟨()⟩ 4 [a,b] sep (wr (0+1+1)) (ofS a++ofS sep++ofS b) (fun y0 y1 y2 y3=>s_Join.l3 ⟨()⟩ 4 1 y0 y1 y2 y3 (fun t4=>K t4) (fun h0=>K (sOf h0))) (fun t4=>K t4) (fun h0=>K (sOf h0))=_
 unfold s_Join.b3
 rw[wr_in (x:=0+1+1) (by omega),decide_eq_false (by simp),cond_false]
 show K (sOf (ofS a++ofS sep++ofS b))=_
 rw[sOf_app,sOf_app,sOf_ofS,sOf_ofS,sOf_ofS]
end
theorem s_Join_ok :EntOK Tryd.prog (s_Join.ent gJoin):=s_Join.ok (G:=⟨()⟩) trivial fun xs sep r h=>by
 unfold gJoin at h
 split at h
 ·rename_i hc
  cases h
  obtain⟨rfl,hc⟩:=hc
  obtain⟨a,rfl,ha⟩|⟨a,b,rfl,ha,hb⟩:=smallJ_cases hc
  ·exact⟨4,by rw[join_one_main a sep2 ha,joinB_one]⟩
  ·exact⟨4,by rw[join_two_main a b sep2 ha hb (by decide),joinB_two]⟩
 ·cases h
theorem kids_join {f:Fm} (h:f.ok=true) (hs:f.size<=13) (h1:f.kind≠1) (h2:f.kind≠2):gJoin (f.kids.map Fm.text) sep2=some (joinB (f.kids.map Fm.text) sep2)/\joinF (f.kids.map Fm.text) sep2=some (joinB (f.kids.map Fm.text) sep2)/\(joinB (f.kids.map Fm.text) sep2).size<=500/\1<=f.kids.length/\f.kids.length<=2/\3<=f.kind/\f.kind<=7/\∀x∈f.kids,x.ok=true:=by
 have hz:=Fm.size_eq f
 rcases ok_cases h with⟨c,_⟩|⟨c,_,q0,q1⟩|⟨c,a,hk,ha⟩|⟨c,a,b,hk,ha,hb⟩
 ·exact absurd c h1
 ·exact absurd c h2
 ·rw[hk]at hz
  simp only[List.map_cons,List.map_nil,List.sum_cons,List.sum_nil]at hz
  have:=text_size 13 a (by omega) ha
  have hj:(joinB [Fm.text a] sep2).size<=500:=by rw[joinB_one];omega
  rw[hk]
  simp only[List.map_cons,List.map_nil]
  exact⟨if_pos ⟨rfl,decide_eq_true (by omega)⟩,joinF_eq (by simp) (by omega),hj,by simp,by simp,by omega,by omega,fun x hx=>by rw[List.mem_singleton.1 hx];exact ha⟩
 ·rw[hk]at hz
  simp only[List.map_cons,List.map_nil,List.sum_cons,List.sum_nil]at hz
  have:=text_size 13 a (by omega) ha
  have:=text_size 13 b (by omega) hb
  have s3:sep2.size=2:=rfl
  have hj:(joinB [Fm.text a,Fm.text b] sep2).size<=500:=by rw[joinB_two,app_size,app_size];omega
  rw[hk]
  simp only[List.map_cons,List.map_nil]
  exact⟨if_pos ⟨rfl,by simp only[smallJ,Bool.and_eq_true,decide_eq_true_eq];omega⟩,joinF_eq (by simp) (by omega),hj,by simp,by simp,by omega,by omega,fun x hx=>by
   rcases List.mem_cons.1 hx with e|e
   ·rw[e];exact ha
   ·rw[List.mem_singleton.1 e];exact hb⟩
section
variable {R : Type}
theorem itext_loop (n k:Nat) (gF:Int->Option ByteArray) (gJ:List ByteArray->ByteArray->Option ByteArray) (wd:ByteArray) (kids:List Fm) (hk:∀x∈kids,x.size<=k/\x.size<=13/\x.ok=true) (hl:kids.length<=2) (k0:ByteArray->List ByteArray->Option R):∀m (i:Int) (h0:List ByteArray),0<=i->i<=kids.length->h0.length<=i->(kids.length-i).toNat<m->
  i_formulaText.l19 ⟨gF,gText k,gJ⟩ n m wd kids (kids.length:Int) i h0 k0=k0 wd (h0++(kids.drop i.toNat).map Fm.text):=by
 intro m
 induction m with
 |zero=>intro i h0 _ _ _ hm;omega
 | succ m ih =>
  intro i h0 q0 q1 ql hm
  show i_formulaText.b19 ⟨gF,gText k,gJ⟩ n wd kids (kids.length:Int) i h0 (fun y0 y1 y2 y3 y4=>i_formulaText.l19 ⟨gF,gText k,gJ⟩ n m y0 y1 y2 y3 y4 k0) k0=_
  unfold i_formulaText.b19
  by_cases hi:i<(kids.length:Int)
  ·obtain⟨x,x1,x2,x3,_⟩:=drop_step q0 hi
   rw[x3,List.map_cons,decide_eq_true hi,cond_true,x1,Option.bind_some,Fm.eta]
   show Option.bind (gText k x) _=_
   have e:gText k x=some (Fm.text x):=if_pos (hk x x2)
   rw[e,Option.bind_some,lim_eq (by rw[List.length_append,List.length_singleton];omega),Option.bind_some,wr_in (x:=i+1) (by omega)]
   refine(ih (i+1) _ (by omega) (by omega) (by rw[List.length_append,List.length_singleton];omega) (by omega)).trans ?_
   rw[List.append_assoc];rfl
  ·rw[decide_eq_false hi,cond_false,drop_all hi,List.map_nil,List.append_nil]
theorem stext_loop (n k:Nat) (gF:Int->Option ByteArray) (gJ:List ByteArray->ByteArray->Option ByteArray) (wd:ByteArray) (a b:Int) (kids:List Fm) (hk:∀x∈kids,x.size<=k/\x.size<=13/\x.ok=true) (hl:kids.length<=2) (k0:ByteArray->List ByteArray->Option R):∀m (i:Int) (h0:List ByteArray),0<=i->i<=kids.length->h0.length<=i->(kids.length-i).toNat<m->
  s_l31Text.l8 ⟨gF,gText k,gJ⟩ n m wd i a b kids h0 k0=k0 wd (h0++(kids.drop i.toNat).map Fm.text):=by
 intro m
 induction m with
 |zero=>intro i h0 _ _ _ hm;omega
 | succ m ih =>
  intro i h0 q0 q1 ql hm
  show s_l31Text.b8 ⟨gF,gText k,gJ⟩ n wd i a b kids h0 (fun y0 y1 y2 y3 y4 y5=>s_l31Text.l8 ⟨gF,gText k,gJ⟩ n m y0 y1 y2 y3 y4 y5 k0) k0=_
  unfold s_l31Text.b8
  by_cases hi:i<(kids.length:Int)
  ·obtain⟨x,x1,x2,x3,_⟩:=drop_step q0 hi
   rw[x3,List.map_cons,decide_eq_true hi,cond_true,x1,Option.bind_some,Fm.eta]
   show Option.bind (gText k x) _=_
   have e:gText k x=some (Fm.text x):=if_pos (hk x x2)
   rw[e,Option.bind_some,lim_eq (by rw[List.length_append,List.length_singleton];omega),Option.bind_some,wr_in (x:=i+1) (by omega)]
   refine(ih (i+1) _ (by omega) (by omega) (by rw[List.length_append,List.length_singleton];omega) (by omega)).trans ?_
   rw[List.append_assoc];rfl
  ·rw[decide_eq_false hi,cond_false,drop_all hi,List.map_nil,List.append_nil]
theorem cat4 {w j:ByteArray} (h1:w.size<=5) (h2:j.size<=500) (g:Option ByteArray) (hg:g=some j) (K:ByteArray->Option R):(Option.bind (sCat w (ByteArray.mk #[40])) fun q=>Option.bind g fun r=>Option.bind (sCat q r) fun q2=>Option.bind (sCat q2 (ByteArray.mk #[41])) fun q3=>K q3)=K (w++ByteArray.mk #[40]++j++ByteArray.mk #[41]):=by
 have s1:(ByteArray.mk #[40]).size=1:=rfl
 have s2:(ByteArray.mk #[41]).size=1:=rfl
 rw[sCat_eq (by omega),Option.bind_some,hg,Option.bind_some,sCat_eq (by rw[app_size];omega),Option.bind_some,sCat_eq (by rw[app_size,app_size];omega),Option.bind_some]
theorem c17_eq (n k:Nat) (f:Fm) (wd:ByteArray) (hw:wd=word f.kind) (hf:f.ok=true) (hs:f.size<=13) (hk:∀x∈f.kids,x.size<=k) (h1:f.kind≠1) (h2:f.kind≠2) (hn:2<n) (k0:ByteArray->Option R):i_formulaText.c17 ⟨gNum,gText k,joinF⟩ n wd f.kind f.prop f.kids k0=k0 (Fm.text f):=by
 obtain⟨j1,j2,j3,j4,j5,j6,j7,j8⟩:=kids_join hf hs h1 h2
 unfold i_formulaText.c17
 rw[itext_loop n k gNum joinF wd f.kids (fun x hx=>⟨hk x hx,by have:=size_mem hx;omega,j8 x hx⟩) j5 _ n 0 [] (by omega) (by omega) (by simp) (by omega)]
 simp only[Int.toNat_zero,List.drop_zero,List.nil_append]
 rw[text_eq,if_neg h1,if_neg h2,hw]
 exact cat4 (word_size _) j3 _ j2 k0
theorem itext_main (n k:Nat) (f:Fm) (hf:f.ok=true) (hs:f.size<=13) (hk:∀x∈f.kids,x.size<=k) (hn:2<n) (K:ByteArray->Option R):i_formulaText.main ⟨gNum,gText k,joinF⟩ n f K=K (Fm.text f):=by
 unfold i_formulaText.main
 by_cases h1:f.kind=1
 ·rw[decide_eq_true h1,cond_true,text_eq,if_pos h1]
 rw[decide_eq_false h1,cond_false]
 by_cases h2:f.kind=2
 ·rw[decide_eq_true h2,cond_true,text_eq,if_neg h1,if_pos h2]
  rcases ok_cases hf with⟨c,_⟩|⟨c,_,q0,q1⟩|⟨c,a,hk,ha⟩|⟨c,a,b,hk,ha,hb⟩
  ·omega
  ·show Option.bind (gNum f.prop) _=_
   have e:gNum f.prop=some (numB f.prop):=if_pos ⟨q0,q1⟩
   rw[e,Option.bind_some,sCat_eq,Option.bind_some]
   rw[numB_eq ⟨q0,q1⟩]
   show 1+1<=_
   omega
  ·omega
  ·omega
 rw[decide_eq_false h2,cond_false]
 have hc:=fun wd hw=>c17_eq (R:=R) n k f wd hw hf hs hk h1 h2 hn
 obtain⟨_,_,_,_,_,j6,j7,_⟩:=kids_join hf hs h1 h2
 by_cases h3:f.kind=3
 ·rw[decide_eq_true h3,cond_true,hc _ (by rw[h3];rfl)]
 rw[decide_eq_false h3,cond_false]
 by_cases h4:f.kind=4
 ·rw[decide_eq_true h4,cond_true,hc _ (by rw[h4];rfl)]
 rw[decide_eq_false h4,cond_false]
 by_cases h5:f.kind=5
 ·rw[decide_eq_true h5,cond_true,hc _ (by rw[h5];rfl)]
 rw[decide_eq_false h5,cond_false]
 by_cases h6:f.kind=6
 ·rw[decide_eq_true h6,cond_true,hc _ (by rw[h6];rfl)]
 rw[decide_eq_false h6,cond_false]
 have h7:f.kind=7:=by omega
 rw[decide_eq_true h7,cond_true,hc _ (by rw[h7];rfl)]
theorem stext_main (n k:Nat) (f:Fm) (hf:f.ok=true) (hs:f.size<=13) (hk:∀x∈f.kids,x.size<=k) (hn:2<n) (K:ByteArray->Option R):s_l31Text.main ⟨gNum,gText k,gJoin⟩ n f K=K (Fm.text f):=by
 unfold s_l31Text.main
 by_cases h1:f.kind=1
 ·rw[decide_eq_true h1,cond_true,text_eq,if_pos h1]
 rw[decide_eq_false h1,cond_false]
 by_cases h2:f.kind=2
 ·rw[decide_eq_true h2,cond_true,text_eq,if_neg h1,if_pos h2]
  rcases ok_cases hf with⟨c,_⟩|⟨c,_,q0,q1⟩|⟨c,a,hk,ha⟩|⟨c,a,b,hk,ha,hb⟩
  ·omega
  ·show Option.bind (gNum f.prop) _=_
   have e:gNum f.prop=some (numB f.prop):=if_pos ⟨q0,q1⟩
   rw[e,Option.bind_some,sCat_eq,Option.bind_some]
   rw[numB_eq ⟨q0,q1⟩]
   show 1+1<=_
   omega
  ·omega
  ·omega
 rw[decide_eq_false h2,cond_false]
 obtain⟨j1,j2,j3,j4,j5,j6,j7,j8⟩:=kids_join hf hs h1 h2
 have hx:ix [ByteArray.empty,ByteArray.empty,ByteArray.empty,(ByteArray.mk #[110,111,116]),(ByteArray.mk #[97,110,100]),(ByteArray.mk #[111,114]),(ByteArray.mk #[110,101,120,116]),(ByteArray.mk #[117,110,116,105,108])] f.kind=some (word f.kind):=by
  have hc:f.kind=3\/f.kind=4\/f.kind=5\/f.kind=6\/f.kind=7:=by omega
  rcases hc with e|e|e|e|e<;>(rw[e];rfl)
 rw[hx,Option.bind_some,stext_loop n k gNum gJoin (word f.kind) f.kind f.prop f.kids (fun x hx=>⟨hk x hx,by have:=size_mem hx;omega,j8 x hx⟩) j5 _ n 0 [] (by omega) (by omega) (by simp) (by omega)]
 simp only[Int.toNat_zero,List.drop_zero,List.nil_append]
 rw[text_eq,if_neg h1,if_neg h2]
 exact cat4 (word_size _) j3 _ j1 K
end
theorem gText_zero :gText 0=fun _=>none:=by
 funext f
 unfold gText
 rw[if_neg (by rw[Fm.size_eq];omega)]
theorem formulaText_ok :∀k,EntOK Tryd.prog (i_formulaText.ent (gText k))
 | 0 => by
  rw[gText_zero]
  intro R xs H K r h
  simp only[i_formulaText.ent]at h
  split at h<;>cases h
 | k + 1 => i_formulaText.ok (G := ⟨gNum, gText k, joinF⟩) ⟨i_FormatInt_ok, formulaText_ok k, strings_Join_ok, trivial⟩ fun f r h => by
  unfold gText at h
  split at h
  ·rename_i hs
   cases h
   exact⟨3,itext_main 3 k f hs.2.2 hs.2.1 (fun x hx=>by have:=size_mem hx;omega) (by omega) _⟩
  ·cases h
theorem l31Text_ok :∀k,EntOK Tryd.prog (s_l31Text.ent (gText k))
 | 0 => by
  rw[gText_zero]
  intro R xs H K r h
  simp only[s_l31Text.ent]at h
  split at h<;>cases h
 | k + 1 => s_l31Text.ok (G := ⟨gNum, gText k, gJoin⟩) ⟨s_FormatInt_ok, l31Text_ok k, s_Join_ok, trivial⟩ fun f r h => by
  unfold gText at h
  split at h
  ·rename_i hs
   cases h
   exact⟨3,stext_main 3 k f hs.2.2 hs.2.1 (fun x hx=>by have:=size_mem hx;omega) (by omega) _⟩
  ·cases h
end Go.Proofs.YtjafncnjefnloaaDoor.Den
