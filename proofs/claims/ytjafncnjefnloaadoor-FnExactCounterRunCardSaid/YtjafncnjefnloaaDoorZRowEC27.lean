import Derived.Test.YtjafncnjefnloaaDoorZRowEC21
namespace Go.Proofs.YtjafncnjefnloaaDoor.Den
open Go.RowKit
def textL (f:Fm):List UInt8:=(Fm.text f).data.toList
def hd (k:Int):List UInt8:=if k=1 then [116,114,117,101]else if k=2 then [112]else if k=3 then [110,111,116,40]else if k=4 then [97,110,100,40]else if k=5 then [111,114,40]else if k=6 then [110,101,120,116,40]else [117,110,116,105,108,40]
theorem hd_inj {k k':Int} (h:1<=k/\k<=7) (h':1<=k'/\k'<=7) {x y:List UInt8} (e:hd k++x=hd k'++y):k=k'/\x=y:=by
 have c:k=1\/k=2\/k=3\/k=4\/k=5\/k=6\/k=7:=by omega
 have c':k'=1\/k'=2\/k'=3\/k'=4\/k'=5\/k'=6\/k'=7:=by omega
 rcases c with rfl|rfl|rfl|rfl|rfl|rfl|rfl<;>rcases c' with rfl|rfl|rfl|rfl|rfl|rfl|rfl<;>first|exact⟨rfl,List.append_cancel_left e⟩|(exfalso;simp[hd]at e)
theorem prop_zero {f:Fm} (h:f.ok=true) (h2:f.kind≠2):f.prop=0:=by
 rw[ok_parts_eq,Bool.and_eq_true,decide_eq_true_eq]at h
 obtain⟨⟨_,_,_,h4⟩,_⟩:=h
 omega
theorem word_hd {k:Int} (h:3<=k/\k<=7):(word k).data.toList++[40]=hd k:=by
 have c:k=3\/k=4\/k=5\/k=6\/k=7:=by omega
 rcases c with rfl|rfl|rfl|rfl|rfl<;>rfl
theorem text1 {f:Fm} (h:f.kind=1):textL f=hd 1:=by
 unfold textL
 rw[text_eq,if_pos h];rfl
theorem text2 {f:Fm} (h:f.kind=2) (hq:0<=f.prop/\f.prop<=7):textL f=hd 2++[UInt8.ofNat (48+f.prop.toNat)]:=by
 unfold textL
 rw[text_eq,if_neg (by omega),if_pos h,ba_app,numB_eq hq];rfl
theorem text3 {f a:Fm} (h:f.kind=3\/f.kind=6) (hk:f.kids=[a]):textL f=hd f.kind++(textL a++[41]):=by
 unfold textL
 rw[text_eq,if_neg (by omega),if_neg (by omega),hk,ba_app,ba_app,ba_app,List.map_cons,List.map_nil,joinB_one,<-word_hd (by omega)]
 simp[List.append_assoc]
theorem text4 {f a b:Fm} (h:f.kind=4\/f.kind=5\/f.kind=7) (hk:f.kids=[a,b]):textL f=hd f.kind++(textL a++([44,32]++(textL b++[41]))):=by
 unfold textL
 rw[text_eq,if_neg (by omega),if_neg (by omega),hk,ba_app,ba_app,ba_app,List.map_cons,List.map_cons,List.map_nil,joinB_two,ba_app,ba_app,<-word_hd (by omega)]
 simp[List.append_assoc,sep2]
theorem text_hd {f:Fm} (h:f.ok=true):1<=f.kind/\f.kind<=7/\∃r,textL f=hd f.kind++r:=by
 rcases ok_cases h with⟨c,_⟩|⟨c,_,q0,q1⟩|⟨c,a,hk,ha⟩|⟨c,a,b,hk,ha,hb⟩
 ·exact⟨by omega,by omega,[],by rw[text1 c,c,List.append_nil]⟩
 ·exact⟨by omega,by omega,_,by rw[text2 c ⟨q0,q1⟩,c]⟩
 ·exact⟨by omega,by omega,_,text3 c hk⟩
 ·exact⟨by omega,by omega,_,text4 c hk⟩
theorem fm_ext {f g:Fm} (h1:f.kind=g.kind) (h2:f.prop=g.prop) (h3:f.kids=g.kids):f=g:=by
 cases f;cases g
 simp only at h1 h2 h3
 subst h1;subst h2;subst h3
 rfl
theorem text_inj :∀(n:Nat) (f g:Fm) (s t:List UInt8),f.size<=n->f.ok=true->g.ok=true->textL f++s=textL g++t->f=g/\s=t:=by
 intro n
 induction n with
 |zero=>intro f g s t h;rw[Fm.size_eq]at h;omega
 | succ n ih =>
  intro f g s t hn hf hg e
  obtain⟨f1,f7,rf,ef⟩:=text_hd hf
  obtain⟨g1,g7,rg,eg⟩:=text_hd hg
  have hkk:f.kind=g.kind:=by
   rw[ef,eg,List.append_assoc,List.append_assoc]at e
   exact(hd_inj ⟨f1,f7⟩ ⟨g1,g7⟩ e).1
  have hs:=Fm.size_eq f
  rcases ok_cases hf with⟨c,hk⟩|⟨c,hk,q0,q1⟩|⟨c,a,hk,ha⟩|⟨c,a,b,hk,ha,hb⟩<;>rcases ok_cases hg with⟨c',hk'⟩|⟨c',hk',q0',q1'⟩|⟨c',a',hk',ha'⟩|⟨c',a',b',hk',ha',hb'⟩<;>first|(exfalso;omega)|skip
  ·rw[text1 c,text1 c']at e
   exact⟨fm_ext hkk (by rw[prop_zero hf (by omega),prop_zero hg (by omega)]) (by rw[hk,hk']),List.append_cancel_left e⟩
  ·rw[text2 c ⟨q0,q1⟩,text2 c' ⟨q0',q1'⟩,List.append_assoc,List.append_assoc]at e
   have e2:=List.append_cancel_left e
   simp only[List.singleton_append,List.cons.injEq]at e2
   have e3:f.prop=g.prop:=by
    have:=congrArg UInt8.toNat e2.1
    simp only[UInt8.toNat_ofNat']at this
    omega
   exact⟨fm_ext hkk e3 (by rw[hk,hk']),e2.2⟩
  ·rw[text3 c hk,text3 c' hk',hkk]at e
   simp only[List.append_assoc]at e
   have e2:=List.append_cancel_left e
   rw[hk]at hs
   simp only[List.map_cons,List.map_nil,List.sum_cons,List.sum_nil]at hs
   obtain⟨e3,e4⟩:=ih a a' _ _ (by omega) ha ha' e2
   simp only[List.singleton_append,List.cons.injEq]at e4
   exact⟨fm_ext hkk (by rw[prop_zero hf (by omega),prop_zero hg (by omega)]) (by rw[hk,hk',e3]),e4.2⟩
  ·rw[text4 c hk,text4 c' hk',hkk]at e
   simp only[List.append_assoc]at e
   have e2:=List.append_cancel_left e
   rw[hk]at hs
   simp only[List.map_cons,List.map_nil,List.sum_cons,List.sum_nil]at hs
   obtain⟨e3,e4⟩:=ih a a' _ _ (by omega) ha ha' e2
   have e5:=List.append_cancel_left e4
   obtain⟨e6,e7⟩:=ih b b' _ _ (by omega) hb hb' e5
   simp only[List.singleton_append,List.cons.injEq]at e7
   exact⟨fm_ext hkk (by rw[prop_zero hf (by omega),prop_zero hg (by omega)]) (by rw[hk,hk',e3,e6]),e7.2⟩
theorem text_eq_inj {f g:Fm} (hf:f.ok=true) (hg:g.ok=true) (e:Fm.text f=Fm.text g):f=g:=
 (text_inj _ f g [] [] (Nat.le_refl _) hf hg (by unfold textL;rw[e])).1
end Go.Proofs.YtjafncnjefnloaaDoor.Den
