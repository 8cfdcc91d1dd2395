/- merged -/
import Derived.Shelf.Strings.Builder1
import Derived.Shelf.Strings.Builder2
import Derived.Shelf.Strings.OnBuilder
import Derived.Shelf.Small.Bits
import Derived.Shelf.Small.Strs
import Derived.Shelf.Strings.BuilderF
import Derived.Shelf.Strings.BuilderK
import Derived.Shelf.Strings.Builder2Cap
import Derived.Shelf.Strconv.Itoa0
import Derived.Shelf.Strings.Search1
import Derived.Shelf.Strings.Search2
import Derived.Shelf.Strings.Cut
import Derived.Shelf.LaysM
import Derived.Shelf.Strings.Shaped
import Derived.Shelf.Strings.BuilderCap
import Derived.Test.YtigoabbppmdfpaaGreatProg
import Derived.Test.YtigoabbppmdfpaaGreatZRowPE2
import Derived.Test.YtigoabbppmdfpaaGreatZRowPE8

namespace Go.Proofs
open Go.Shelf
def Tryz.pK :Go.Shelf.Ren:=⟨λ|156=>116|165=>154|166=>155|169=>156|240=>170|241=>171|276=>185|277=>186|n=>n,λ|31=>22|9=>9|3=>3|4=>4|0=>0|20=>20|72=>189|76=>193|70=>187|37=>138|75=>192|127=>204|164=>217|5=>5|80=>179|n=>n,λ|n=>n⟩
theorem Tryz.lays156 :Go.Proofs.Lays.n156 Tryz.prog Tryz.pK:={
 mixed:=by kernel_rfl
 f156:=Tryz.func116.trans (congrArg some (by kernel_rfl))
 f165:=Tryz.func154.trans (congrArg some (by kernel_rfl))
 f166:=Tryz.func155.trans (congrArg some (by kernel_rfl))
 f169:=Tryz.func156.trans (congrArg some (by kernel_rfl))
 f240:=Tryz.func170.trans (congrArg some (by kernel_rfl))
 f241:=Tryz.func171.trans (congrArg some (by kernel_rfl))
 f276:=Tryz.func185.trans (congrArg some (by kernel_rfl))
 f277:=Tryz.func186.trans (congrArg some (by kernel_rfl))
 t0:=Tryz.underlying0
 a0:=Tryz.isAgg0
 z0:=Tryz.sizeOf0
 v0:=Tryz.zeroValue0
 t3:=Tryz.underlying3
 a3:=Tryz.isAgg3
 z3:=Tryz.sizeOf3
 v3:=Tryz.zeroValue3
 t4:=Tryz.underlying4
 a4:=Tryz.isAgg4
 z4:=Tryz.sizeOf4
 v4:=Tryz.zeroValue4
 t9:=Tryz.underlying9
 a9:=Tryz.isAgg9
 z9:=Tryz.sizeOf9
 v9:=Tryz.zeroValue9
 t20:=Tryz.underlying20
 a20:=Tryz.isAgg20
 z20:=Tryz.sizeOf20
 v20:=Tryz.zeroValue20
 t31:=Tryz.underlying22
 a31:=Tryz.isAgg22
 z31:=Tryz.sizeOf22
 v31:=Tryz.zeroValue22
 t37:=Tryz.underlying138
 a37:=Tryz.isAgg138
 z37:=Tryz.sizeOf138
 v37:=Tryz.zeroValue138
 t70:=Tryz.underlying187
 a70:=Tryz.isAgg187
 z70:=Tryz.sizeOf187
 v70:=Tryz.zeroValue187
 t72:=Tryz.underlying189
 a72:=Tryz.isAgg189
 z72:=Tryz.sizeOf189
 v72:=Tryz.zeroValue189
 t75:=Tryz.underlying192
 a75:=Tryz.isAgg192
 z75:=Tryz.sizeOf192
 v75:=Tryz.zeroValue192
 t76:=Tryz.underlying193
 a76:=Tryz.isAgg193
 z76:=Tryz.sizeOf193
 v76:=Tryz.zeroValue193
 t127:=Tryz.underlying204
 a127:=Tryz.isAgg204
 z127:=Tryz.sizeOf204
 v127:=Tryz.zeroValue204
 t164:=Tryz.underlying217
 a164:=Tryz.isAgg217
 z164:=Tryz.sizeOf217
 v164:=Tryz.zeroValue217}
theorem Tryz.Builder_Extra_156 :Builder.Extra Tryz.prog Tryz.pK:={
 sizeBuilder:=by kernel_rfl
 liesBuilder:=by kernel_rfl
 t5:=Tryz.underlying5
 a5:=Tryz.isAgg5
 z5:=Tryz.sizeOf5
 v5:=Tryz.zeroValue5
 infoByte:=by kernel_rfl
 cellsByte:=by kernel_rfl
 sizeByte:=by kernel_rfl
 neB5:=by decide}
open Go.RowKit in
theorem Tryz.strings_Join_none(a:Option Addr)(c:Nat)(sep:ByteArray)(w:World):
  Calls Tryz.prog 116 #[.slice a 0 c,.string sep] w λe w'=>e= .returned (.string ⟨#[]⟩)/\w'=w:=Any.strings_Join_none Tryz.lays156 Tryz.Builder_Extra_156 a c sep w
open Go.RowKit in
theorem Tryz.strings_Join(bk o c:Nat)(xs:List ByteArray)(sep:ByteArray)(w:World)(hcells:∀(j:Nat) x,xs[j]? =some x->w.cell? ⟨bk,o+j,none⟩=some (.string x))(hbk:bk<w.heap.size)(hN:xs.length<=140737488355328)(hcap:xs.length<=c)(bJ:(Lib.join (xs.map (·.data.toList)) sep.data.toList).length<=140737488355328):
  Calls Tryz.prog 116 #[.slice (some ⟨bk,o,none⟩) xs.length c,.string sep] w λe w'=>e= .returned (.string ⟨(Lib.join (xs.map (·.data.toList)) sep.data.toList).toArray⟩)/\Below w.heap.size w w':=Any.strings_Join Tryz.lays156 Tryz.Builder_Extra_156 bk o c xs sep w hcells hbk hN hcap bJ
def Tryz.lays106_ren :Go.Shelf.Ren:=⟨λ|106=>166|213=>174|265=>188|n=>n,λ|9=>9|3=>3|n=>n,λ|n=>n⟩
theorem Tryz.lays106 :Go.Proofs.Lays.n106 Tryz.prog Tryz.lays106_ren:={
 mixed:=by kernel_rfl
 f106:=Tryz.func166.trans (congrArg some (by kernel_rfl))
 f213:=Tryz.func174.trans (congrArg some (by kernel_rfl))
 f265:=Tryz.func188.trans (congrArg some (by kernel_rfl))
 t3:=Tryz.underlying3
 a3:=Tryz.isAgg3
 z3:=Tryz.sizeOf3
 v3:=Tryz.zeroValue3
 t9:=Tryz.underlying9
 a9:=Tryz.isAgg9
 z9:=Tryz.sizeOf9
 v9:=Tryz.zeroValue9}
open Go.RowKit in
theorem Tryz.strings_Compare(a b:ByteArray)(w:World):
  Calls Tryz.prog 166 #[.string a,.string b] w λe w'=>e= .returned (.int .i64 (Lib.compareBytes a.data.toList b.data.toList))/\w'=w:=Any.strings_Compare Tryz.lays106 a b w
def Tryz.lays145_ren :Go.Shelf.Ren:=⟨λ|145=>43|220=>74|219=>104|217=>136|225=>137|224=>138|267=>139|266=>160|314=>161|n=>n,λ|9=>9|4=>4|59=>52|3=>3|5=>5|46=>177|146=>197|51=>196|n=>n,λ|1=>0|n=>n⟩
theorem Tryz.lays145 :Go.Proofs.Lays.n145 Tryz.prog Tryz.lays145_ren:={
 mixed:=by kernel_rfl
 f145:=Tryz.func43.trans (congrArg some (by kernel_rfl))
 f217:=Tryz.func136.trans (congrArg some (by kernel_rfl))
 f219:=Tryz.func104.trans (congrArg some (by kernel_rfl))
 f220:=Tryz.func74.trans (congrArg some (by kernel_rfl))
 f224:=Tryz.func138.trans (congrArg some (by kernel_rfl))
 f225:=Tryz.func137.trans (congrArg some (by kernel_rfl))
 f266:=Tryz.func160.trans (congrArg some (by kernel_rfl))
 f267:=Tryz.func139.trans (congrArg some (by kernel_rfl))
 f314:=Tryz.func161.trans (congrArg some (by kernel_rfl))
 t3:=Tryz.underlying3
 a3:=Tryz.isAgg3
 z3:=Tryz.sizeOf3
 v3:=Tryz.zeroValue3
 t4:=Tryz.underlying4
 a4:=Tryz.isAgg4
 z4:=Tryz.sizeOf4
 v4:=Tryz.zeroValue4
 t5:=Tryz.underlying5
 a5:=Tryz.isAgg5
 z5:=Tryz.sizeOf5
 v5:=Tryz.zeroValue5
 t9:=Tryz.underlying9
 a9:=Tryz.isAgg9
 z9:=Tryz.sizeOf9
 v9:=Tryz.zeroValue9
 t46:=Tryz.underlying177
 a46:=Tryz.isAgg177
 z46:=Tryz.sizeOf177
 v46:=Tryz.zeroValue177
 t51:=Tryz.underlying196
 a51:=Tryz.isAgg196
 z51:=Tryz.sizeOf196
 v51:=Tryz.zeroValue196
 t59:=Tryz.underlying52
 a59:=Tryz.isAgg52
 z59:=Tryz.sizeOf52
 v59:=Tryz.zeroValue52
 t146:=Tryz.underlying197
 a146:=Tryz.isAgg197
 z146:=Tryz.sizeOf197
 v146:=Tryz.zeroValue197
 g1:=by kernel_rfl}
open Go.RowKit Go.Lib in
theorem Tryz.strings_Cut(s sep:ByteArray)(m:Int)(w:World)(hs:s.size<4294967281)(hm:w.cell? ⟨0,0,none⟩=some (.int .i64 m)):
  Calls Tryz.prog 43 #[.string s,.string sep] w λe w'=>e= .returned (.tuple #[.string ⟨(Lib.cut s.data.toList sep.data.toList).1.toArray⟩,.string ⟨(Lib.cut s.data.toList sep.data.toList).2.1.toArray⟩,.bool (Lib.cut s.data.toList sep.data.toList).2.2])/\∃n,w'=w.drewN n:=Any.strings_Cut Tryz.lays145 s sep m w hs hm
end Go.Proofs
namespace Go.Proofs.YtigoabbppmdfpaaGreat.Den
open Go.RowKit
open Abs (V AV VR)
theorem fr_s{c:C}{v:V}{x:Z}(h:FR c v)(e:c= .s x):v= .lit (.string x):=by
 cases h with
 |s=>cases e;rfl
 |i=>cases e
 |k=>cases e
 |b=>cases e
 |l=>cases e
theorem Me{ι:RV Abs.Inf}{I:Nat->Prop}{w:World}{x c:Value}(h:VR I w ι (.lit x) c):c=x:=by
 cases h with
 |lit _=>rfl
theorem CR.strs{ρ:Rho}{H:RV Ob}{xs:RV Z}{v:V}(h:CR ρ H (.l .s xs) v):∃es:RV (RV V),v= .imm 1 es/\es.length=xs.length/\∀(m:Nat)(h1:m<xs.length)(h2:m<es.length)(d:0<es[m].length),es[m][0]= .lit (.string xs[m]):=by
 cases h with
 | fl h=>
  cases h with
  | l hp hl hs hr=>
   refine⟨_,rfl,hl,λm h1 h2 d=> ?_⟩;have:=hr m h1 h2 0 (by show 0<[C.s _].length;simp) d;exact fr_s this rfl
theorem CR.str_{ρ:Rho}{H:RV Ob}{x:Z}{v:V}(h:CR ρ H (.s x) v):v= .lit (.string x):=by
 cases h with
 |fl h=>exact RU
theorem nF{P:Program}{f:FuncId}{xs:RV AT}{u:Value}{c:C}(d:Abs.ga P f)(t:Abs.cq u)(j:FR c (.lit u))
  (v:∀(ρ:Rho)(avs:RV AV),cN ρ [] xs avs->∀[Zb](w:World)(I:Nat->Prop)(ι:RV Abs.Inf)(cs:Array Value),(∀b,I b->b<w.heap.size)->Abs.ARs ι I w avs cs->Calls P f cs w λe w'=>e= .returned u/\Below w.heap.size w w'):CFn P f xs [] (.one c) []:=λρ h avs y hA=>
 (Abs.yv d t (v ρ avs hA)).mono fun r h' ⟨A,B⟩=>by
  subst A;subst B;exact⟨ρ,.one (.fl j),y,Fr.refl ρ [] _⟩
theorem JB{a:RV UInt8}(h:a.length<=140737488355328):(ByteArray.mk a.toArray).size<=maxLen:=by
 unfold maxLen;simp only[ByteArray.size,Pj];omega
def lP(xs:RV Z)(sep:Z):Z:=⟨(Lib.join (xs.map (·.data.toList)) sep.data.toList).toArray⟩
noncomputable def nh(xs:RV Z)(sep:Z):Y Z:=if xs.length<=140737488355328/\(Lib.join (xs.map (·.data.toList)) sep.data.toList).length<=140737488355328 then some (lP xs sep)else none
theorem Hv(a:RV Z)(h:Z)(hl:a.length<=140737488355328/\(Lib.join (a.map (·.data.toList)) h.data.toList).length<=140737488355328):CFn Tryz.prog 116 [.one (.l .s a),.one (.s h)] [] (.one (.s (lP a h))) []:=by
 refine nF (u:=.string (lP a h)) ⟨Tryz.f116,Tryz.func116,F1,F1⟩ ?_ .s λρ avs hA _ w I ι cs L D=> ?_
 .exact JB hl.2
 .obtain⟨hA1,hA2⟩:=hA
  match avs,hA1 with
  | [x, y],_=>
   have C:=hA2 0 C3 C3;have v:=hA2 1 C3 C3;simp only[O5,Pw]at C v;cases C with
   |one C=>
   cases v with
   |one v=>
   obtain⟨es,rfl,H,M⟩:=C.strs;have v:=v.str_;subst v;obtain⟨p,rfl,E,F⟩:∃p:Value×Value,cs= #[p.1,p.2]/\Abs.AR ι I w (.one (.imm 1 es)) p.1/\Abs.AR ι I w (.one (.lit (.string h))) p.2:=by
    obtain⟨h1,h2⟩:=D;obtain⟨u,u1,u2⟩:=h2 0 C3;obtain⟨z,J,N⟩:=h2 1 C3;rcases cs with⟨l⟩
    match l,h1 with
    |[p,q],_=>simp at u1 J;subst u1;subst J;exact⟨(p,q),rfl,u2,N⟩
   obtain⟨p,q⟩:=p;cases E with
   |one E=>
   cases F with
   |one F=>
   cases F with
   |lit _=>
   cases E with
   | dC hc=>
    have:a=[]:=nZ (by rw[<-H];rfl);subst this;refine(Tryz.strings_Join_none _ _ h w).mono λe w' ⟨k1,O⟩=>⟨k1,?_⟩;subst O;exact Below.refl _ _
   | @imm _ _ b off c _ f hs hc hm G t hr Q=>
    have key:∀(j:Nat) x,a[j]? =some x->w.cell? ⟨b,off+j,none⟩=some (.string x):=λj x hx=>by
     have K:j<a.length:=(gI.1 hx).1;have d:j<es.length:=A1
     have P:=hs es[j] (gM d);have A:=t j 0 d A1;have B:=hr j d 0 A1;rw[M j K d A1]at B;have:f j 0= .string a[j]:=Me B;rw[this]at A;rw[gE K]at hx;cases hx;simpa using A
    have:=Tryz.strings_Join b off c a h w key (L b G) hl.1 A1 hl.2;rw[H];exact this
theorem z5o:aj (strings_Join.ent nh):=okQ λR K r a d hc=>by
 obtain⟨r,q1,q2⟩:=bind_some hc;unfold nh at q1;split at q1
 .rename_i hl;cases q1;exact⟨_,_,q2,Hv a d hl⟩
 .cases q1
end Go.Proofs.YtigoabbppmdfpaaGreat.Den
