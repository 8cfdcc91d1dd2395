/- merged -/
import Derived.Shelf.Strings.OnBuilder
import Derived.Shelf.Small.Bits
import Derived.Shelf.Small.Strs
import Derived.Shelf.Strings.Shaped
import Derived.Shelf.Strings.Split
import Derived.Shelf.Unicode.DecodeSlow
import Derived.Shelf.Strings.BuilderCap
import Derived.WalkSpells
import Derived.WalkLawsBesides
import Derived.BigQuiet
import Derived.Deep.RegionHeld3
import Derived.Lib.SlicesS
import Derived.Sort.WalkB12
import Derived.Test.YtkegnipofloejaaGreatDoorZRowMT10

namespace Go.Proofs
open Go.Shelf
def Tryz.qq :Go.Shelf.Ren:=⟨λ|156=>63|165=>94|166=>95|169=>96|240=>127|241=>128|276=>151|277=>152|n=>n,λ|31=>24|9=>9|3=>3|4=>4|0=>0|20=>20|72=>140|76=>144|70=>138|37=>22|75=>143|127=>168|164=>182|5=>5|80=>146|n=>n,λ|n=>n⟩
theorem Tryz.lays156 :Go.Proofs.Lays.n156 Tryz.prog Tryz.qq:={
 mixed:=by kernel_rfl
 f156:=Tryz.func63.trans (congrArg some (by kernel_rfl))
 f165:=Tryz.func94.trans (congrArg some (by kernel_rfl))
 f166:=Tryz.func95.trans (congrArg some (by kernel_rfl))
 f169:=Tryz.func96.trans (congrArg some (by kernel_rfl))
 f240:=Tryz.func127.trans (congrArg some (by kernel_rfl))
 f241:=Tryz.func128.trans (congrArg some (by kernel_rfl))
 f276:=Tryz.func151.trans (congrArg some (by kernel_rfl))
 f277:=Tryz.func152.trans (congrArg some (by kernel_rfl))
 t0:=Tryz.underlying0
 a0:=Tryz.isAgg0
 z0:=Tryz.sizeOf0
 v0:=Tryz.zeroValue0
 t3:=Tryz.underlying3
 a3:=Tryz.isAgg3
 z3:=Tryz.sizeOf3
 v3:=Tryz.zeroValue3
 t4:=Tryz.underlying4
 a4:=Tryz.isAgg4
 z4:=Tryz.sizeOf4
 v4:=Tryz.zeroValue4
 t9:=Tryz.underlying9
 a9:=Tryz.isAgg9
 z9:=Tryz.sizeOf9
 v9:=Tryz.zeroValue9
 t20:=Tryz.underlying20
 a20:=Tryz.isAgg20
 z20:=Tryz.sizeOf20
 v20:=Tryz.zeroValue20
 t31:=Tryz.underlying24
 a31:=Tryz.isAgg24
 z31:=Tryz.sizeOf24
 v31:=Tryz.zeroValue24
 t37:=Tryz.underlying22
 a37:=Tryz.isAgg22
 z37:=Tryz.sizeOf22
 v37:=Tryz.zeroValue22
 t70:=Tryz.underlying138
 a70:=Tryz.isAgg138
 z70:=Tryz.sizeOf138
 v70:=Tryz.zeroValue138
 t72:=Tryz.underlying140
 a72:=Tryz.isAgg140
 z72:=Tryz.sizeOf140
 v72:=Tryz.zeroValue140
 t75:=Tryz.underlying143
 a75:=Tryz.isAgg143
 z75:=Tryz.sizeOf143
 v75:=Tryz.zeroValue143
 t76:=Tryz.underlying144
 a76:=Tryz.isAgg144
 z76:=Tryz.sizeOf144
 v76:=Tryz.zeroValue144
 t127:=Tryz.underlying168
 a127:=Tryz.isAgg168
 z127:=Tryz.sizeOf168
 v127:=Tryz.zeroValue168
 t164:=Tryz.underlying182
 a164:=Tryz.isAgg182
 z164:=Tryz.sizeOf182
 v164:=Tryz.zeroValue182}
theorem Tryz.Builder_Extra_156 :Builder.Extra Tryz.prog Tryz.qq:={
 sizeBuilder:=by kernel_rfl
 liesBuilder:=by kernel_rfl
 t5:=Tryz.underlying5
 a5:=Tryz.isAgg5
 z5:=Tryz.sizeOf5
 v5:=Tryz.zeroValue5
 infoByte:=by kernel_rfl
 cellsByte:=by kernel_rfl
 sizeByte:=by kernel_rfl
 neB5:=by decide}
open Go.RowKit in
theorem Tryz.strings_Join_none(a:Option Addr)(c:Nat)(sep:ByteArray)(w:World):
  Calls Tryz.prog 63 #[.slice a 0 c,.string sep] w λe w'=>e= .returned (.string ⟨#[]⟩)/\w'=w:=Any.strings_Join_none Tryz.lays156 Tryz.Builder_Extra_156 a c sep w
open Go.RowKit in
theorem Tryz.strings_Join(bk o c:Nat)(xs:List ByteArray)(sep:ByteArray)(w:World)(hcells:∀(j:Nat) x,xs[j]? =some x->w.cell? ⟨bk,o+j,none⟩=some (.string x))(hbk:bk<w.heap.size)(hN:xs.length<=140737488355328)(hcap:xs.length<=c)(bF:(Lib.join (xs.map (·.data.toList)) sep.data.toList).length<=140737488355328):
  Calls Tryz.prog 63 #[.slice (some ⟨bk,o,none⟩) xs.length c,.string sep] w λe w'=>e= .returned (.string ⟨(Lib.join (xs.map (·.data.toList)) sep.data.toList).toArray⟩)/\Below w.heap.size w w':=Any.strings_Join Tryz.lays156 Tryz.Builder_Extra_156 bk o c xs sep w hcells hbk hN hcap bF
def Tryz.lays106_ren :Go.Shelf.Ren:=⟨λ|106=>147|213=>157|265=>169|n=>n,λ|9=>9|3=>3|n=>n,λ|n=>n⟩
theorem Tryz.lays106 :Go.Proofs.Lays.n106 Tryz.prog Tryz.lays106_ren:={
 mixed:=by kernel_rfl
 f106:=Tryz.func147.trans (congrArg some (by kernel_rfl))
 f213:=Tryz.func157.trans (congrArg some (by kernel_rfl))
 f265:=Tryz.func169.trans (congrArg some (by kernel_rfl))
 t3:=Tryz.underlying3
 a3:=Tryz.isAgg3
 z3:=Tryz.sizeOf3
 v3:=Tryz.zeroValue3
 t9:=Tryz.underlying9
 a9:=Tryz.isAgg9
 z9:=Tryz.sizeOf9
 v9:=Tryz.zeroValue9}
open Go.RowKit in
theorem Tryz.strings_Compare(a b:ByteArray)(w:World):
  Calls Tryz.prog 147 #[.string a,.string b] w λe w'=>e= .returned (.int .i64 (Lib.compareBytes a.data.toList b.data.toList))/\w'=w:=Any.strings_Compare Tryz.lays106 a b w
def Tryz.lays145_ren :Go.Shelf.Ren:=⟨λ|145=>22|220=>46|219=>76|217=>108|225=>109|224=>110|267=>111|266=>134|314=>135|n=>n,λ|9=>9|4=>4|59=>67|3=>3|5=>5|46=>148|146=>173|51=>172|n=>n,λ|1=>0|n=>n⟩
theorem Tryz.lays145 :Go.Proofs.Lays.n145 Tryz.prog Tryz.lays145_ren:={
 mixed:=by kernel_rfl
 f145:=Tryz.func22.trans (congrArg some (by kernel_rfl))
 f217:=Tryz.func108.trans (congrArg some (by kernel_rfl))
 f219:=Tryz.func76.trans (congrArg some (by kernel_rfl))
 f220:=Tryz.func46.trans (congrArg some (by kernel_rfl))
 f224:=Tryz.func110.trans (congrArg some (by kernel_rfl))
 f225:=Tryz.func109.trans (congrArg some (by kernel_rfl))
 f266:=Tryz.func134.trans (congrArg some (by kernel_rfl))
 f267:=Tryz.func111.trans (congrArg some (by kernel_rfl))
 f314:=Tryz.func135.trans (congrArg some (by kernel_rfl))
 t3:=Tryz.underlying3
 a3:=Tryz.isAgg3
 z3:=Tryz.sizeOf3
 v3:=Tryz.zeroValue3
 t4:=Tryz.underlying4
 a4:=Tryz.isAgg4
 z4:=Tryz.sizeOf4
 v4:=Tryz.zeroValue4
 t5:=Tryz.underlying5
 a5:=Tryz.isAgg5
 z5:=Tryz.sizeOf5
 v5:=Tryz.zeroValue5
 t9:=Tryz.underlying9
 a9:=Tryz.isAgg9
 z9:=Tryz.sizeOf9
 v9:=Tryz.zeroValue9
 t46:=Tryz.underlying148
 a46:=Tryz.isAgg148
 z46:=Tryz.sizeOf148
 v46:=Tryz.zeroValue148
 t51:=Tryz.underlying172
 a51:=Tryz.isAgg172
 z51:=Tryz.sizeOf172
 v51:=Tryz.zeroValue172
 t59:=Tryz.underlying67
 a59:=Tryz.isAgg67
 z59:=Tryz.sizeOf67
 v59:=Tryz.zeroValue67
 t146:=Tryz.underlying173
 a146:=Tryz.isAgg173
 z146:=Tryz.sizeOf173
 v146:=Tryz.zeroValue173
 g1:=by kernel_rfl}
open Go.RowKit Go.Lib in
theorem Tryz.strings_Cut(s sep:ByteArray)(m:Int)(w:World)(hs:s.size<4294967281)(hm:w.cell? ⟨0,0,none⟩=some (.int .i64 m)):
  Calls Tryz.prog 22 #[.string s,.string sep] w λe w'=>e= .returned (.tuple #[.string ⟨(Lib.cut s.data.toList sep.data.toList).1.toArray⟩,.string ⟨(Lib.cut s.data.toList sep.data.toList).2.1.toArray⟩,.bool (Lib.cut s.data.toList sep.data.toList).2.2])/\∃n,w'=w.drewN n:=Any.strings_Cut Tryz.lays145 s sep m w hs hm
def Tryz.lays146_ren :Go.Shelf.Ren:=⟨λ|146=>42|221=>75|268=>105|138=>106|143=>107|195=>131|197=>132|218=>133|219=>76|260=>153|217=>108|225=>109|224=>110|267=>111|266=>134|314=>135|n=>n,λ|9=>9|31=>24|3=>3|4=>4|0=>0|105=>170|21=>21|5=>5|46=>148|119=>197|139=>200|138=>199|146=>173|51=>172|n=>n,λ|1=>0|3=>1|4=>2|n=>n⟩
theorem Tryz.lays146 :Go.Proofs.Lays.n146 Tryz.prog Tryz.lays146_ren:={
 mixed:=by kernel_rfl
 f138:=Tryz.func106.trans (congrArg some (by kernel_rfl))
 f143:=Tryz.func107.trans (congrArg some (by kernel_rfl))
 f146:=Tryz.func42.trans (congrArg some (by kernel_rfl))
 f195:=Tryz.func131.trans (congrArg some (by kernel_rfl))
 f197:=Tryz.func132.trans (congrArg some (by kernel_rfl))
 f217:=Tryz.func108.trans (congrArg some (by kernel_rfl))
 f218:=Tryz.func133.trans (congrArg some (by kernel_rfl))
 f219:=Tryz.func76.trans (congrArg some (by kernel_rfl))
 f221:=Tryz.func75.trans (congrArg some (by kernel_rfl))
 f224:=Tryz.func110.trans (congrArg some (by kernel_rfl))
 f225:=Tryz.func109.trans (congrArg some (by kernel_rfl))
 f260:=Tryz.func153.trans (congrArg some (by kernel_rfl))
 f266:=Tryz.func134.trans (congrArg some (by kernel_rfl))
 f267:=Tryz.func111.trans (congrArg some (by kernel_rfl))
 f268:=Tryz.func105.trans (congrArg some (by kernel_rfl))
 f314:=Tryz.func135.trans (congrArg some (by kernel_rfl))
 t0:=Tryz.underlying0
 a0:=Tryz.isAgg0
 z0:=Tryz.sizeOf0
 v0:=Tryz.zeroValue0
 t3:=Tryz.underlying3
 a3:=Tryz.isAgg3
 z3:=Tryz.sizeOf3
 v3:=Tryz.zeroValue3
 t4:=Tryz.underlying4
 a4:=Tryz.isAgg4
 z4:=Tryz.sizeOf4
 v4:=Tryz.zeroValue4
 t5:=Tryz.underlying5
 a5:=Tryz.isAgg5
 z5:=Tryz.sizeOf5
 v5:=Tryz.zeroValue5
 t9:=Tryz.underlying9
 a9:=Tryz.isAgg9
 z9:=Tryz.sizeOf9
 v9:=Tryz.zeroValue9
 t21:=Tryz.underlying21
 a21:=Tryz.isAgg21
 z21:=Tryz.sizeOf21
 v21:=Tryz.zeroValue21
 t31:=Tryz.underlying24
 a31:=Tryz.isAgg24
 z31:=Tryz.sizeOf24
 v31:=Tryz.zeroValue24
 t46:=Tryz.underlying148
 a46:=Tryz.isAgg148
 z46:=Tryz.sizeOf148
 v46:=Tryz.zeroValue148
 t51:=Tryz.underlying172
 a51:=Tryz.isAgg172
 z51:=Tryz.sizeOf172
 v51:=Tryz.zeroValue172
 t105:=Tryz.underlying170
 a105:=Tryz.isAgg170
 z105:=Tryz.sizeOf170
 v105:=Tryz.zeroValue170
 t119:=Tryz.underlying197
 a119:=Tryz.isAgg197
 z119:=Tryz.sizeOf197
 t138:=Tryz.underlying199
 a138:=Tryz.isAgg199
 z138:=Tryz.sizeOf199
 v138:=Tryz.zeroValue199
 t139:=Tryz.underlying200
 a139:=Tryz.isAgg200
 z139:=Tryz.sizeOf200
 v139:=Tryz.zeroValue200
 t146:=Tryz.underlying173
 a146:=Tryz.isAgg173
 z146:=Tryz.sizeOf173
 v146:=Tryz.zeroValue173
 g1:=by kernel_rfl
 g3:=by kernel_rfl
 g4:=by kernel_rfl}
open Go.RowKit Go.Lib in
theorem Tryz.strings_Split(s sep:ByteArray)(m:Int)(w:World)(hs:s.size<4294967281)(hm:w.cell? ⟨0,0,none⟩=some (.int .i64 m))(h1:1<=sep.size):
  Calls Tryz.prog 42 #[.string s,.string sep] w λe w'=>
   e= .returned (.slice (some ⟨w.heap.size,0,none⟩) (Lib.countB s sep+1) (Lib.countB s sep+1))/\w'=w.alloc (.cells ((Lib.splitB sep 0 (Lib.countB s sep) s).map Value.string).toArray 9):=Any.strings_Split Tryz.lays146 (by kernel_rfl) s sep m w hs hm h1
end Go.Proofs
namespace Go.Proofs.YtkegnipofloejaaGreatDoor.Den
open Go.RowKit
section
open Abs (V AV VR)
section
variable {c:C}{x:Z}{ρ:Rho}{H:Td Ob}
theorem fr_s{v:V}(h:FR c v)(e:c= .s x):v= .lit (.string x):=by
 cases h with
 |s=>cases e;rfl
 |i=>cases e
 |k=>cases e
 |b=>cases e
 |l=>cases e
theorem tD{ι:Td Abs.Inf}{I:Nat->Prop}{w:World}{x c:Value}(h:VR I w ι (.lit x) c):c=x:=by
 cases h with
 |lit _=>rfl
theorem CR.strs{xs:Td Z}{v:V}(h:CR ρ H (.l .s xs) v):∃es:Td (Td V),v= .imm 1 es/\es.length=xs.length/\∀(m:Nat)(h1:m<xs.length)(h2:m<es.length)(d:0<es[m].length),es[m][0]= .lit (.string xs[m]):=by
 cases h with
 | fl h=>
  cases h with
  | l hp hl hs j=>
   refine⟨_,rfl,hl,λm h1 h2 d=> ?_⟩;have:=j m h1 h2 0 (by show 0<[C.s _].length;simp) d;exact fr_s this rfl
theorem CR.str_{v:V}(h:CR ρ H (.s x) v):v= .lit (.string x):=by
 cases h with
 |fl h=>exact Tc
theorem oW{P:Program}{f:FuncId}{xs:Td AT}{u:Value}(d:Abs.dI P f)(t:Abs.dM u)(j:FR c (.lit u))
  (v:∀(ρ:Rho)(avs:Td AV),cL ρ [] xs avs->∀[Zb](w:World)(I:Nat->Prop)(ι:Td Abs.Inf)(cs:Array Value),(∀b,I b->b<w.heap.size)->Abs.ARs ι I w avs cs->Calls P f cs w λe w'=>e= .returned u/\Below w.heap.size w w'):CFn P f xs [] (.one c) []:=λρ h avs y hA=>
 (Abs.yC d t (v ρ avs hA)).mono fun r h' ⟨e1,e2⟩=>by
  subst e1;subst e2;exact⟨ρ,.one (.fl j),y,Fr.refl ρ [] _⟩
theorem J4{a:Td UInt8}(h:a.length<=140737488355328):(ByteArray.mk a.toArray).size<=maxLen:=by
 unfold maxLen;simp only[ByteArray.size,Q5];omega
end
end
theorem bm{α:Type}{xs:Td α}{i:Nat}{x:α}(h:xs[i]? =some x):xs.drop i=x::xs.drop (i+1):=by
 obtain⟨d,rfl⟩:=gI.1 h;exact Q7 d
theorem fW{α:Type}{xs:Td α}{i:Nat}{x:α}(h:xs[i]? =some x):xs.take (i+1)=xs.take i++[x]:=by
 obtain⟨d,rfl⟩:=gI.1 h;exact PE d
theorem cV{α:Type}{xs:Td α}(h:xs.length<=4294967296):lim xs=some xs:=by
 unfold lim;rw[Nat.ble_eq_true_of_le h];rfl
def gn(f:Tm->Tm->Int):Td Tm->Td Tm->Int
 |[],[]=>0
 |[],_::_=> -1
 |_::_,[]=>1
 |x::xs,y::ys=>if f x y=0 then gn f xs ys else f x y
def bg(a b:Int):Int:=if a=b then 0 else if a<b then -1 else 1
def dg(a b:Z):Int:=if a=b then 0 else if Abs.fk a b then -1 else 1
def mK(f:Td Tm->Td Tm->Int)(a b:Tm):Int:=if bg a.op b.op=0 then (if dg a.ah b.ah=0 then (if bg a.am b.am=0 then f a.ae b.ae else bg a.am b.am)else dg a.ah b.ah)else bg a.op b.op
def J8:Nat->Tm->Tm->Int
 |0,_,_=>0
 |k+1,a,b=>mK (gn (J8 k)) a b
def bR(a b:Tm):Int:=J8 (a.az+1) a b
theorem np{f g:Tm->Tm->Int}:∀{xs ys:Td Tm},(∀x∈xs,∀y,f x y=g x y)->gn f xs ys=gn g xs ys
 |[],[],_=>rfl
 |[],_::_,_=>rfl
 |_::_,[],_=>rfl
 | x::xs,y::ys,h=>by
  unfold gn;rw[h x A1 y,np λz d=>h z I1]
theorem sM{f g:Td Tm->Td Tm->Int}{a b:Tm}(h:f a.ae b.ae=g a.ae b.ae):mK f a b=mK g a b:=by unfold mK;rw[h]
theorem aM{x t:Tm}(h:x∈t.ae):x.az<t.az:=by
 have:=mA h;have:=bu t;omega
theorem BP:∀(k j:Nat)(a b:Tm),a.az<k->a.az<j->J8 k a b=J8 j a b
 |0,_,_,_,h,_=>absurd h (OM _)
 |_+1,0,_,_,_,h=>absurd h (OM _)
 |k+1,j+1,a,b,h1,h2=>sM (np λx d y=>BP k j x y H3 H3)
theorem iQ(a b:Tm):bR a b=mK (gn bR) a b:=sM (np λx d y=>BP _ _ x y (aM d) (OX _))
theorem uU(a:Int):bg a a=0:=mt rfl
theorem p6(a:Z):dg a a=0:=mt rfl
theorem uj{f:Tm->Tm->Int}:∀{xs:Td Tm},(∀x∈xs,f x x=0)->gn f xs xs=0
 |[],_=>rfl
 | x::xs,h=>by
  unfold gn;rw[mt (h x A1)];exact uj λy d=>h y I1
theorem pW:∀(k:Nat)(a:Tm),a.az<k->bR a a=0
 |0,_,h=>absurd h (OM _)
 | k+1,a,h=>by
  rw[iQ];unfold mK;rw[mt (uU _),mt (p6 _),mt (uU _)];exact uj λx d=>pW k x H3
theorem xB(a b:Int):bg b a= -bg a b:=by
 unfold bg;by_cases h:a=b
 .subst h;simp
 .omega
theorem gU{a b:Int}(h:bg a b=0):a=b:=by
 unfold bg at h;by_cases e:a=b
 .exact e
 .omega
theorem nv:∀(a b:Td UInt8),a≠b->Op.bytesLess b a= !Op.bytesLess a b
 |[],[],h=>absurd rfl h
 |[],_::_,_=>rfl
 |_::_,[],_=>rfl
 | x::xs,y::ys,h=>by
  unfold Op.bytesLess;by_cases e:x=y
  .subst e;have h2:xs≠ys:=λe=>h (by rw[e]);simp[nv xs ys h2]
  .grind
theorem lj:∀(a b:Td UInt8),Lib.compareBytes a b=if a=b then 0 else if Op.bytesLess a b then -1 else 1
 |[],[]=>rfl
 |[],_::_=>rfl
 |_::_,[]=>rfl
 | x::xs,y::ys=>by
  unfold Lib.compareBytes Op.bytesLess;rw[lj xs ys];by_cases e:x=y
  .grind
  .grind
theorem jB(a b:Z):Lib.compareBytes a.data.toList b.data.toList=dg a b:=by
 rw[lj,<-Abs.iM,<-Abs.iM];unfold dg Abs.fk;by_cases h:a=b
 .subst h;simp
 .rw[O2 h,O2 (λe=>h (Abs.eX e))]
theorem F6(a b:Z):dg b a= -dg a b:=by
 unfold dg;by_cases h:a=b
 .subst h;simp
 .rw[O2 h,O2 (λe=>h e.symm)];have:=nv a.toList b.toList λe=>h (Abs.eX e);unfold Abs.fk;rw[this];cases Op.bytesLess a.toList b.toList<;>rfl
theorem Jr(a b:Z): -1<=dg a b/\dg a b<=1:=by
 unfold dg;split
 .decide
 .omega
theorem yO{f:Tm->Tm->Int}:∀{xs ys:Td Tm},(∀x∈xs,∀y,f y x= -f x y)->gn f ys xs= -gn f xs ys
 |[],[],_=>rfl
 |[],_::_,_=>rfl
 |_::_,[],_=>rfl
 | x::xs,y::ys,h=>by
  unfold gn;rw[h x A1 y,yO (xs:=xs) (ys:=ys) λz d=>h z I1];by_cases e:f x y=0
  .omega
  .omega
theorem sU:∀(k:Nat)(a b:Tm),a.az<k->bR b a= -bR a b
 |0,_,_,h=>absurd h (OM _)
 | k+1,a,b,h=>by
  rw[iQ,iQ a b];unfold mK;rw[xB a.op b.op,F6 a.ah b.ah,xB a.am b.am,yO λx d y=>sU k x y H3];by_cases h1:bg a.op b.op=0
  .omega
  .omega
theorem z5c:aj (strings_Compare.ent λa b=>some (dg a b)):=okQ λR K r a b hc=>by
 obtain⟨r,q1,q2⟩:=bb hc;cases q1;have B:=Jr a b;refine⟨_,_,q2,oW (u:=.int .i64 (dg a b)) ⟨Tryz.f147,Tryz.func147,D1,D1⟩ (Abs.jQ A0 A0) .i λρ avs hA _ w I ι cs C j=> ?_⟩;obtain⟨hA1,hA2⟩:=hA
 match avs,hA1 with
 | [x, y],_=>
  have d:=hA2 0 A1 A1;have h:=hA2 1 A1 A1;simp only[OY,PG]at d h;cases d with
  |one d=>
  cases h with
  |one h=>
  have d:=d.str_;subst d;have h:=h.str_;subst h;obtain⟨h1,h2⟩:=j;obtain⟨u,u1,u2⟩:=h2 0 A1;obtain⟨z,v,t⟩:=h2 1 A1;rcases cs with⟨l⟩
  match l,h1 with
  | [p,q],_=>
   simp at u1 v;subst u1;subst v;cases u2 with
   |one u2=>
   cases u2 with
   |lit _=>
   cases t with
   |one t=>
   cases t with
   |lit _=>
   refine(Tryz.strings_Compare a b w).mono λe w' ⟨k1,A⟩=>⟨by rw[k1,jB],by subst A;exact Below.refl _ _⟩
section
open Abs (V AV au)
section
variable {c:C}{cs:Td C}{vs:Td V}{xs:Td AT}{h:au}{id:Nat}{H:Td Ob}{P:Program}{f:FuncId}{avs:Td AV}
theorem FR.uniq{v:V}(h:FR c v):∀{d:V},FR c d->v=d:=by
 induction h with
 |i=>intro d h;exact Tc
 |k=>intro d h;exact Tc
 |b=>intro d h;exact Tc
 |s=>intro d h;exact Tc
 | @l T xs es hp hl hs F A=>
  intro d h;cases h with
  | @l _ _ es' B D t w=>
   congr 1
   apply Qq A0;intro m h1 h2;have a:=hs _ (gM h1);have b:=t _ (gM h2);apply Qq A0;intro j E h4;have hm:m<xs.length:=A0
   have y:j<(aC T xs[m]).length:=by rw[df T hp];omega
   exact A m hm h1 j y E (w m hm h2 j y h4)
noncomputable def vC(c:C):V:=by
 classical
 exact if h:∃v,FR c v then h.choose else .lit undef
theorem FR.vC{c:C}{v:V}(h:FR c v):v=vC c:=by
 have d:∃v,FR c v:=⟨v,h⟩;unfold Den.vC;rw[dif_pos d];exact h.uniq d.choose_spec
theorem NA(x:Int):vC (.i x)= .lit (.int .i64 x):=FR.i.vC.symm
theorem vC_b(x:Bool):vC (.b x)= .lit (.bool x):=FR.b.vC.symm
theorem vC_s(x:Z):vC (.s x)= .lit (.string x):=FR.s.vC.symm
theorem FRs.vC{cs:Td C}{vs:Td V}(h:FRs cs vs):vs=cs.map vC:=by
 apply Qq QQ;intro j h1 h2;rw[P5];exact(h.2 j Hm h1).vC
def Ok(cs:Td C):Prop:=FRs cs (cs.map vC)
theorem FRs.ok(h:FRs cs vs):Ok cs:=by
 have:=h.vC;subst this;exact h
theorem Ok.flat(h:Ok cs):(cs.map vC).all V.flat=true:=by
 rw[aT];intro v t;obtain⟨j,d,rfl⟩:=Pw t;exact(h.2 j QO d).flat
theorem Ok.app{a b:Td C}(h:Ok a)(k:Ok b):Ok (a++b):=by
 unfold Ok at*;rw[PJ];exact sW (by
  rw[Qf,bA];have one:∀{c:C}{v:V},FR c v->fL c=true:=λh=>by cases h<;>rfl
  have key:∀{cs:Td C},FRs cs (cs.map vC)->cs.all fL=true:=λ{cs} h=>by
   rw[aT];intro c hc;obtain⟨j,d,rfl⟩:=Pw hc;exact one (h.2 j d QO)
  exact⟨key h,key k⟩) (CRs.app h.cr k.cr)
theorem Ok.one{v:V}(h:FR c v):Ok [c]:=FRs.ok (vs:=[v]) ⟨rfl,λj h1 h2=>by
 obtain rfl:j=0:=I2
 exact h⟩
theorem Ok.cons{v:V}(h:FR c v)(k:Ok cs):Ok (c::cs):=(Ok.one h).app k
theorem gh{T:Ty}(hp:0<szT T){xs:Td (I T)}(h:∀x∈xs,Ok (aC T x)):FR (.l T xs) (.imm (szT T) (xs.map λx=>(aC T x).map vC)):=
 .l hp A1 (fun e he=>by
  obtain⟨x,_,rfl⟩:=List.mem_map.1 he;rw[OV,df T hp]) λm h1 h2 j d h4=>by
  have:=(h _ (gM h1)).2 j d QO;simp only[P5]at this ⊢;exact this
theorem yT:∀t:Tm,Ok (aC (.n 1) t):=by
 have key:∀(k:Nat)(t:Tm),t.az<k->Ok (aC (.n 1) t):=by
  intro k
  induction k with
  |zero=>intro t h;omega
  | succ k d=>
   intro t v;exact .cons .i (.cons .s (.cons .i (.one (gh (T:=.n 1) A3 λx j=>d x QV))))
 exact λt=>key _ t (OX _)
noncomputable abbrev tsV(l:Td Tm):Td (Td V):=l.map λx:Tm=>(aC (.n 1) x).map vC
theorem Ai(l:Td Tm):FR (.l (.n 1) l) (.imm 4 (tsV l)):=gh (T:=.n 1) A3 λx _=>yT x
noncomputable abbrev tV(t:Tm):Td V:=[.lit (.int .i64 t.op),.lit (.string t.ah),.lit (.int .i64 t.am),.imm 4 (tsV t.ae)]
theorem n5(t:Tm):(aC (.n 1) t).map vC=tV t:=by
 show [vC (.i t.op),vC (.s t.ah),vC (.i t.am),vC (.l (.n 1) t.ae)]=_;rw[NA,vC_s,NA,<-(Ai t.ae).vC]
theorem Cg(l:Td Z):FR (.l .s l) (.imm 1 (l.map λx=>(aC .s x).map vC)):=gh (T:=.s) A3 λx _=>.one .s
theorem K7(l:Td Int):FR (.l .i l) (.imm 1 (l.map λx=>(aC .i x).map vC)):=gh (T:=.i) A3 λx _=>.one .i
theorem okDc(d:Dc):Ok (aC (.n 7) d):=.cons (K7 d.ae) (.one .i)
theorem B3(l:Td Sb):FR (.l (.n 5) l) (.imm 2 (l.map λx=>(aC (.n 5) x).map vC)):=gh (T:=.n 5) A3 λx _=>.cons .i (.one .i)
theorem J9(l:Td Dc):FR (.l (.n 7) l) (.imm 2 (l.map λx=>(aC (.n 7) x).map vC)):=gh (T:=.n 7) A3 λx _=>okDc x
theorem Oj(o:Opr):Ok (aC (.n 8) o):=.cons .s (.cons (J9 o.aJ) (.cons .b (.cons .b (.one .i))))
theorem FI(l:Td Opr):FR (.l (.n 8) l) (.imm 5 (l.map λx=>(aC (.n 8) x).map vC)):=gh (T:=.n 8) A3 λx _=>Oj x
noncomputable abbrev sV(s:Sg):Td V:=[.imm 1 (s.ai.ak.map λx=>(aC .s x).map vC),.imm 2 (s.ai.aA.map λx=>(aC (.n 5) x).map vC),.imm 5 (s.ops.map λx=>(aC (.n 8) x).map vC)]
theorem MA(s:Sg):FRs (aC (.n 9) s) (sV s):=by
 have h:Ok (aC (.n 9) s):=.cons (Cg _) (.cons (B3 _) (.one (FI _)));have e:(aC (.n 9) s).map vC=sV s:=by
  show [vC (.l .s s.ai.ak),vC (.l (.n 5) s.ai.aA),vC (.l (.n 8) s.ops)]=_;rw[<-(Cg _).vC,<-(B3 _).vC,<-(FI _).vC]
 rw[<-e];exact h
abbrev gm(c:Cur):Td C:=[.l .u c.b,.i c.i,.i c.h]
theorem Fy(c:Cur):Ok (gm c):=.cons (gh (T:=.u) A3 λx _=>.one .k) (.cons .i (.one .i))
noncomputable abbrev bU(c:Cur):Y Abs.Ob:=some (.row 3 [(gm c).map vC])
def CurAt(h:au)(id:Nat)(c:Cur):Prop:=h[id]? =some (bU c)
theorem CurAt.set{c:Cur}(k:CurAt h id c)(c':Cur):CurAt (h.set id (bU c')) id c':=by
 unfold CurAt at*;rw[sS (gI.1 k).1]
noncomputable def vA:AT->AV
 | .one c=>.one (vC c)
 | .agg cs=>.agg (cs.map vC)
 | .tup _=>.dead
def OkA:AT->Prop
 | .one c=>Ok [c]
 | .agg cs=>Ok cs
 | .tup _=>False
theorem jD{ρ:Rho}{v:AT}{r:AV}(d:v.flat=true)(t:∀xs,v≠.tup xs)(h:ATR ρ H v r):r=vA v/\OkA v:=by
 have h:ATR [] [] v r:=h.up d;cases h with
 | @one c u h'=>
  have h:=h';have:FR c u:=kO d h;refine⟨by rw[this.vC];rfl,?_⟩;exact FRs.ok (vs:=[u]) ⟨rfl,λj h1 h2=>by
   obtain rfl:j=0:=I2
   exact this⟩
 | agg h'=>
  have:=sW d h';exact⟨by rw[this.vC];rfl,this.ok⟩
 |tup _ _=>exact absurd rfl (t _)
theorem OkA.flat{v:AT}(h:OkA v):(vA v).flat=true:=by
 cases v with
 | one c=>
  have:=Ok.flat h;simp only[Pz,List.map_nil,Pe,List.all_nil,Qt]at this;show (vC c).flat=true;exact this
 | agg cs=>
  show (cs.map vC).all V.flat=true;exact Ok.flat h
 |tup _=>exact h.elim
theorem Bj{c:Cur}(hc:CurAt h id c):HpR [some id] [.box (gm c)] h:=by
 refine⟨rfl,λi n T xs d=> ?_,λi cs d=> ?_,λi T kvs d=> ?_,λi j a h1 h2 _ _=> ?_,λi a hi=> ?_⟩
 .grind
 .cases i with
  |zero=>cases d;exact⟨id,(gm c).map vC,rfl,hc,FRs.cr (Fy c)⟩
  |succ i=>simp at d
 .grind
 .grind
 .cases i with
  |zero=>cases hi;exact(gI.1 hc).1
  |succ i=>simp at hi
theorem K9{v:AT}{c c':Cur}(hF:CFn P f (.one (.p 0 0)::xs) [.box (gm c)] v [.box (gm c')])(D:v.flat=true)(E:∀xs,v≠.tup xs)(hc:CurAt h id c)(d:cL [] [] xs avs):
  Abs.Fn P f (.one (.ptr id 0 0)::avs) h (λr h'=>r=vA v/\h'=h.set id (bU c')):=by
 have F:Ev [] [] [some id] [.box (gm c)]:=⟨λi x d=>QR,λi x d=>QR⟩;have w:cL [some id] [.box (gm c)] (.one (.p 0 0)::xs) (.one (.ptr id 0 0)::avs):=aP (.one (.p rfl)) ⟨d.1,λj h1 h2=>(d.2 j h1 h2).mono F⟩;refine Abs.Fn.seal (hF [some id] h _ (Bj hc) w) ?_;rintro z r h' ⟨ρ',G,hp,y⟩;obtain⟨e1,A⟩:=jD D E G;subst e1;have hid:id<h.length:=(gI.1 hc).1;have r0:ρ'[0]? =some (some id):=y.rho 0 _ rfl;obtain⟨a,vs,q1,q2,q3⟩:=hp.box 0 _ rfl;rw[r0]at q1;cases q1;have q4:FRs (gm c') vs:=⟨q3.1,λj h1 h2=>by
  have:=q3.2 j h1 h2;have t:fL (gm c')[j]=true:=by
   match j,h1 with
   |0,_=>rfl
   |1,_=>rfl
   |2,_=>rfl
  exact kO t (this.up t)⟩
 have q5:=q4.vC;subst q5;have B:Ok (gm c'):=q4;have H:h'[id]? =some (bU c'):=q2;have key:h'=h.set id (bU c')++h'.drop h.length:=by
  conv=>lhs;rw[<-PB h.length h']
  congr 1
  apply List.ext_getElem?;intro i;rw[List.getElem?_take,List.getElem?_set];have bF:h.length<=h'.length:=y.len;by_cases hi:i<h.length
  .rw [mt hi];by_cases e:id=i
   .subst e;rw[mt rfl,mt hi];exact H
   .rw[O2 e];exact y.same i hi λj C=>by
     cases j with
     |zero=>cases C;exact absurd rfl e
     |succ j=>simp at C
  .rw[O2 hi];have:h[i]? =none:=Qj A0
   grind
 refine⟨[(0,vA v)],h',vA v,.refl _ _,rfl,.inr ⟨_,_,key,A.flat,A1,λi o ho=> ?_,rfl,rfl⟩⟩;rcases Abs.cD ho with⟨_,e,_⟩|⟨_,e⟩
 .cases e;refine .inr ?_;show [(gm c').map vC].all (·.all V.flat)=true;rw[Pe,B.flat];rfl
 .exact .inl e
theorem ia{e:Ent}(he:kY P e){H':Td Ob}{v:AT}(h:e.call (AT×Td Ob) xs H (λv H'=>some (v,H'))=some (v,H')):CFn P e.f xs H v H':=by
 obtain⟨d,H2,e1,k⟩:=he _ _ _ _ _ h;cases e1;exact k
theorem lP{v:AT}(hF:CFn P f xs [] v [])(w:v.flat=true)(y:∀xs,v≠.tup xs)(A:cL [] [] xs avs)(d:Abs.AV.fZ avs=true)(j:OkA v):
  Abs.Fn P f avs h (λr h'=>r=vA v/\h'=h):=by
 refine Abs.Fn.frame (Abs.Fn.seal (hF [] [] avs HpR.fj A) ?_) d j.flat h;rintro z r h' ⟨ρ',B,hp,C⟩;obtain⟨e1,t⟩:=jD w y B;subst e1;exact⟨[(0,vA v)],h',vA v,.refl _ _,rfl,.inr ⟨[],h',rfl,t.flat,A1,λi o ho=>by simp at ho,rfl,rfl⟩⟩
end
section
variable {P : Program} {E : Abs.Cx} {K : Abs.Env → au → Prop} {L : Abs.Env} {h l : au} {n d id : Nat} {ty : TypeId} {pos : String} {af : Array Edge} {gd : Y (Nat × Bool)} {f : Nat} {ae : Td Operand} {tys : Array TypeId} {xs : Td AT} {v : AT} {c c' : Cur} {avs : Td AV}
theorem jm(hF:CFn P f (.one (.p 0 0)::xs) [.box (gm c)] v [.box (gm c')])(d:v.flat=true)(j:∀xs,v≠.tup xs)(hc:CurAt h id c)(t:cL [] [] xs avs):Abs.Fn P f (.one (.ptr id 0 0)::avs) (h++l) (λr h'=>r=vA v/\h'=h.set id (bU c')++l):=by
 have:=K9 hF d j (h:=h++l) (id:=id) (Abs.ba id hc) t
 rwa [Abs.kP id hc]at this
theorem iF(t:Abs.evs L ae=some (.one (.ptr id 0 0)::avs))(w:d<E.n)(hF:CFn P f (.one (.p 0 0)::xs) [.box (gm c)] v [.box (gm c')])(y:v.flat=true)(A:∀xs,v≠.tup xs)(hc:CurAt h id c)(hN:h.length=n)(j:cL [] [] xs avs)
  (hk:∀h1,h1=h.set id (bU c')->h1.length=n->CurAt h1 id c'->K ((d,vA v)::L) (h1++l)):Abs.ar P ⟨some d,.call ⟨.value (.func f),ae.toArray,tys⟩,ty,pos,af,gd⟩ E K L (h++l):=
 Abs.bL t w (jm hF y A hc j) (hk _ rfl Rv (hc.set c'))
end
end
abbrev bV(k:Nat):Tm->Tm->Y Int:=λa b=>if a.az<k then some (bR a b)else none
abbrev zj(k:Nat):Td Tm->Td Tm->Y Int:=λxs ys=>if aF xs<k then some (gn bR xs ys)else none
section
variable {f:Tm->Tm->Int}{y x:Tm}{ys xs:Td Tm}
theorem BY:gn f [] []=0:=rfl
theorem Bm:gn f [] (y::ys)= -1:=rfl
theorem CB:gn f (x::xs) []=1:=rfl
theorem Bq:gn f (x::xs) (y::ys)=if f x y=0 then gn f xs ys else f x y:=rfl
end
section
variable {R : Type}
theorem DM(n k:Nat)(v a3 b1 b3:Int)(w b2:Z)(xs ys:Td Tm)(B:∀x∈xs,x.az<k)(C:xs.length<4294967296)(j:Int->Y R):∀m i,i<=xs.length->i<=ys.length->xs.length-i<m->
  z2d.l14 ⟨bV k⟩ n m v w a3 xs b1 b2 b3 ys (i:Int) j (bif decide ((xs.length:Int)<(ys.length:Int))then j (-1)else bif decide ((ys.length:Int)<(xs.length:Int))then j 1 else j 0)=j (gn bR (xs.drop i) (ys.drop i)):=by
 intro m
 induction m with
 |zero=>exact T6
 | succ m D=>
  intro i h1 h2 hm;show z2d.b14 ⟨bV k⟩ n v w a3 xs b1 b2 b3 ys (i:Int) (λE=>z2d.l14 ⟨bV k⟩ n m v w a3 xs b1 b2 b3 ys E j _) j _=_;unfold z2d.b14;by_cases h:i<xs.length
  .obtain⟨x,A,F⟩:=bo h;rw[bt h,cT,bm A];by_cases d:i<ys.length
   .obtain⟨y,t,_⟩:=bo d;rw[bt d,cT,aW A,bS,aW t,bS,Tm.eta,Tm.eta,bm t,Bq];show Option.bind (bV k x y) _=_;unfold bV;rw[mt (B x F),bS];by_cases e:bR x y=0
    .rw[dT e,O4,cF,bw A0,mt e];exact D (i+1) h d A0
    .grind
   .obtain rfl:i=ys.length:=A0
    rw[bh d,cF,bh A0,cF,bt h,cT,ck,CB]
  .obtain rfl:i=xs.length:=A0
   rw[bh h,cF,ck];by_cases d:xs.length<ys.length
   .obtain⟨y,t,_⟩:=bo d;rw[bt d,cT,bm t,Bm]
   .have e:xs.length=ys.length:=A0
    rw[bh d,cF,bh A0,cF,e,ck,BY]
theorem DS(n k:Nat)(xs ys:Td Tm)(w:∀x∈xs,x.az<k)(A:xs.length<4294967296)(j:Int->Y R):∀m i,i<=xs.length->i<=ys.length->xs.length-i<m->
  z4l.l2 ⟨bV k⟩ n m xs ys xs (xs.length:Int) (i:Int) j (bif decide ((xs.length:Int)<(ys.length:Int))then j (-1)else j 0)=j (gn bR (xs.drop i) (ys.drop i)):=by
 intro m
 induction m with
 |zero=>exact T6
 | succ m B=>
  intro i h1 h2 hm;show z4l.b2 ⟨bV k⟩ n xs ys xs (xs.length:Int) (i:Int) (λC=>z4l.l2 ⟨bV k⟩ n m xs ys xs (xs.length:Int) C j _) j _=_;unfold z4l.b2;by_cases h:i<xs.length
  .obtain⟨x,v,D⟩:=bo h;rw[bt h,cT,bm v,aW v,bS];by_cases d:i<ys.length
   .obtain⟨y,t,_⟩:=bo d;rw[dF A0,cF,aW t,bS,Tm.eta,Tm.eta,bm t,Bq];show Option.bind (bV k x y) _=_;unfold bV;rw[mt (w x D),bS];by_cases e:bR x y=0
    .rw[dT e,O4,cF,bw A0,mt e];exact B (i+1) h d A0
    .grind
   .obtain rfl:i=ys.length:=A0
    rw[dT A0,cT,ck,CB]
  .obtain rfl:i=xs.length:=A0
   rw[bh h,cF,ck];by_cases d:xs.length<ys.length
   .obtain⟨y,t,_⟩:=bo d;rw[bt d,cT,bm t,Bm]
   .have e:xs.length=ys.length:=A0
    rw[bh d,cF,e,ck,BY]
end
theorem EH{R:Type}{a b:Tm}{v:Int}(K:Int->Y R)(z:Y R)(d:z=K v):(bif !decide (a.op=b.op)then (bif decide (a.op<b.op)then K (-1)else K 1)else bif !sEq a.ah b.ah then (bif Abs.fk a.ah b.ah then K (-1)else K 1)else bif !decide (a.am=b.am)then (bif decide (a.am<b.am)then K (-1)else K 1)else z)=K (mK (λ_ _=>v) a b):=by
 subst d;unfold mK bg dg;by_cases h1:a.op=b.op
 .rw[dT h1,mt h1,mt rfl,O4,cF];by_cases h2:a.ah=b.ah
  .rw[show sEq a.ah b.ah=true from dT h2,mt h2,mt rfl,O4,cF];by_cases h:a.am=b.am
   .grind
   .grind
  .rw[show sEq a.ah b.ah=false from dF h2,O2 h2,OS,cT];cases Abs.fk a.ah b.ah<;>rfl
 .grind
theorem z2e:∀k,k<=4294967296->aj (z2d.ent (bV k))
 |0,_=>okQ (by (repeat intro h);simp[bV]at h)
 | k+1,hk=>z2d.ok (G:=⟨bV k⟩) ⟨z2e k A0,trivial⟩ fun a b r h=>by
  unfold bV at h;split at h
  .rename_i hs;cases h;refine⟨a.ae.length+1,?_⟩;unfold z2d.aq;have j:=bu a;have hl:=ct a.ae;have e:=DM (a.ae.length+1) k a.op a.am b.op b.am a.ah b.ah a.ae b.ae (λx d=>H3) A0 (λr0=>some (AT.one (.i r0),([]:Td Ob))) (a.ae.length+1) 0 A0 A0 A0;simp only[OQ]at e;refine(EH (a:=a) (b:=b) (v:=gn bR a.ae b.ae) (λr0=>some (AT.one (.i r0),([]:Td Ob))) _ e).trans ?_;rw[iQ];rfl
  .cases h
theorem Dx{a b:Tm}{v:Int}:(if (if bg a.op b.op≠0 then bg a.op b.op else if dg a.ah b.ah≠0 then dg a.ah b.ah else bg a.am b.am)=0 then v else (if bg a.op b.op≠0 then bg a.op b.op else if dg a.ah b.ah≠0 then dg a.ah b.ah else bg a.am b.am))=mK (λ_ _=>v) a b:=by
 unfold mK;by_cases h1:bg a.op b.op=0
 .grind
 .simp[h1]
abbrev gOr:Td Int->Y Int:=λl=>match l with
 |[a,b,c]=>some (if a≠0 then a else if b≠0 then b else c)
 |_=>none
theorem Ge:aj (z02.ent gOr):=z02.ok (G:=⟨()⟩) trivial λ(l:Td Int) r h=>by
 unfold gOr at h;split at h
 .rename_i a b c;cases h;refine⟨4,?_⟩;have t:ix [a,b,c] 0=some a:=rfl;have v:ix [a,b,c] 1=some b:=rfl;have w:ix [a,b,c] 2=some c:=rfl;have y:wr (0+1)=1:=A3
  have A:wr (1+1)=2:=A3
  have B:wr (2+1)=3:=A3
  have C:decide ((0:Int)<3)=true:=rfl;have D:decide ((1:Int)<3)=true:=rfl;have d2:decide ((2:Int)<3)=true:=rfl;have E:decide ((3:Int)<3)=false:=rfl;have step:∀{R:Type}(m:Nat)(i:Int)(K:Int->Y R)(k1:Y R),z02.l3 ⟨()⟩ 4 (m+1) 0 [a,b,c] 3 i K k1=z02.b3 ⟨()⟩ 4 0 [a,b,c] 3 i (λF=>z02.l3 ⟨()⟩ 4 m 0 [a,b,c] 3 F K k1) K k1:=λm i K k1=>rfl;unfold z02.aq;show z02.l3 ⟨()⟩ 4 (3+1) 0 [a,b,c] 3 0 _ _=_;rw[step];unfold z02.b3;rw[C,cT,t,bS];by_cases d:a=0
  .rw [decide_eq_true d,O4,cond_false,y,O2 (fun h=>h d)];show z02.l3 ⟨()⟩ 4 (2+1) 0 [a,b,c] 3 1 _ _=_;rw[step];unfold z02.b3;rw[D,cT,v,bS];by_cases j:b=0
   .rw[dT j,O4,cF,A,O2 (λh=>h j)];show z02.l3 ⟨()⟩ 4 (1+1) 0 [a,b,c] 3 2 _ _=_;rw[step];unfold z02.b3;rw[d2,cT,w,bS];by_cases hc:c=0
    .rw[dT hc,O4,cF,B];show z02.l3 ⟨()⟩ 4 (0+1) 0 [a,b,c] 3 3 _ _=_;rw[step];unfold z02.b3;rw[E,cF,hc]
    .grind
   .grind
  .grind
 .cases h
theorem HZ:aj (z05.ent λ_=>some false):=z05.ok (G:=⟨()⟩) trivial λx r h=>⟨1,by
 cases h;unfold z05.aq;rw[dT rfl];rfl⟩
theorem tZ:aj (z01.ent λa b=>some (bg a b)):=z01.ok (G:=⟨λ_=>some false⟩) ⟨HZ,trivial⟩ λa b r h=>⟨1,by
 cases h;unfold z01.aq;simp only[bS,cF];unfold bg;by_cases h:a=b
 .subst h;rw[dF A0,cF,cF,mt rfl]
 .rw[O2 h];by_cases h2:a<b
  .rw[dT h2,cT,mt h2]
  .rw[dF h2,cF,dT A0,cT,O2 h2]⟩
abbrev N9(k:Nat):z0a.Gs:={z01:=λa b=>some (bg a b),strings_Compare:=λa b=>some (dg a b),z02:=gOr,z4l:=zj k}
theorem sH(k:Nat)(hk:k<4294967296)(e:aj (z0a.ent (bV k))):aj (z4l.ent (zj (k+1))):=z4l.ok (G:=⟨bV k⟩) ⟨e,trivial⟩ λ(xs:Td Tm)(ys:Td Tm) r h=>by
 unfold zj at h;split at h
 .rename_i hs;cases h;have hl:=ct xs;refine⟨xs.length+1,?_⟩;unfold z4l.aq;have e:=DS (xs.length+1) k xs ys (λx d=>by have:=mA d;omega) A0 (λr0=>some (AT.one (.i r0),([]:Td Ob))) (xs.length+1) 0 A0 A0 A0;simp only[OQ]at e;exact e
 .cases h
theorem z0b:∀k,k<=4294967296->aj (z0a.ent (bV k))
 |0,_=>okQ (by (repeat intro h);simp[bV]at h)
 | k+1,hk=>z0a.ok (G:=N9 (k+1)) ⟨tZ,z5c,Ge,sH k A0 (z0b k A0),trivial⟩ fun a b r h=>by
  unfold bV at h;split at h
  .rename_i hs;cases h;have j:=bu a;refine⟨1,?_⟩;unfold z0a.aq;show (bif !decide ((if bg a.op b.op≠0 then bg a.op b.op else if dg a.ah b.ah≠0 then dg a.ah b.ah else bg a.am b.am)=0)then some (AT.one (.i (if bg a.op b.op≠0 then bg a.op b.op else if dg a.ah b.ah≠0 then dg a.ah b.ah else bg a.am b.am)),([]:Td Ob))else Option.bind (zj (k+1) a.ae b.ae) λd=>some (AT.one (.i d),[]))=_;have e:=Dx (a:=a) (b:=b) (v:=gn bR a.ae b.ae);have e2:bR a b=mK (λ_ _=>gn bR a.ae b.ae) a b:=iQ a b;rw[e2,<-e];generalize (if bg a.op b.op≠0 then bg a.op b.op else if dg a.ah b.ah≠0 then dg a.ah b.ah else bg a.am b.am)=z;unfold zj;rw[mt A0,bS];by_cases t:z=0
   .grind
   .grind
  .cases h
def szK:Nat->Tm->Nat
 |0,_=>0
 |k+1,t=>1+wS (szK k) t.ae
def tsz(t:Tm):Nat:=szK (t.az+1) t
theorem rO{A:Type}{f g:A->Nat}:∀{l:Td A},(∀x∈l,f x=g x)->wS f l=wS g l
 |[],_=>rfl
 |x::l,h=>by rw[hZ,hZ,h x A1,rO λy d=>h y I1]
theorem EQ:∀(k j:Nat)(t:Tm),t.az<k->t.az<j->szK k t=szK j t
 |0,_,_,h,_=>absurd h (OM _)
 |_+1,0,_,_,h=>absurd h (OM _)
 |k+1,j+1,t,h1,h2=>congrArg (1+·) (rO λx d=>EQ k j x H3 H3)
theorem dY(t:Tm):tsz t=1+wS tsz t.ae:=congrArg (1+·) (rO λx d=>EQ _ _ x (aM d) (OX _))
def mxS(f:Tm->Nat)(l:Td Tm):Nat:=l.foldr (λx n=>max (f x) n) 0
def dpK:Nat->Tm->Nat
 |0,_=>0
 |k+1,t=>mxS (dpK k) t.ae+1
def tdp(t:Tm):Nat:=dpK (t.az+1) t
theorem kg{f:Tm->Nat}{x:Tm}{l:Td Tm}:mxS f (x::l)=max (f x) (mxS f l):=rfl
theorem qb{f g:Tm->Nat}:∀{l:Td Tm},(∀x∈l,f x=g x)->mxS f l=mxS g l
 |[],_=>rfl
 |x::l,h=>by rw[kg,kg,h x A1,qb λy d=>h y I1]
theorem Fs:∀(k j:Nat)(t:Tm),t.az<k->t.az<j->dpK k t=dpK j t
 |0,_,_,h,_=>absurd h (OM _)
 |_+1,0,_,_,h=>absurd h (OM _)
 |k+1,j+1,t,h1,h2=>congrArg (·+1) (qb λx d=>Fs k j x H3 H3)
theorem rj(t:Tm):tdp t=mxS tdp t.ae+1:=congrArg (·+1) (qb λx d=>Fs _ _ x (aM d) (OX _))
theorem AY:∀(k:Nat)(t:Tm),t.az<k->tsz t<=t.az+1
 |0,_,h=>absurd h (OM _)
 | k+1,t,h=>by
  rw[dY];have w:=bu t;have:∀l:Td Tm,(∀x∈l,tsz x<=x.az+1)->wS tsz l<=aF l:=λl=>by
   induction l with
   |nil=>intro _;exact O3 _
   | cons x l d=>
    intro hl;rw[hZ,d9];have:=hl x A1;have:=d λy j=>hl y (by simp[j]);omega
  have:=this t.ae λx v=>AY k x (by have:=aM v;omega);omega
theorem GK{f:Tm->Nat}{n:Nat}:∀{l:Td Tm},(∀x∈l,f x<=n)->mxS f l<=n
 |[],_=>P6 _
 |x::l,h=>by rw[kg];exact Nat.max_le.2 ⟨h x A1,GK λy d=>h y I1⟩
theorem Aa:∀(k:Nat)(t:Tm),t.az<k->tdp t<=t.az+1
 |0,_,h=>absurd h (OM _)
 | k+1,t,h=>by
  rw[rj];have:mxS tdp t.ae<=t.az:=GK λx d=>by have:=aM d;have:=Aa k x A0;omega
  omega
abbrev gSz(k:Nat):Tm->Y Int:=λt=>if t.az<k then some (tsz t:Int)else none
abbrev gDp(k:Nat):Tm->Y Int:=λt=>if t.az<k then some (tdp t:Int)else none
abbrev gCp(k:Nat):Tm->Y Tm:=λt=>if t.az<k then some t else none
abbrev ox(k:Nat):Td Tm->Y (Td Tm):=λl=>if aF l<k then some l else none
abbrev gLf(k:Nat):Tm->Int->Y Int:=λt left=>if t.az<k/\0<=left/\left<=60 then some (if (tsz t:Int)<=left then left-tsz t else -1)else none
section
variable {R : Type}
theorem Iv(n k:Nat)(xs:Td Tm)(j:∀x∈xs,x.az<k)(d:Int->Y R):∀m (i s:Nat),i<=xs.length->s+wS tsz (xs.drop i)<=8589934592->xs.length<4294967296->xs.length-i<m->
  z0s.l3 ⟨gSz k⟩ n m xs (xs.length:Int) (s:Int) (i:Int) d=d ((s+wS tsz (xs.drop i):Nat):Int):=by
 intro m
 induction m with
 |zero=>intro i s _ _ _ hm;omega
 | succ m t=>
  intro i s h1 h2 v hm;show z0s.b3 ⟨gSz k⟩ n xs (xs.length:Int) (s:Int) (i:Int) (λw y=>z0s.l3 ⟨gSz k⟩ n m xs (xs.length:Int) w y d) d=_;unfold z0s.b3;by_cases hi:i<xs.length
  .obtain⟨x,h,A⟩:=bo hi;rw[bm h,hZ]at h2 ⊢;rw[bt hi,cT,aW h,bS,Tm.eta];show Option.bind (gSz k x) _=_;unfold gSz;rw[mt (j x A),bS,bw A0,aX (x:=(s:Int)+(tsz x:Int)) A0];refine(t (i+1) (s+tsz x) hi A0 v A0).trans ?_;rw[Pk]
  .obtain rfl:i=xs.length:=A0
   exact T8
theorem Gv(n k:Nat)(xs:Td Tm)(j:∀x∈xs,x.az<k)(d:Int->Y R):∀m (i s:Nat),i<=xs.length->xs.length<4294967296->xs.length-i<m->
  z0c.l3 ⟨gDp k⟩ n m xs (xs.length:Int) (s:Int) (i:Int) d=d ((max s (mxS tdp (xs.drop i)):Nat):Int):=by
 intro m
 induction m with
 |zero=>intro i s _ _ hm;omega
 | succ m t=>
  intro i s h1 v hm;show z0c.b3 ⟨gDp k⟩ n xs (xs.length:Int) (s:Int) (i:Int) (λw y=>z0c.l3 ⟨gDp k⟩ n m xs (xs.length:Int) w y d) d=_;unfold z0c.b3;by_cases hi:i<xs.length
  .obtain⟨x,h,A⟩:=bo hi;rw[bm h,kg,bt hi,cT,aW h,bS,Tm.eta];show Option.bind (gDp k x) _=_;unfold gDp;have e:qS (s:Int) (tdp x:Int)=((max s (tdp x):Nat):Int):=by unfold qS;split<;>omega
   rw[mt (j x A),bS,bw A0,e];refine(t (i+1) (max s (tdp x)) hi v A0).trans ?_;rw[Nat.max_assoc]
  .obtain rfl:i=xs.length:=A0
   rw[bh hi,cF,ck,show mxS tdp []=0 from rfl,Nat.max_zero]
theorem GS(n k:Nat)(h a3:Int)(j:Z)(xs:Td Tm)(v:∀x∈xs,x.az<k)(d:Int->Y R):∀m (i s:Nat),i<=xs.length->xs.length<4294967296->xs.length-i<m->
  z2f.l3 ⟨gDp k,λa b=>some (qS a b)⟩ n m h j a3 xs (s:Int) (i:Int) d=d ((max s (mxS tdp (xs.drop i)):Nat):Int):=by
 intro m
 induction m with
 |zero=>intro i s _ _ hm;omega
 | succ m w=>
  intro i s h1 y hm;show z2f.b3 ⟨gDp k,λa b=>some (qS a b)⟩ n h j a3 xs (s:Int) (i:Int) (λA B=>z2f.l3 ⟨gDp k,λa b=>some (qS a b)⟩ n m h j a3 xs A B d) d=_;unfold z2f.b3;by_cases hi:i<xs.length
  .obtain⟨x,t,C⟩:=bo hi;rw[bm t,kg,bt hi,cT,aW t,bS,Tm.eta];show Option.bind (gDp k x) _=_;unfold gDp;have e:qS (s:Int) (tdp x:Int)=((max s (tdp x):Nat):Int):=by unfold qS;split<;>omega
   rw[mt (v x C),bS,bS,bw A0,e];refine(w (i+1) (max s (tdp x)) hi y A0).trans ?_;rw[Nat.max_assoc]
  .obtain rfl:i=xs.length:=A0
   rw[bh hi,cF,ck,show mxS tdp []=0 from rfl,Nat.max_zero]
theorem FK(n k:Nat)(h a3:Int)(j:Z)(xs:Td Tm)(A:∀x∈xs,x.az<k)(d:Int->Y R):∀m (i:Nat) (L:Int),i<=xs.length->xs.length<4294967296-> -1<=L->L<=60->xs.length-i<m->
  z49.l3 ⟨gLf k⟩ n m h j a3 xs L (i:Int) d=d (if (wS tsz (xs.drop i):Int)<=L then L-(wS tsz (xs.drop i):Int)else -1):=by
 intro m
 induction m with
 |zero=>intro i L _ _ _ _ hm;omega
 | succ m v=>
  intro i L h1 w l0 l1 hm;show z49.b3 ⟨gLf k⟩ n h j a3 xs L (i:Int) (λB C=>z49.l3 ⟨gLf k⟩ n m h j a3 xs B C d) d=_;unfold z49.b3;by_cases hi:i<xs.length
  .obtain⟨x,y,D⟩:=bo hi;have hs:1<=tsz x:=by rw[dY];omega
   rw[bm y,hZ,bt hi,cT];by_cases t:0<=L
   .rw[dT t,cT,aW y,bS,Tm.eta];show Option.bind (gLf k x L) _=_;unfold gLf;rw[mt ⟨A x D,t,l1⟩,bS,bw A0];by_cases hc:(tsz x:Int)<=L
    .rw[mt hc];refine(v (i+1) _ hi w A0 A0 A0).trans ?_
     congr 1
     by_cases hd:(wS tsz (xs.drop (i+1)):Int)<=L-(tsz x:Int)
     .omega
     .omega
    .rw[O2 hc];refine(v (i+1) _ hi w A0 A0 A0).trans ?_;rw[O2 A0,O2 A0]
   .rw[dF t,cF,O2 A0]
    congr 1
    omega
  .obtain rfl:i=xs.length:=A0
   rw[bh hi,cF,ck,show wS tsz []=0 from rfl]
   congr 1
   split<;>omega
end
theorem z0t:∀k,k<=4294967296->aj (z0s.ent (gSz k))
 |0,_=>okQ (by (repeat intro h);simp[gSz]at h)
 | k+1,hk=>z0s.ok (G:=⟨gSz k⟩) ⟨z0t k A0,trivial⟩ fun t r h=>by
  unfold gSz at h;split at h
  .rename_i hs;cases h;have v:=bu t;have hl:=ct t.ae;have d:=AY _ t (OX _);rw[dY]at d;refine⟨t.ae.length+1,?_⟩;unfold z0s.aq;have e:=Iv (t.ae.length+1) k t.ae (λx j=>QV) (λr0=>some (AT.one (.i r0),([]:Td Ob))) (t.ae.length+1) 0 1 A0 A4 A0 A0;simp only[OQ]at e;rw[dY];exact e
  .cases h
theorem z0d:∀k,k<=4294967296->aj (z0c.ent (gDp k))
 |0,_=>okQ (by (repeat intro h);simp[gDp]at h)
 | k+1,hk=>z0c.ok (G:=⟨gDp k⟩) ⟨z0d k A0,trivial⟩ fun t r h=>by
  unfold gDp at h;split at h
  .rename_i hs;cases h;have v:=bu t;have hl:=ct t.ae;have d:=Aa _ t (OX _);refine⟨t.ae.length+1,?_⟩;unfold z0c.aq;have e:=Gv (t.ae.length+1) k t.ae (λx j=>QV) (λr0=>some (AT.one (.i (wr (r0+1))),([]:Td Ob))) (t.ae.length+1) 0 0 A0 A0 A0;exact Sa
  .cases h
theorem GF:aj (z3b.ent λa b=>some (qS a b)):=z3b.ok (G:=⟨()⟩) trivial λa b r h=>⟨1,by
 cases h;unfold z3b.aq qS;by_cases h:b<a
 .rw[dT h,cT,O2 A0]
 .rw[dF h,cF];by_cases h2:a<b
  .rw[mt h2]
  .obtain rfl:a=b:=A0
   rw[O2 h2]⟩
theorem z2g:∀k,k<=4294967296->aj (z2f.ent (gDp k))
 |0,_=>okQ (by (repeat intro h);simp[gDp]at h)
 | k+1,hk=>z2f.ok (G:=⟨gDp k,fun a b=>some (qS a b)⟩) ⟨z2g k A0,GF,trivial⟩ fun t r h=>by
  unfold gDp at h;split at h
  .rename_i hs;cases h;have v:=bu t;have hl:=ct t.ae;have d:=Aa _ t (OX _);refine⟨t.ae.length+1,?_⟩;unfold z2f.aq;have e:=GS (t.ae.length+1) k t.op t.am t.ah t.ae (λx j=>QV) (λr0=>some (AT.one (.i (wr (r0+1))),([]:Td Ob))) (t.ae.length+1) 0 0 A0 A0 A0;exact Sa
  .cases h
theorem vc:∀k,k<=4294967296->aj (z49.ent (gLf k))
 |0,_=>okQ (by (repeat intro h);simp[gLf]at h)
 | k+1,hk=>z49.ok (G:=⟨gLf k⟩) ⟨vc k A0,trivial⟩ fun t left r h=>by
  unfold gLf at h;split at h
  .rename_i hs;cases h;obtain⟨hs,l0,l1⟩:=hs;have j:=bu t;have hl:=ct t.ae;refine⟨t.ae.length+1,?_⟩;unfold z49.aq;have e:=FK (t.ae.length+1) k t.op t.am t.ah t.ae (λx d=>H3) (λr0=>some (AT.one (.i r0),([]:Td Ob))) (t.ae.length+1) 0 (left-1) A0 A0 A0 A0 A0;simp only[OQ]at e;rw[aX (x:=left-1) A0];refine e.trans ?_;have e2:(if (wS tsz t.ae:Int)<=left-1 then left-1-(wS tsz t.ae:Int)else -1)=(if (tsz t:Int)<=left then left-(tsz t:Int)else -1):=by
    rw[dY];split<;>split<;>omega
   rw[e2]
  .cases h
abbrev gSm(k:Nat):Tm->Y Bool:=λt=>if t.az<k then some (decide (tsz t<=60)&&decide (tdp t<=20))else none
theorem sQ(k:Nat)(hk:k<=4294967296):aj (z4f.ent (gSm k)):=z4f.ok (G:=⟨gLf k,gDp k⟩) ⟨vc k hk,z2g k hk,trivial⟩ λt r h=>by
 unfold gSm at h;split at h
 .rename_i hs;cases h;refine⟨1,?_⟩;unfold z4f.aq;rw[Tm.eta];show Option.bind (gLf k t 60) _=_;unfold gLf;rw[mt ⟨hs,A3,A3⟩,bS];by_cases hc:tsz t<=60
  .rw[mt A0,dT A0,cT];show Option.bind (gDp k t) _=_;unfold gDp;rw[mt hs,bS,dT hc,O7];rw[show decide ((tdp t:Int)<=20)=decide (tdp t<=20)from decide_eq_decide.2 A0]
  .grind
 .cases h
abbrev ga(k:Nat):Tm->Tm->Y Bool:=λa b=>if a.az<k then some (decide (bR a b=0))else none
theorem mH(k:Nat)(hk:k<=4294967296):aj (z3y.ent (ga k)):=z3y.ok (G:=⟨bV k⟩) ⟨z2e k hk,trivial⟩ λa b r h=>by
 unfold ga at h;split at h
 .rename_i hs;cases h;refine⟨1,?_⟩;unfold z3y.aq;rw[Tm.eta,Tm.eta];show Option.bind (bV k a b) _=_;unfold bV;rw[mt hs,bS]
 .cases h
section
variable {R : Type}
theorem EJ(n k:Nat)(h a3 b1 b3 c1 c3:Int)(j b2 c2:Z)(h2:Td Tm)(xs:Td Tm)(v:∀x∈xs,x.az<k)(d:Td Tm->Y R):∀m (i:Nat),i<=xs.length->xs.length<4294967296->xs.length-i<m->
  z3v.l3 ⟨gCp k⟩ n m h j a3 xs b1 b2 b3 h2 c1 c2 c3 (i:Int) (xs.take i) d=d xs:=by
 intro m
 induction m with
 |zero=>exact T6
 | succ m w=>
  intro i h1 y hm;show z3v.b3 ⟨gCp k⟩ n h j a3 xs b1 b2 b3 h2 c1 c2 c3 (i:Int) (xs.take i) (λA B=>z3v.l3 ⟨gCp k⟩ n m h j a3 xs b1 b2 b3 h2 c1 c2 c3 A B d) d=_;unfold z3v.b3;by_cases hi:i<xs.length
  .obtain⟨x,t,C⟩:=bo hi;rw[bt hi,cT,aW t,bS,Tm.eta];show Option.bind (gCp k x) _=_;unfold gCp;rw[mt (v x C),bS,Tm.eta,cV A4,bS,bw A0,<-fW t];exact w (i+1) hi y A0
  .obtain rfl:i=xs.length:=A0
   rw[bh hi,cF,lB]
theorem D4(n k:Nat)(xs:Td Tm)(j:∀x∈xs,x.az<k)(d:Td Tm->Y R):∀m (i:Nat),i<=xs.length->xs.length<4294967296->xs.length-i<m->
  z3t.l3 ⟨gCp k⟩ n m xs (i:Int) (xs.take i) d=d xs:=by
 intro m
 induction m with
 |zero=>exact T6
 | succ m t=>
  intro i h1 v hm;show z3t.b3 ⟨gCp k⟩ n xs (i:Int) (xs.take i) (λw y=>z3t.l3 ⟨gCp k⟩ n m xs w y d) d=_;unfold z3t.b3;by_cases hi:i<xs.length
  .obtain⟨x,h,A⟩:=bo hi;rw[bt hi,cT,aW h,bS,Tm.eta];show Option.bind (gCp k x) _=_;unfold gCp;rw[mt (j x A),bS,Tm.eta,cV A4,bS,bw A0,<-fW h];exact t (i+1) hi v A0
  .obtain rfl:i=xs.length:=A0
   rw[bh hi,cF,lB]
end
theorem pp:∀k,k<=4294967296->aj (z3v.ent (gCp k))
 |0,_=>okQ (by (repeat intro h);simp[gCp]at h)
 | k+1,hk=>z3v.ok (G:=⟨gCp k⟩) ⟨pp k A0,trivial⟩ fun t r h=>by
  unfold gCp at h;split at h
  .rename_i hs;cases h;have j:=bu t;have hl:=ct t.ae;refine⟨t.ae.length+1,?_⟩;unfold z3v.aq;exact EJ (t.ae.length+1) k _ _ _ _ _ _ _ _ _ _ t.ae (λx d=>H3) _ (t.ae.length+1) 0 A0 A0 A0
  .cases h
theorem qu(k:Nat)(hk:k<=4294967296):aj (z3t.ent (ox k)):=z3t.ok (G:=⟨gCp k⟩) ⟨pp k hk,trivial⟩ λ(l:Td Tm) r h=>by
 unfold ox at h;split at h
 .rename_i hs;cases h;have hl:=ct l;refine⟨l.length+1,?_⟩;unfold z3t.aq;exact D4 (l.length+1) k l (λx d=>by have:=mA d;omega) _ (l.length+1) 0 A0 A0 A0
 .cases h
theorem rZ{a b c:Int}(h:bg a b<=0)(k:bg b c<=0):bg a c<=0/\(bg a c=0->bg a b=0/\bg b c=0):=by
 unfold bg at*;split at h<;>split at k<;>split<;>(try split at h)<;>(try split at k)<;>(try split)<;>simp_all<;>omega
theorem rC:∀(a b c:Td UInt8),Op.bytesLess a b=true->Op.bytesLess b c=true->Op.bytesLess a c=true
 |[],[],_,h,_=>HC
 |[],_::_,[],_,k=>by cases k
 |[],_::_,_::_,_,_=>rfl
 |_::_,[],_,h,_=>HC
 |_::_,_::_,[],_,k=>by cases k
 | x::xs,y::ys,z::zs,h,k=>by
  unfold Op.bytesLess at h k ⊢;simp only[Q3,bA,O8,beq_iff_eq]at h k ⊢;rcases h with h|⟨h1,h2⟩
  .grind
  .rcases k with k|⟨k1,d⟩
   .grind
   .exact .inr ⟨h1.trans k1,rC xs ys zs h2 d⟩
theorem pB{a b:Z}(h:dg a b=0):a=b:=by
 unfold dg at h;split at h
 .assumption
 .omega
theorem AK{a b c:Z}(h:dg a b<=0)(k:dg b c<=0):dg a c<=0/\(dg a c=0->dg a b=0/\dg b c=0):=by
 by_cases e1:a=b
 .subst e1;exact⟨k,λh=>⟨p6 _,h⟩⟩
 by_cases e2:b=c
 .subst e2;exact⟨h,λh=>⟨h,p6 _⟩⟩
 have l1:Abs.fk a b=true:=by
  unfold dg at h;rw[O2 e1]at h;cases hl:Abs.fk a b with
  |true=>rfl
  |false=>rw[hl]at h;exact absurd h A3
 have l2:Abs.fk b c=true:=by
  unfold dg at k;rw[O2 e2]at k;cases hl:Abs.fk b c with
  |true=>rfl
  |false=>rw[hl]at k;exact absurd k A3
 have l3:Abs.fk a c=true:=rC _ _ _ l1 l2;have d:a≠c:=λe=>by
  subst e;have:=nv a.toList b.toList λe=>e1 (Abs.eX e);unfold Abs.fk at l1 l2;rw[l1,l2]at this;cases this
 have e:dg a c= -1:=by unfold dg;rw[O2 d,mt l3]
 exact⟨A0,λh=>A0⟩
theorem uC{f:Tm->Tm->Int}:∀{xs ys:Td Tm},(∀x∈xs,∀y,f x y=0->x=y)->gn f xs ys=0->xs=ys
 |[],[],_,_=>rfl
 |[],_::_,_,h=>HC
 |_::_,[],_,h=>HC
 | x::xs,y::ys,h,k=>by
  unfold gn at k;split at k
  .rename_i e;rw[h x A1 y e,uC (xs:=xs) (λz d=>h z I1) k]
  .omega
theorem uM:∀(k:Nat)(a b:Tm),a.az<k->bR a b=0->a=b
 |0,_,_,h,_=>absurd h (OM _)
 | k + 1,a,b,h,e=>by
  rw[iQ]at e;unfold mK at e;split at e
  .rename_i h1;split at e
   .rename_i h2;split at e
    .rename_i d;have:=uC (λx j y=>uM k x y QV) e;obtain⟨o,n,s,l⟩:=a;obtain⟨o',n',s',t⟩:=b;rw[show o=o' from gU h1,show n=n' from pB h2,show s=s' from gU d,show l=t from this]
    .omega
   .omega
  .omega
theorem z03{a b:Tm}(h:bR a b=0):a=b:=uM _ a b (OX _) h
theorem z09(a:Tm):bR a a=0:=pW _ a (OX _)
theorem z08(a b:Tm):bR b a= -bR a b:=sU _ a b (OX _)
theorem tp{f:Tm->Tm->Int}(t:∀x y,f y x= -f x y)(d:∀x y,f x y=0->x=y):∀{xs ys zs:Td Tm},(∀x∈xs,∀y z,f x y<=0->f y z<=0->f x z<=0)->gn f xs ys<=0->gn f ys zs<=0->gn f xs zs<=0
 |[],_,[],_,_,_=>by show (0:Int)<=0;omega
 |[],_,_::_,_,_,_=>by show (-1:Int)<=0;omega
 |_::_,[],_,_,h,_=>by have:(1:Int)<=0:=h;omega
 |_::_,_::_,[],_,_,k=>by have:(1:Int)<=0:=k;omega
 | x :: xs,y::ys,z::zs,v,h,k=>by
  unfold gn at h k ⊢;have tr:=v x A1 y z;by_cases e1:f x y=0
  .rw[mt e1]at h;have:x=y:=d _ _ e1;subst this;by_cases e2:f x z=0
   .rw[mt e2]at k ⊢;exact tp t d (λw A=>v w RT) h k
   .rw[O2 e2]at k ⊢;exact k
  .rw [O2 e1]at h;by_cases e2:f y z=0
   .have:y=z:=d _ _ e2;subst this;rw[O2 e1];exact h
   .rw[O2 e2]at k;have j:=tr h k;rw[O2]
    .exact j
    .intro e3;have:x=z:=d _ _ e3;subst this;have:=t x y;omega
theorem tA:∀(k:Nat) (a b c:Tm),a.az<k->bR a b<=0->bR b c<=0->bR a c<=0
 |0,_,_,_,h,_,_=>absurd h (OM _)
 | k + 1, a,b,c,h,h1,h2=>by
  rw[iQ]at h1 h2 ⊢;unfold mK at h1 h2 ⊢;have hl:=tp (f:=bR) z08 (λx y=>z03) (xs:=a.ae) (ys:=b.ae) (zs:=c.ae) λx D y z=>tA k x y z (by have:=aM D;omega);by_cases d:bg a.op b.op=0
  .rw [mt d]at h1;have:=gU d;rw[this];by_cases A:bg b.op c.op=0
   .rw [mt A]at h2 ⊢;by_cases j:dg a.ah b.ah=0
    .rw [mt j]at h1;rw[pB j];by_cases B:dg b.ah c.ah=0
     .rw [mt B]at h2 ⊢;by_cases t:bg a.am b.am=0
      .rw[mt t]at h1;rw[gU t];by_cases C:bg b.am c.am=0
       .omega
       .omega
      .rw[O2 t]at h1;by_cases C:bg b.am c.am=0
       .rw[<-gU C,O2 t];exact h1
       .rw[O2 C]at h2;obtain⟨v,w⟩:=rZ h1 h2;rw[O2 λe=>t (w e).1];exact v
     .omega
    .rw[O2 j]at h1;by_cases B:dg b.ah c.ah=0
     .rw[<-pB B,O2 j];exact h1
     .rw[O2 B]at h2;obtain⟨v,w⟩:=AK h1 h2;rw[O2 λe=>j (w e).1];exact v
   .omega
  .rw[O2 d]at h1;by_cases A:bg b.op c.op=0
   .rw[<-gU A,O2 d];exact h1
   .rw[O2 A]at h2;obtain⟨v,w⟩:=rZ h1 h2;rw[O2 λe=>d (w e).1];exact v
theorem z06{a b c:Tm}(h:bR a b<=0)(k:bR b c<=0):bR a c<=0:=tA _ a b c (OX _) h k
theorem z07{a b c:Tm}(h:bR a b<0)(k:bR b c<=0):bR a c<0:=by
 have:=z06 (Qa h) k;by_cases e:bR a c=0
 .have:=z03 e;subst this;have:=z08 a b;omega
 .omega
abbrev Asc(l:Td Tm):Prop:=l.Pairwise λa b=>bR a b<0
theorem xo:∀{l m:Td Tm},Asc l->Asc m->(∀x,x∈l↔x∈m)->l=m
 |[],[],_,_,_=>rfl
 |[],y::m,_,_,h=>absurd ((h y).2 A1) A1
 |x::l,[],_,_,h=>absurd ((h x).1 A1) A1
 | x :: l,y::m,hl,hm,h=>by
  obtain⟨l1,l2⟩:=List.pairwise_cons.1 hl;obtain⟨m1,j⟩:=List.pairwise_cons.1 hm;have e:x=y:=by
   rcases List.mem_cons.1 ((h x).1 A1)with e|t
   .exact e
   .rcases List.mem_cons.1 ((h y).2 A1)with e|v
    .exact e.symm
    .have a:=m1 x t;have b:=l1 y v;have:=z08 x y;omega
  subst e;rw[xo l2 j λz=> ?_];constructor
  .intro d;rcases List.mem_cons.1 ((h z).1 I1)with e|q
   .subst e;have:=l1 z d;rw[z09]at this;omega
   .exact q
  .intro d;rcases List.mem_cons.1 ((h z).2 I1)with e|q
   .subst e;have:=m1 z d;rw[z09]at this;omega
   .exact q
def iE:Td Tm->Tm->Td Tm
 |[],t=>[t]
 |y::ys,t=>if bR y t<0 then y::iE ys t else if bR y t=0 then y::ys else t::y::ys
theorem oq{t x:Tm}:∀{l:Td Tm},x∈iE l t↔x=t\/x∈l
 |[]=>by simp[iE]
 | y::ys=>by
  unfold iE;split
  .rw[OI,oq,OI];constructor
   .grind
   .grind
  .split
   .rename_i e;have:=z03 e;subst this;simp
   .simp
theorem yg{t:Tm}:∀{l:Td Tm},Asc l->Asc (iE l t)
 |[],_=>List.pairwise_singleton _ _
 | y :: ys,h=>by
  obtain⟨h1,h2⟩:=List.pairwise_cons.1 h;unfold iE;split
  .rename_i hl;refine List.pairwise_cons.2 ⟨λz d=> ?_,yg h2⟩;rcases oq.1 d with rfl|d
   .exact hl
   .exact h1 z d
  .split
   .exact h
   .rename_i hl v;have j:bR t y<0:=by have:=z08 y t;omega
    refine List.pairwise_cons.2 ⟨λz d=> ?_,h⟩;rcases List.mem_cons.1 d with rfl|d
    .exact j
    .exact z07 j (Qa (h1 z d))
theorem rt{t:Tm}:∀(l:Td Tm),(iE l t).length<=l.length+1
 |[]=>O3 _
 | y::ys=>by
  unfold iE;have:=rt (t:=t) ys;split
  .grind
  .grind
theorem tG:∀(xs l:Td Tm),Asc l->Asc (xs.foldl iE l)/\∀x,x∈xs.foldl iE l↔x∈l\/x∈xs
 |[],l,h=>⟨h,λx=>A1⟩
 | y::ys,l,h=>by
  obtain⟨d,j⟩:=tG ys (iE l y) (yg h);refine⟨d,λx=> ?_⟩;rw[PI,j,oq,OI];constructor
  .grind
  .grind
def pa(xs:Td Tm):Td Tm:=xs.foldl iE []
theorem Gh(xs:Td Tm):Asc (pa xs):=(tG xs [] .nil).1
theorem zf{xs:Td Tm}{x:Tm}:x∈pa xs↔x∈xs:=by have:=(tG xs [] .nil).2 x;simpa [pa]using this
theorem IM(xs:Td Tm):(pa xs).length<=xs.length:=by
 have:∀(ys l:Td Tm),(ys.foldl iE l).length<=l.length+ys.length:=λys=>by
  induction ys with
  |nil=>intro l;exact O3 _
  | cons y ys d=>
   intro l;have:=d (iE l y);have:=rt (t:=y) l;rw[PI,OP];omega
 have:=this xs [];simpa [pa]using this
def iL:Td Tm->Td Tm
 |[]=>[]
 |[x]=>[x]
 |x::y::r=>if bR y x=0 then iL (x::r)else x::iL (y::r)
theorem me:∀(n:Nat)(l:Td Tm),l.length<=n->l.Pairwise (λa b=>bR a b<=0)->Asc (iL l)/\∀x,x∈iL l↔x∈l
 |_,[],_,_=>by unfold iL;exact⟨.nil,λx=>Iff.rfl⟩
 |_,[x],_,_=>by unfold iL;exact⟨List.pairwise_singleton _ _,λx=>Iff.rfl⟩
 |0,_::_::_,h,_=>F1
 | n+1,x::y::r,A,h=>by
  obtain⟨h1,h2⟩:=List.pairwise_cons.1 h;obtain⟨B,h4⟩:=List.pairwise_cons.1 h2;have d:r.length+1<=n:=by simp only[OP]at A;omega
  unfold iL;split
  .rename_i e;have:=z03 e;subst this;obtain⟨v,t⟩:=me n (y::r) d h2;exact⟨v,λz=>by rw[t];simp⟩
  .rename_i e;obtain⟨v,t⟩:=me n (y::r) d h2;have j:bR x y<0:=by
    have:=h1 y A1;have:=z08 x y;omega
   refine⟨List.pairwise_cons.2 ⟨λz w=> ?_,v⟩,λz=>by rw[OI,t,OI (b:=x)]⟩;rcases List.mem_cons.1 ((t z).1 w)with rfl|w
   .exact j
   .exact z07 j (B z w)
theorem zy{l m:Td Tm}(h:l.Pairwise λa b=>bR a b<=0)(hm:∀x,x∈l↔x∈m):iL l=pa m:=
 xo (me _ l (O3 _) h).1 (Gh m) λx=>by rw[(me _ l (O3 _) h).2,zf,hm]
def vT(t:Tm):Tm:=Tm.mk (-1) t.ah t.am []
def ocK:Nat->Tm->Td Tm
 |0,_=>[]
 |k+1,t=>if t.op= -1 then [vT t]else t.ae.flatMap (ocK k)
def oc(t:Tm):Td Tm:=ocK (t.az+1) t
theorem jb{A B:Type}{f g:A->Td B}:∀{l:Td A},(∀x∈l,f x=g x)->l.flatMap f=l.flatMap g
 |[],_=>rfl
 |x::l,h=>by rw[Py,Py,h x A1,jb λy d=>h y I1]
theorem ID:∀(k j:Nat)(t:Tm),t.az<k->t.az<j->ocK k t=ocK j t
 |0,_,_,h,_=>absurd h (OM _)
 |_+1,0,_,_,h=>absurd h (OM _)
 | k+1,j+1,t,h1,h2=>by
  unfold ocK;rw[jb λx d=>ID k j x H3 H3]
theorem Bw(t:Tm):oc t=if t.op= -1 then [vT t]else t.ae.flatMap oc:=by
 show (if t.op= -1 then [vT t]else t.ae.flatMap (ocK t.az))=_;rw[jb λx d=>ID _ (x.az+1) x (aM d) (OX _)];rfl
theorem Gb:∀(k:Nat)(t:Tm),t.az<k->(oc t).length<=tsz t
 |0,_,h=>absurd h (OM _)
 | k + 1,t,h=>by
  rw[Bw,dY];split
  .grind
  .have:∀l:Td Tm,(∀x∈l,(oc x).length<=tsz x)->(l.flatMap oc).length<=wS tsz l:=λl=>by
    induction l with
    |nil=>intro _;exact P6 _
    | cons x l d=>
     intro hl;rw[Py,OJ,hZ];have:=hl x A1;have:=d λy j=>hl y (by simp[j]);omega
   have:=this t.ae λx v=>Gb k x (by have:=aM v;omega);omega
theorem Gn:∀(k:Nat)(t:Tm),t.az<k->∀x∈oc t,x.op= -1/\x.ae=[]/\x.az<=t.az
 |0,_,h=>absurd h (OM _)
 | k+1,t,h=>by
  rw[Bw];split
  .intro x d;rw[List.mem_singleton.1 d];refine⟨rfl,rfl,?_⟩;rw[bu (vT t),bu t];exact Nat.add_le_add_left (P6 _) _
  .intro x d;obtain⟨y,j,v⟩:=List.mem_flatMap.1 d;have:=aM j;obtain⟨a,b,c⟩:=Gn k y A0 x v;exact⟨a,b,A0⟩
def ci(t:Tm):Td Tm:=pa (oc t)
end Go.Proofs.YtkegnipofloejaaGreatDoor.Den
namespace Go.Proofs.YtkegnipofloejaaGreatDoor
open Go.RowKit
def Lay(w w':World):Prop:=∃(q:Nat)(os:Array Obj),w'=Go.Sort.grow (w.drewN q) os
theorem Lay.refl(w:World):Lay w w:=⟨0,#[],by rw[Go.Sort.grow_empty];rfl⟩
theorem Lay.alloc{w w':World}(h:Lay w w')(o:Obj):Lay w (w'.alloc o):=by
 obtain⟨q,os,rfl⟩:=h;exact⟨q,os++ #[o],by rw[Go.Sort.alloc_eq_grow,Go.Sort.grow_grow]⟩
theorem Lay.drew{w w':World}(h:Lay w w'):Lay w w'.drew:=by
 obtain⟨q,os,rfl⟩:=h;exact⟨q+1,os,rfl⟩
theorem Lay.trans{a b c:World}(h:Lay a b)(k:Lay b c):Lay a c:=by
 obtain⟨q,os,rfl⟩:=h;obtain⟨r,us,rfl⟩:=k;refine⟨q+r,os++us,?_⟩;show Go.Sort.grow (Go.Sort.grow ((a.drewN q).drewN r) os) us=_;rw[Go.Sort.grow_grow]
 congr 1
 simp[World.drewN,Pk]
set_option maxHeartbeats 1000000 in
theorem It(a b:Int)(w:World):Calls Tryz.prog 146 #[.int .i64 a,.int .i64 b] w λe w'=>e= .returned (.int .i64 (Den.bg a b))/\w'=w:=by
 go_enter Tryz.func146,Tryz.ntmps146
 go_wp2_with (go_in)
 all_goals go_ret
 all_goals refine⟨?_,rfl⟩
 .rw[show Den.bg a b= -1 by unfold Den.bg;rw[O2 A0,mt A0]];rfl
 .rw[show Den.bg a b=1 by unfold Den.bg;rw[O2 A0,O2 A0]];rfl
 .rw[show Den.bg a b=0 by unfold Den.bg;rw[mt A0]];rfl
def or3(a b c:Int):Int:=if a=0 then (if b=0 then c else b)else a
set_option maxHeartbeats 1000000 in
theorem IY(a b c:Int)(B cap:Nat)(w:World)(h0:w.cell? ⟨B,0,none⟩=some (.int .i64 a))(h1:w.cell? ⟨B,1,none⟩=some (.int .i64 b))(h2:w.cell? ⟨B,2,none⟩=some (.int .i64 c)):
  Calls Tryz.prog 145 #[.slice (some ⟨B,0,none⟩) 3 cap] w λe w'=>e= .returned (.int .i64 (or3 a b c))/\w'=w:=by
 have hc:∀k,k<3->w.cell? ⟨B,0+k,none⟩=some (.int .i64 ([a,b,c].getD k 0)):=λk hk=>by
  match k,hk with
  |0,_=>exact h0
  |1,_=>exact h1
  |2,_=>exact h2
 have hl:∀n:Nat,n<3->0+n*1=0+n:=λn _=>A0
 go_enter Tryz.func145,Tryz.ntmps145
 go_wp2
 go_loop [8] (λi=>∃k:Nat,k<=3/\i= .int .i64 k/\∀j,j<k->[a,b,c].getD j 0=0) (λi=>3-(intOf i).toNat)
 case atStart=>exact⟨0,A0,rfl,λj y=>A0⟩
 case round=>
  obtain⟨k,hk,rfl,d⟩:=hrel;by_cases h:k<3
  .have c1:=hc k h;rw[Pp]at c1;have A:k=0\/k=1\/k=2:=A0
   generalize G:[a,b,c].getD k 0=v at c1
   go_wp2
   .go_ret
    have C:v≠0:=by simpa using ‹(v !=0)=true›
    have e:or3 a b c=v:=by
     unfold or3;rcases A with rfl|rfl|rfl
     .grind
     .grind
     .grind
    rw[e];exact Tb
   .go_round
    case rel=>
     refine⟨k+1,A0,by go_num,λj y=> ?_⟩;by_cases D:j=k
     .grind
     .grind
    case measure=>simp[intOf];omega
  .have t:k=3:=A0
   subst t;have z0:a=0:=d 0 A0;have E:b=0:=d 1 A0;have F:c=0:=d 2 A0;clear d;subst z0 E F
   go_wp2
   go_ret
   exact Tb
set_option maxHeartbeats 1000000 in
theorem EP(A B:Y Addr)(c d:Nat)(g:Value)(w:World):Calls Tryz.prog 148 #[.slice A 0 c,.slice B 0 d,g] w λe w'=>e= .returned (.int .i64 0)/\w'=w:=by
 go_enter Tryz.func148,Tryz.ntmps148
 go_wp2
 go_loop [13] (λi=>i= .int .i64 0) (λ_=>0)
 case atStart=>rfl
 case round=>
  subst hrel
  go_wp2
  go_ret
  exact Tb
set_option maxHeartbeats 4000000 in
theorem K2(h s1 j s2:Int)(t v:Z)(A B:Y Addr)(c d:Nat)(w:World):Calls Tryz.prog 123 #[.agg #[.int .i64 h,.string t,.int .i64 s1,.slice A 0 c],.agg #[.int .i64 j,.string v,.int .i64 s2,.slice B 0 d]] w λe w'=>e= .returned (.int .i64 (Den.bR ⟨h,t,s1,[]⟩ ⟨j,v,s2,[]⟩))/\Lay w w':=by
 have I:Den.bR ⟨h,t,s1,[]⟩ ⟨j,v,s2,[]⟩=or3 (Den.bg h j) (Den.dg t v) (Den.bg s1 s2):=by
  rw[Den.iQ];unfold Den.mK or3;show (if Den.bg h j=0 then (if Den.dg t v=0 then (if Den.bg s1 s2=0 then (0:Int)else Den.bg s1 s2)else Den.dg t v)else Den.bg h j)=_;by_cases h1:Den.bg h j=0
  .omega
  .omega
 rw[I,<-Den.jB];clear I;have F:=Blk.new w 55 #[.int .i64 h,.string t,.int .i64 s1,.slice A 0 c];have y:=Blk.new ((w.alloc (.cells #[.int .i64 h,.string t,.int .i64 s1,.slice A 0 c] 55)).alloc (.cells #[.int .i64 j,.string v,.int .i64 s2,.slice B 0 d] 55)) 3 #[.int .i64 (Den.bg h j),.int .i64 (Lib.compareBytes t.data.toList v.data.toList),.int .i64 (Den.bg s1 s2)];have G:=IY (Den.bg h j) (Lib.compareBytes t.data.toList v.data.toList) (Den.bg s1 s2) (w.heap.size+1+1) 3 (((w.alloc (.cells #[.int .i64 h,.string t,.int .i64 s1,.slice A 0 c] 55)).alloc (.cells #[.int .i64 j,.string v,.int .i64 s2,.slice B 0 d] 55)).alloc (.cells #[.int .i64 (Den.bg h j),.int .i64 (Lib.compareBytes t.data.toList v.data.toList),.int .i64 (Den.bg s1 s2)] 3)).drew (by simpa using y.c3.1) (by simpa using y.c3.2.1) (by simpa using y.c3.2.2);clear y
 go_enter Tryz.func123,Tryz.ntmps123
 have D:=(F.alloc (.cells #[.int .i64 j,.string v,.int .i64 s2,.slice B 0 d] 55));have E:=Blk.new (w.alloc (.cells #[.int .i64 h,.string t,.int .i64 s1,.slice A 0 c] 55)) 55 #[.int .i64 j,.string v,.int .i64 s2,.slice B 0 d];obtain⟨J,K,L,M⟩:=D.c4;obtain⟨q0,q1,q2,q3⟩:=E.c4
 go_wp2_with fail
 go_region_held3 (λw'=>w'.cell? ⟨w.heap.size,0,none⟩=some (.int .i64 h)/\w'.cell? ⟨w.heap.size,1,none⟩=some (.string t)/\w'.cell? ⟨w.heap.size,2,none⟩=some (.int .i64 s1)/\w'.cell? ⟨w.heap.size+1,0,none⟩=some (.int .i64 j)/\w'.cell? ⟨w.heap.size+1,1,none⟩=some (.string v)/\w'.cell? ⟨w.heap.size+1,2,none⟩=some (.int .i64 s2)) (go_keep) (first|(go_at_call 146;refine(It _ _ _).mono ?_;rintro e w' ⟨rfl,rfl⟩)|(go_at_call 147;refine(Tryz.strings_Compare _ _ _).mono ?_;rintro e w' ⟨rfl,rfl⟩)|(go_at_call 145;refine G.mono ?_;rintro e w' ⟨rfl,rfl⟩))
 have hp:=(D.alloc (.cells #[.int .i64 (Den.bg h j),.int .i64 (Lib.compareBytes t.data.toList v.data.toList),.int .i64 (Den.bg s1 s2)] 3)).c4.2.2.2;have O:=(E.alloc (.cells #[.int .i64 (Den.bg h j),.int .i64 (Lib.compareBytes t.data.toList v.data.toList),.int .i64 (Den.bg s1 s2)] 3)).c4.2.2.2;clear F D E J K L M q0 q1 q2 q3;have C:Lay w ((((w.alloc (.cells #[.int .i64 h,.string t,.int .i64 s1,.slice A 0 c] 55)).alloc (.cells #[.int .i64 j,.string v,.int .i64 s2,.slice B 0 d] 55)).alloc (.cells #[.int .i64 (Den.bg h j),.int .i64 (Lib.compareBytes t.data.toList v.data.toList),.int .i64 (Den.bg s1 s2)] 3)).drew):=((((Lay.refl w).alloc _).alloc _).alloc _).drew;by_cases H:or3 (Den.bg h j) (Lib.compareBytes t.data.toList v.data.toList) (Den.bg s1 s2)=0
 .rw[H]
  go_wp2_with (go_at_call 148;refine(EP _ _ _ _ _ _).mono ?_;rintro e w' ⟨rfl,rfl⟩)
  go_ret
  exact⟨by rw[H];rfl,C⟩
 .have N:(or3 (Den.bg h j) (Lib.compareBytes t.data.toList v.data.toList) (Den.bg s1 s2) !=0)=true:=by simpa using H
  go_wp2_with fail
  go_ret
  exact⟨rfl,C⟩
structure Lf where
 op:Int
 ah:Z
 am:Int
 A:Y Addr
 c:Nat
instance : Inhabited Lf := ⟨⟨0, ByteArray.empty, 0, none, 0⟩⟩
def Lf.enc(x:Lf):Td Value:=[.int .i64 x.op,.string x.ah,.int .i64 x.am,.slice x.A 0 x.c]
def Lf.tm(x:Lf):Tm:=⟨x.op,x.ah,x.am,[]⟩
abbrev Lf.v(x:Lf):Value:=.agg #[.int .i64 x.op,.string x.ah,.int .i64 x.am,.slice x.A 0 x.c]
theorem Cf(x y:Lf)(w:World):Calls Tryz.prog 123 #[x.v,y.v] w λe w'=>e= .returned (.int .i64 (Den.bR x.tm y.tm))/\Lay w w':=K2 _ _ _ _ _ _ _ _ _ _ w
def Lf.same(x y:Lf):Bool:=decide (Den.bR x.tm y.tm=0)
set_option maxHeartbeats 1000000 in
theorem wY(x y:Lf)(w:World):Calls Tryz.prog 93 #[x.v,y.v] w λe w'=>e= .returned (.bool (x.same y))/\Lay w w':=by
 have j:=Blk.new w 55 #[.int .i64 x.op,.string x.ah,.int .i64 x.am,.slice x.A 0 x.c];have d:=j.alloc (.cells #[.int .i64 y.op,.string y.ah,.int .i64 y.am,.slice y.A 0 y.c] 55);have h:=Blk.new (w.alloc (.cells #[.int .i64 x.op,.string x.ah,.int .i64 x.am,.slice x.A 0 x.c] 55)) 55 #[.int .i64 y.op,.string y.ah,.int .i64 y.am,.slice y.A 0 y.c];obtain⟨v,A,B,C⟩:=d.c4;obtain⟨q0,q1,q2,q3⟩:=h.c4;have hc:=Cf x y ((w.alloc (.cells #[.int .i64 x.op,.string x.ah,.int .i64 x.am,.slice x.A 0 x.c] 55)).alloc (.cells #[.int .i64 y.op,.string y.ah,.int .i64 y.am,.slice y.A 0 y.c] 55));have hl:Lay w ((w.alloc (.cells #[.int .i64 x.op,.string x.ah,.int .i64 x.am,.slice x.A 0 x.c] 55)).alloc (.cells #[.int .i64 y.op,.string y.ah,.int .i64 y.am,.slice y.A 0 y.c] 55)):=((Lay.refl w).alloc _).alloc _
 go_enter Tryz.func93,Tryz.ntmps93
 go_wp2_with (go_at_call 123;refine hc.mono ?_;rintro e w' ⟨rfl,t⟩)
 go_ret
 exact⟨rfl,hl.trans t⟩
def cmL(p:Lf):Td Lf->Td Lf
 |[]=>[]
 |y::ys=>if y.same p=true then cmL y ys else y::cmL y ys
def ij:Td Lf->Td Lf
 |[]=>[]
 |x::xs=>x::cmL x xs
theorem yi:∀(xs:Td Lf)(p y:Lf),cmL p (xs++[y])=if y.same ((p::xs).getLast?.getD p)=true then cmL p xs else cmL p xs++[y]
 | [],p,y=>by
  show (if y.same p=true then []else [y])=_;show _=if y.same p=true then []else [y];rfl
 | x::xs,p,y=>by
  have e:((p::x::xs).getLast?.getD p)=((x::xs).getLast?.getD x):=by simp[List.getLast?_cons]
  show (if x.same p=true then cmL x (xs++[y])else x::cmL x (xs++[y]))=if y.same ((p::x::xs).getLast?.getD p)=true then (if x.same p=true then cmL x xs else x::cmL x xs)else (if x.same p=true then cmL x xs else x::cmL x xs)++[y];rw[yi xs x y,e];split<;>split<;>rfl
theorem pw{d:Td Lf}{r:Nat}{x y:Lf}(h0:d[r]? =some y)(h1:d[r+1]? =some x):ij (d.take (r+2))=if x.same y=true then ij (d.take (r+1))else ij (d.take (r+1))++[x]:=by
 rw[Den.fW h1];cases d with
 |nil=>simp at h0
 | cons z zs=>
  show z::cmL z (zs.take r++[x])=if x.same y=true then z::cmL z (zs.take r)else z::cmL z (zs.take r)++[x];rw[yi];have e:((z::zs.take r).getLast?.getD z)=y:=G1
  rw[e];split<;>rfl
theorem Jw:∀(xs:Td Lf)(p:Lf),(cmL p xs).length<=xs.length
 |[],_=>O3 _
 | y::ys,p=>by
  unfold cmL;have:=Jw ys y;split<;>simp only[OP]<;>omega
theorem BD:∀(xs:Td Lf)(p:Lf),p.tm::(cmL p xs).map Lf.tm=Den.iL (p.tm::xs.map Lf.tm)
 |[],p=>by show [p.tm]=Den.iL [p.tm];unfold Den.iL;rfl
 | y::ys,p=>by
  have d:=BD ys y;show p.tm::(if y.same p=true then cmL y ys else y::cmL y ys).map Lf.tm=Den.iL (p.tm::y.tm::ys.map Lf.tm)
  conv=>rhs;unfold Den.iL
  unfold Lf.same;by_cases h:Den.bR y.tm p.tm=0
  .have e:=Den.z03 h;rw[dT h,mt rfl,mt h,<-e];exact d
  .grind
theorem Gz(d:Td Lf):(ij d).map Lf.tm=Den.iL (d.map Lf.tm):=by
 cases d with
 |nil=>show []=Den.iL [];unfold Den.iL;rfl
 |cons x xs=>exact BD xs x
theorem ua{P:Program}(w:World)(t e ty:TypeId)(z:Value)(y:P.underlying t=some (.slice e))(A:∀w,(zeroValue e).run P w= .ok z w)(B:∀v∈z.cells.toList,v.oneCell'=true)(b o n c:Nat)(E:0<n)
  (hc:∀j,j<n*z.cells.size->(w.cell? ⟨b,o+j,none⟩).isSome=true) (C:∀j,j<n*z.cells.size->w.frozen? ⟨b,o+j,none⟩=false):
  (Builtin.clear_ #[t] ty #[.slice (some ⟨b,o,none⟩) n c]).run P w= .ok (.tuple #[]) (w.setCells b o (Builtin.zeroCells z.cells n).toList):=by
 have bF:(Builtin.zeroCells z.cells n).toList.length=n*z.cells.size:=by simp[Builtin.zeroCells]
 have d:=run_storeCells_cells (P:=P) b o (Builtin.zeroCells z.cells n).toList 0 w (by rw[bF];simpa using hc) (by rw[bF];simpa using C) (by
  intro v h;simp only[Builtin.zeroCells,Array.toList_map,List.mem_map]at h;obtain⟨i,hi,rfl⟩:=h;have D:i<n*z.cells.size:=Rx
  have hp:0<z.cells.size:=G1
  have hm:=Nat.mod_lt i hp;rw[getElem!_pos z.cells _ hm];exact B _ A1)
 simp only[PF]at d;obtain⟨m,rfl⟩:∃m,n=m+1:=⟨n-1,A0⟩;simp[Builtin.clear_,run_underlying y,A,d]
structure Chg(blk:Nat)(w w':World):Prop where
 os:w'.os=w.os
 tape:w'.tape=w.tape
 output:w'.output=w.output
 size:w.heap.size<=w'.heap.size
 block:∀b,b<w.heap.size->b≠blk->w'.heap[b]?=w.heap[b]?
theorem Chg.refl(blk:Nat)(w:World):Chg blk w w:=⟨rfl,rfl,rfl,O3 _,λ_ _ _=>rfl⟩
theorem Chg.trans{blk:Nat}{a b c:World}(h:Chg blk a b)(k:Chg blk b c):Chg blk a c:=
 ⟨k.os.trans h.os,k.tape.trans h.tape,k.output.trans h.output,P3 h.size k.size,λi hi d=>(k.block i (PD hi h.size) d).trans (h.block i hi d)⟩
section
variable {w w':World}{b:Nat}
theorem Lay.heap(h:Lay w w'):w.heap.size<=w'.heap.size/\∀b,b<w.heap.size->w'.heap[b]? =w.heap[b]? :=by
 obtain⟨q,os,rfl⟩:=h;refine⟨by show w.heap.size<=(w.heap++os).size;simp,λb d=> ?_⟩;show (w.heap++os)[b]? =_;exact PM d
theorem Lay.chg{blk:Nat}(h:Lay w w'):Chg blk w w':=by
 obtain⟨h1,h2⟩:=h.heap;obtain⟨q,os,rfl⟩:=h;exact⟨rfl,rfl,rfl,h1,λb d _=>h2 b d⟩
theorem yp(b:Nat):∀(vs:Td Value)(o:Nat)(w:World),(w.setCells b o vs).os=w.os/\(w.setCells b o vs).tape=w.tape/\(w.setCells b o vs).output=w.output/\(w.setCells b o vs).heap.size=w.heap.size/\∀i,i≠b->(w.setCells b o vs).heap[i]? =w.heap[i]?
 |[],_,_=>⟨rfl,rfl,rfl,rfl,λ_ _=>rfl⟩
 | v::r,o,w=>by
  obtain⟨h1,h2,d,h4,h⟩:=yp b r (o+1) (w.setCell ⟨b,o,none⟩ v);exact⟨h1,h2,d,h4.trans (by simp[World.setCell]),λi hi=>(h i hi).trans (Below.heap_setCell w ⟨b,o,none⟩ v i (λe=>hi R1))⟩
theorem vZ(b:Nat):∀(vs:Td Value)(o:Nat)(w:World)(cur:Array Value)(t:TypeId)(fr:Nat×Nat),w.heap[b]? =some (.cells cur t fr)->∃d,(w.setCells b o vs).heap[b]? =some (.cells d t fr)/\d.size=cur.size
 |[],_,_,cur,_,_,h=>⟨cur,h,rfl⟩
 | v::r,o,w,cur,t,fr,h=>by
  have h1:(w.setCell ⟨b,o,none⟩ v).heap[b]? =some (.cells (cur.setIfInBounds o v) t fr):=by simp[World.setCell,Qm,h]
  obtain⟨d,h2,j⟩:=vZ b r (o+1) _ _ _ _ h1;exact⟨d,h2,by rw[j];simp⟩
theorem BB(b o:Nat)(vs:Td Value)(w:World):Chg b w (w.setCells b o vs):=by
 obtain⟨h1,h2,h,h4,j⟩:=yp b vs o w;exact⟨h1,h2,h,A0,λi _ d=>j i d⟩
theorem oM{cur:Array Value}{t:TypeId}{fr:Nat×Nat}(h:w.heap[b]? =some (.cells cur t fr))(j:Nat):w.cell? ⟨b,j,none⟩=cur[j]? :=by simp[World.cell?,h]
theorem kK{g:Nat}{o:Obj}(h:w.heap[g]? =some o):g<w.heap.size:=G1
def At4(w:World)(b o:Nat)(x:Lf):Prop:=w.cell? ⟨b,o,none⟩=some (.int .i64 x.op)/\w.cell? ⟨b,o+1,none⟩=some (.string x.ah)/\w.cell? ⟨b,o+2,none⟩=some (.int .i64 x.am)/\w.cell? ⟨b,o+3,none⟩=some (.slice x.A 0 x.c)
theorem At4.same{o:Nat}{x:Lf}(h:At4 w b o x)(hk:∀j,o<=j->j<o+4->w'.cell? ⟨b,j,none⟩=w.cell? ⟨b,j,none⟩):At4 w' b o x:=
 ⟨(hk _ A0 A0).trans h.1,(hk _ A0 A0).trans h.2.1,(hk _ A0 A0).trans h.2.2.1,(hk _ A0 A0).trans h.2.2.2⟩
theorem Lay.cell(h:Lay w w')(d:b<w.heap.size)(j:Nat):w'.cell? ⟨b,j,none⟩=w.cell? ⟨b,j,none⟩:=by simp only[World.cell?];rw[h.heap.2 b d]
structure Rw(w:World)(blk:Nat)(t:TypeId)(n off:Nat)(d:List Lf):Prop where
 heap:∃cur,w.heap[blk]?=some (.cells cur t (0,0))/\cur.size=n
 fit:off+d.length*4<=n
 at_:∀k x,d[k]? =some x->At4 w blk (off+k*4) x
end
section
variable {w w' : World} {blk n off : Nat} {t : TypeId} {d : Td Lf}
theorem Rw.lt(h:Rw w blk t n off d):blk<w.heap.size:=by obtain⟨cur,h1,_⟩:=h.heap;exact kK h1
theorem Rw.lay(h:Rw w blk t n off d)(k:Lay w w'):Rw w' blk t n off d:=by
 have v:=h.lt;obtain⟨cur,h1,h2⟩:=h.heap;exact⟨⟨cur,(k.heap.2 blk v).trans h1,h2⟩,h.fit,λi x y=>(h.at_ i x y).same λj _ _=>k.cell v j⟩
theorem Rw.some(h:Rw w blk t n off d){j:Nat}(v:j<n):(w.cell? ⟨blk,j,none⟩).isSome=true/\w.frozen? ⟨blk,j,none⟩=false:=by
 obtain⟨cur,h1,h2⟩:=h.heap;refine⟨?_,by simp[World.frozen?,h1]⟩;rw[oM h1,On A0];rfl
theorem Rw.take(h:Rw w blk t n off d)(k:Nat):Rw w blk t n off (d.take k):=by
 refine⟨h.heap,?_,λi x j=>h.at_ i x ?_⟩
 .have:=h.fit;rw[Pd];omega
 .grind
theorem Rw.out(h:Rw w blk t n off d){o:Nat}{vs:Td Value}(ho:off+d.length*4<=o):Rw (w.setCells blk o vs) blk t n off d:=by
 obtain⟨cur,h1,h2⟩:=h.heap;obtain⟨v,A,h4⟩:=vZ blk vs o w cur t (0,0) h1;refine⟨⟨v,A,h4.trans h2⟩,h.fit,λi x y=>(h.at_ i x y).same λj B C=> ?_⟩;have:=(gI.1 y).1;exact World.cell?_setCells_out blk vs o w _ (λ_ _=>.inl (by show j<o;omega))
theorem Rw.set(h:Rw w blk t n off d){k:Nat}(hk:k<d.length)(x:Lf):Rw (w.setCells blk (off+k*4) x.enc) blk t n off (d.set k x):=by
 obtain⟨cur,h1,h2⟩:=h.heap;have E:=h.fit;obtain⟨A,C,h4⟩:=vZ blk x.enc (off+k*4) w cur t (0,0) h1;refine⟨⟨A,C,h4.trans h2⟩,by simpa using h.fit,λi y B=> ?_⟩;by_cases e:k=i
 .subst e;rw[sS hk]at B;cases B;have v:=World.cell?_setCells_in blk x.enc (off+k*4) w (λj D=>(h.some (by have:j<4:=D;omega)).1);exact⟨v 0 (A0:0<4),v 1 (A0:1<4),v 2 (A0:2<4),v 3 (A0:3<4)⟩
 .rw[sN e]at B;refine(h.at_ i y B).same λj F G=> ?_;refine World.cell?_setCells_out blk x.enc (off+k*4) w _ (λ_ _=> ?_);have bF:x.enc.length=4:=rfl;rw[bF];show j<off+k*4\/off+k*4+4<=j;omega
end
theorem om{d:Td Lf}{k:Nat}(h:k<d.length):∃x,d[k]? =some x:=⟨d[k],O0 h⟩
set_option maxHeartbeats 4000000 in
theorem xN{blk n off cap:Nat}{t:TypeId}(d:Td Lf)(w:World)(h:Rw w blk t n off d)(hcap:d.length<=cap)(bF:d.length<=4611686018427387904)(h2:2<=d.length):
  Calls Tryz.prog 125 #[.slice (some ⟨blk,off,none⟩) d.length cap,.func (.func 93) #[] #[]] w λe w'=>e= .returned (.slice (some ⟨blk,off,none⟩) (ij d).length cap)/\Rw w' blk t n off (ij d)/\Chg blk w w':=by
 have HR:Aside (Rw w blk t n off d):=h;clear h;have n2:¬d.length<2:=A0
 go_enter Tryz.func125,Tryz.ntmps125
 go_wp2_with fail
 go_loopg [5] d.length (λg s5 wr=>∃k:Nat,1<=k/\k<=d.length/\d.length-k<=g/\s5= .int .i64 k/\ij (d.take k)=d.take k/\Rw wr blk t n off d/\Chg blk w wr)
 case atStart=>
  refine⟨1,O3 _,A0,A0,rfl,?_,HR.out,Chg.refl _ _⟩;cases d with
  |nil=>rfl
  |cons x xs=>rfl
 case round=>
  obtain⟨k,hk1,hk,hg,rfl,G,A,D⟩:=hrel;by_cases hlt:k<d.length
  .obtain ⟨x,hx⟩:=om hlt;obtain⟨m,rfl⟩:∃m,k=m+1:=⟨k-1,A0⟩;obtain⟨y,hy⟩:=om (d:=d) (k:=m) A0;have iw:IntKind.i64.wrap (m:Int)=(m:Int):=Den.aX A0;have i1:(m:Int)<(d.length:Int):=A0
   have i2:(m:Int)<=9223372036854775807:=A0
   have i4:(m:Int)+1<(d.length:Int):=A0
   have i5:(0:Int)<=(m:Int)+1:=A0
   obtain⟨c0,c1,c2,c3⟩:=A.at_ (m+1) x hx;obtain⟨U,V,W,X⟩:=A.at_ m y hy;have E:Aside (Rw wr blk t n off d):=A;have O:Aside (Chg blk w wr):=D;have HM:Aside (ij (d.take (m+1))=d.take (m+1)):=G;have HX:Aside (d[m+1]? =some x):=hx;have HY:Aside (d[m]? =some y):=hy;clear A D G hx hy
   go_wp2_with fail
   go_region_held3 (λw'=>w'.cell? ⟨blk,off+(m+1)*4,none⟩=some (.int .i64 x.op)/\w'.cell? ⟨blk,off+(m+1)*4+1,none⟩=some (.string x.ah)/\w'.cell? ⟨blk,off+(m+1)*4+2,none⟩=some (.int .i64 x.am)/\w'.cell? ⟨blk,off+(m+1)*4+3,none⟩=some (.slice x.A 0 x.c)/\w'.cell? ⟨blk,off+m*4,none⟩=some (.int .i64 y.op)/\w'.cell? ⟨blk,off+m*4+1,none⟩=some (.string y.ah)/\w'.cell? ⟨blk,off+m*4+2,none⟩=some (.int .i64 y.am)/\w'.cell? ⟨blk,off+m*4+3,none⟩=some (.slice y.A 0 y.c)) (go_keep) (first|(go_at_call 93;refine(wY x y _).mono ?_;rintro e w' ⟨rfl,H⟩;have I:=(Lay.refl wr).drew.trans H;obtain⟨c0,c1,c2,c3⟩:=(E.out.lay I).at_ _ _ HX.out;obtain⟨U,V,W,X⟩:=(E.out.lay I).at_ _ _ HY.out))
   have C:Aside (Rw w' blk t n off d):=E.out.lay I;have J:Aside (Chg blk w w'):=O.out.trans I.chg;clear c0 c1 c2 c3 U V W X H I E O;clear iw i1 i2 i4 i5;cases hs:x.same y with
   | false=>
    go_wp2_with fail
    go_roundg (d.length-(m+1+1))
    case measure=>omega
    case rel=>
     refine⟨m+1+1,A0,A0,O3 _,by go_num,?_,C.out,J.out⟩;rw[pw HY.out HX.out,hs,O2 A3,HM.out,<-Den.fW HX.out]
   | true=>
    have hm:(ij (d.take (m+2))).length=m+1/\ij (d.take (m+2))=d.take (m+1):=by
     rw[pw HY.out HX.out,hs,mt rfl,HM.out];exact⟨by rw[Pd];omega,rfl⟩
    have Y:Aside ((ij (d.take (m+2))).length=m+1/\ij (d.take (m+2))=d.take (m+1)):=hm;clear hm
    go_wp2_with fail
    go_loopg [5,7] d.length (λg s5 s7 wr=>∃(B F:Nat)(e:Td Lf),s5= .int .i64 B/\s7= .int .i64 F/\1<=F/\m+1+F<=d.length/\d.length-(m+1+F)<=g/\e.length=d.length/\B=(ij (d.take (m+1+F))).length/\B<=m+F/\e.take B=ij (d.take (m+1+F))/\(∀i,B<=i->e[i]? =d[i]?)/\Rw wr blk t n off e/\Chg blk w wr)
    case atStart=>exact⟨m+1,1,d,rfl,rfl,O3 _,A0,A0,rfl,Y.out.1.symm,A0,Y.out.2.symm,λ_ _=>rfl,C.out,J.out⟩
    case round=>
     obtain⟨B,F,e,rfl,rfl,h1,hle,hg2,Z,K,hkle,L,M,A,D⟩:=hrel;by_cases hlt2:m+1+F<d.length
     .obtain⟨j,rfl⟩:∃j,F=j+1:=⟨F-1,A0⟩;obtain⟨u,hu⟩:=om hlt2;obtain⟨v,T⟩:=om (d:=d) (k:=m+1+j) A0;have P:=(M (m+1+(j+1)) A0).trans hu;have Q:=(M (m+1+j) A0).trans T;have at1:=A.at_ _ _ P;have at2:=A.at_ _ _ Q;rw[(A0:off+(m+1+(j+1))*4=off+(m+1)*4+(j+1)*4)]at at1;rw[(A0:off+(m+1+j)*4=off+(m+1)*4+j*4)]at at2;obtain⟨c0,c1,c2,c3⟩:=at1;obtain⟨U,V,W,X⟩:=at2;have E:Aside (Rw wr blk t n off e):=A;have O:Aside (Chg blk w wr):=D;have HH:Aside (∀i,B<=i->e[i]? =d[i]?):=M;have HT:Aside (e.take B=ij (d.take (m+1+(j+1)))):=L;have HK:Aside (B=(ij (d.take (m+1+(j+1)))).length):=K;have HU:Aside (d[m+1+(j+1)]? =some u/\d[m+1+j]? =some v/\e[m+1+(j+1)]? =some u/\e[m+1+j]? =some v):=⟨hu,T,P,Q⟩;clear A D M L K hu T P Q;have iw:IntKind.i64.wrap (j:Int)=(j:Int):=Den.aX A0;have i1:(j:Int)<((d.length-(m+1):Nat):Int):=A0
      have i2:(j:Int)<=9223372036854775807:=A0
      have i3:(j:Int)+1<((d.length-(m+1):Nat):Int):=A0
      have i4:(0:Int)<=(j:Int)+1:=A0
      go_wp2_with fail
      go_region_held3 (λw'=>w'.cell? ⟨blk,off+(m+1)*4+(j+1)*4,none⟩=some (.int .i64 u.op)/\w'.cell? ⟨blk,off+(m+1)*4+(j+1)*4+1,none⟩=some (.string u.ah)/\w'.cell? ⟨blk,off+(m+1)*4+(j+1)*4+2,none⟩=some (.int .i64 u.am)/\w'.cell? ⟨blk,off+(m+1)*4+(j+1)*4+3,none⟩=some (.slice u.A 0 u.c)/\w'.cell? ⟨blk,off+(m+1)*4+j*4,none⟩=some (.int .i64 v.op)/\w'.cell? ⟨blk,off+(m+1)*4+j*4+1,none⟩=some (.string v.ah)/\w'.cell? ⟨blk,off+(m+1)*4+j*4+2,none⟩=some (.int .i64 v.am)/\w'.cell? ⟨blk,off+(m+1)*4+j*4+3,none⟩=some (.slice v.A 0 v.c)) (go_keep) (first|(go_at_call 93;refine(wY u v _).mono ?_;rintro e w2 ⟨rfl,H⟩;have I:=(Lay.refl wr).drew.trans H;obtain⟨c0,c1,c2,c3⟩:=(show At4 w2 blk (off+(m+1)*4+(j+1)*4) u from (by have q:=(E.out.lay I).at_ _ _ HU.out.2.2.1;rw[(A0:off+(m+1+(j+1))*4=off+(m+1)*4+(j+1)*4)]at q;exact q));obtain⟨U,V,W,X⟩:=(show At4 w2 blk (off+(m+1)*4+j*4) v from (by have q:=(E.out.lay I).at_ _ _ HU.out.2.2.2;rw[(A0:off+(m+1+j)*4=off+(m+1)*4+j*4)]at q;exact q))))
      have C:Aside (Rw w2 blk t n off e):=E.out.lay I;have J:Aside (Chg blk w w2):=O.out.trans I.chg;clear U V W X H I E O;have HN:Aside (ij (d.take (m+1+(j+1+1)))=if u.same v=true then ij (d.take (m+1+(j+1)))else ij (d.take (m+1+(j+1)))++[u]):=pw HU.out.2.1 HU.out.1;cases hs:u.same v with
      | true=>
       go_wp2_with fail
       go_roundg (d.length-(m+1+(j+1+1)))
       case measure=>omega
       case rel=>
        have R:=HN.out;rw[hs,mt rfl]at R;exact⟨B,j+1+1,e,rfl,by go_num,A0,A0,O3 _,Z,by rw[R];exact HK.out,A0,by rw[R];exact HT.out,HH.out,C.out,J.out⟩
      | false=>
       have S:B<e.length:=A0
       obtain⟨z,hz⟩:=om S;obtain⟨z0,z1,z2,z3⟩:=C.out.at_ B z hz;have hfit:=C.out.fit;have f0:=(C.out.some (j:=off+B*4) A0).2;have f1:=(C.out.some (j:=off+B*4+1) A0).2;have f2:=(C.out.some (j:=off+B*4+2) A0).2;have f3:=(C.out.some (j:=off+B*4+3) A0).2;have hkd:(B:Int)<(d.length:Int):=A0
       clear hfit hz
       go_wp2_with fail
       go_roundg (d.length-(m+1+(j+1+1)))
       case measure=>omega
       case rel=>
        have R:=HN.out;rw[hs,O2 A3]at R;have hK:=HK.out;refine⟨B+1,j+1+1,e.set B u,by go_num,by go_num,A0,A0,O3 _,by simpa using Z,by rw[R,OJ,<-hK];rfl,A0,?_,λi hi=> ?_,C.out.set S u,J.out.trans (BB blk (off+B*4) u.enc w2)⟩
        .rw[R,<-HT.out,List.take_add_one,sS S,List.take_set_of_le (O3 _)];rfl
        .rw[sN A0];exact HH.out i A0
     .have N:m+1+F=d.length:=A0
      have hcl:∀ty,(Builtin.clear_ #[53] ty #[.slice (some ⟨blk,off+B*4,none⟩) (d.length-B) (cap-B)]).run Tryz.prog wr= .ok (.tuple #[]) (wr.setCells blk (off+B*4) (Builtin.zeroCells (Value.cells (.agg #[.int .i64 0,.string ByteArray.empty,.int .i64 0,.slice none 0 0])) (d.length-B)).toList):=λty=>by
       refine ua wr _ _ ty (.agg #[.int .i64 0,.string ByteArray.empty,.int .i64 0,.slice none 0 0]) Tryz.underlying53 Tryz.zeroValue55 (λv T=> ?_) blk (off+B*4) _ _ A0 (λj hj=> ?_) (λj hj=> ?_)
       .simp[Value.cells]at T;rcases T with rfl|rfl|rfl|rfl<;>rfl
       .have hj':j<(d.length-B)*4:=hj;have:=A.fit;exact(A.some A0).1
       .have hj':j<(d.length-B)*4:=hj;have:=A.fit;exact(A.some A0).2
      have E:Aside (Rw wr blk t n off e):=A;have O:Aside (Chg blk w wr):=D;have HT:Aside (e.take B=ij d):=by rw[N,Q0]at L;exact L
      have HK:Aside (B=(ij d).length):=by rw[N,Q0]at K;exact K
      clear A D L K M;have i1:(B:Int)<(d.length:Int):=A0
      go_wp2_with fail
      go_ret
      rw[<-HK.out];refine⟨rfl,?_,?_⟩
      .rw[<-HT.out];refine(E.out.take B).out ?_;rw[Pd];omega
      .exact O.out.trans (BB _ _ _ _)
  .have:k=d.length:=A0
   subst this;have e:ij d=d:=by rw[Q0]at G;exact G
   have E:Aside (Rw wr blk t n off d):=A;clear G A
   go_wp2_with fail
   go_ret
   rw[e];exact⟨rfl,E.out,D⟩
end Go.Proofs.YtkegnipofloejaaGreatDoor
namespace Go.Proofs.YtkegnipofloejaaGreatDoor.Den
open Go.RowKit
def spL:Td UInt8->Td (Td UInt8)
 |[]=>[[]]
 | c::l=>if c=32 then []::spL l else match spL l with
  |w::d=>(c::w)::d
  |[]=>[[c]]
theorem spK:∀s:Td UInt8,Lib.splitK [32] 0 (Lib.count s [32]) s=spL s
 |[]=>rfl
 | b :: l=>by
  have d:=spK l;by_cases t:b=32
  .subst t;rw[Lib.count_hit (i:=0) A1 rfl,Nat.add_comm];show List.take 0 _::Lib.splitK [32] 0 (Lib.count l [32]) l=_;rw[d];rfl
  .have hp:([32]:Td UInt8).isPrefixOf (b::l)=false:=G1
   have e:Lib.index (b::l) [32]=if Lib.index l [32]== -1 then -1 else Lib.index l [32]+1:=by
    rw[Lib.index,O2 (by rw[hp];decide)]
   unfold spL;rw[O2 t,<-d];by_cases hm:Lib.index l [32]= -1
   .rw[hm]at e;rw[Lib.count_miss hm,Lib.count_miss e];rfl
   .have v:=Lib.index_ge l [32];obtain⟨i,hi⟩:∃i:Nat,Lib.index l [32]=i:=⟨(Lib.index l [32]).toNat,A0⟩;have e2:Lib.index (b::l) [32]=((i+1:Nat):Int):=by rw[e,O2 (by simpa using hm),hi];rfl
    rw[Lib.count_hit A1 hi,Lib.count_hit A1 e2,Nat.add_comm 1,Nat.add_comm 1];have k1:∀(s:Td UInt8)(j n:Nat),Lib.index s [32]=j->Lib.splitK [32] 0 (n+1) s=s.take j::Lib.splitK [32] 0 n (s.drop (j+1)):=λs j n h=>by
     rw[Lib.splitK,O2 (by rw[h,beq_iff_eq];omega),h];rfl
    rw[k1 _ _ _ hi,k1 _ _ _ e2];rfl
theorem IK:∀(l:Td UInt8),∀w∈spL l,w.length<=l.length
 |[],w,h=>by rw[List.mem_singleton.1 h];exact O3 _
 | c :: l,w,h=>by
  have d:=IK l;unfold spL at h;split at h
  .grind
  .split at h
   .rename_i a j e;rcases List.mem_cons.1 h with rfl|h
    .grind
    .grind
   .grind
def bC(b:Z):Td Z:=(spL b.data.toList).map λl=>⟨l.toArray⟩
theorem u6(b:Z):Lib.splitB ⟨#[32]⟩ 0 (Lib.countB b ⟨#[32]⟩) b=bC b:=by
 have h:=Lib.splitB_data ⟨#[32]⟩ 0 (Lib.countB b ⟨#[32]⟩) b;unfold bC;rw[<-spK];show _=(Lib.splitK (ByteArray.mk #[32]).data.toList 0 (Lib.countB b ⟨#[32]⟩) b.data.toList).map _;rw[<-h,List.map_map];exact(List.map_id _).symm
theorem m7(b:Z):(bC b).length=Lib.countB b ⟨#[32]⟩+1:=by
 rw[<-u6,Lib.splitB_all _ A3 0 _ b rfl]
theorem DX{b x:Z}(h:x∈bC b):x.size<=b.size:=by
 obtain⟨w,d,rfl⟩:=List.mem_map.1 h;exact IK _ w d
end Go.Proofs.YtkegnipofloejaaGreatDoor.Den
namespace Go.Proofs.YtkegnipofloejaaGreatDoor.Abs
open Go.RowKit
abbrev bP(d:Td Z):Td (Td V):=d.map λx=>[.lit (.string x)]
theorem ars2{I:Nat->Prop}{ι:Td Inf}{w:World}{a b:Value}{cs:Array Value}(h:ARs ι I w [.one (.lit a),.one (.lit b)] cs):cs= #[a,b]:=by
 obtain⟨h1,h2⟩:=h;rcases cs with⟨l⟩
 match l,h1 with
 | [x,y],_=>
  obtain⟨u,u1,u2⟩:=h2 0 A1;obtain⟨v,v1,d⟩:=h2 1 A1;simp at u1 v1;subst u1 v1;cases u2 with|one u2=>
  cases d with|one d=>
  rw[Den.tD u2,Den.tD d]
theorem EW(b:Z)(t:b.size<4294967281)(h:au):Fn Tryz.prog 42 [.one (.lit (.string b)),.one (.lit (.string ⟨#[32]⟩))] h (λr h'=>r= .one (.own h.length 0 (bP (Den.bC b)).length)/\h'=h++[some (.row 1 (bP (Den.bC b)))]):=
 Aq ⟨Tryz.f42,Tryz.func42,D1,D1⟩ λw I ι cs ⟨m,hm⟩ _ hA=>by
  rw[ars2 hA];have hl:(bP (Den.bC b)).length=Lib.countB b ⟨#[32]⟩+1:=by rw[OV,Den.m7]
  refine(Tryz.strings_Split b ⟨#[32]⟩ m w t hm A3).mono λe w' ⟨e1,e2⟩=> ?_;rw[Den.u6]at e2;refine⟨w.heap.size,Lib.countB b ⟨#[32]⟩+1,_,9,by rw[e1,hl],by rw[e2];exact(Below.refl _ _).alloc (O3 _) _,O3 _,by rw[e2];exact heap_alloc_new w _,by simp[Den.m7],A0,?_,λx v=> ?_,λk hk j y=> ?_⟩
  .have h1:Lib.countB b ⟨#[32]⟩<=b.data.toList.length+1:=Lib.count_le _ _;have:b.data.toList.length=b.size:=rfl;omega
  .grind
  .have d:k<(Den.bC b).length:=by simpa using hk
   obtain rfl:j=0:=G1
   refine⟨.string (Den.bC b)[k],I1,?_⟩;have:(bP (Den.bC b))[k][0]= .lit (.string (Den.bC b)[k]):=A1
   rw[this];exact .lit (by have:=Den.DX (gM d);unfold dM maxLen;omega)
end Go.Proofs.YtkegnipofloejaaGreatDoor.Abs
namespace Go.Proofs.YtkegnipofloejaaGreatDoor.Den
open Go.RowKit
open Abs (V AV VR)
def mY(xs:Td Z)(sep:Z):Z:=⟨(Lib.join (xs.map (·.data.toList)) sep.data.toList).toArray⟩
noncomputable def oz(xs:Td Z)(sep:Z):Y Z:=if xs.length<=140737488355328/\(Lib.join (xs.map (·.data.toList)) sep.data.toList).length<=140737488355328 then some (mY xs sep)else none
theorem G9(a:Td Z)(h:Z)(hl:a.length<=140737488355328/\(Lib.join (a.map (·.data.toList)) h.data.toList).length<=140737488355328):CFn Tryz.prog 63 [.one (.l .s a),.one (.s h)] [] (.one (.s (mY a h))) []:=by
 refine oW (u:=.string (mY a h)) ⟨Tryz.f63,Tryz.func63,D1,D1⟩ ?_ .s λρ avs hA _ w I ι cs L D=> ?_
 .exact J4 hl.2
 .obtain⟨hA1,hA2⟩:=hA
  match avs,hA1 with
  | [x, y],_=>
   have C:=hA2 0 A1 A1;have v:=hA2 1 A1 A1;simp only[OY,PG]at C v;cases C with
   |one C=>
   cases v with
   |one v=>
   obtain⟨es,rfl,e1,e2⟩:=C.strs;have v:=v.str_;subst v;obtain⟨p,rfl,E,F⟩:∃p:Value×Value,cs= #[p.1,p.2]/\Abs.AR ι I w (.one (.imm 1 es)) p.1/\Abs.AR ι I w (.one (.lit (.string h))) p.2:=by
    obtain⟨h1,h2⟩:=D;obtain⟨u,u1,u2⟩:=h2 0 A1;obtain⟨z,J,M⟩:=h2 1 A1;rcases cs with⟨l⟩
    match l,h1 with
    |[p,q],_=>simp at u1 J;subst u1;subst J;exact⟨(p,q),rfl,u2,M⟩
   obtain⟨p,q⟩:=p;cases E with
   |one E=>
   cases F with
   |one F=>
   cases F with
   |lit _=>
   cases E with
   | eE hc=>
    have:a=[]:=nZ (by rw[<-e1];rfl);subst this;refine(Tryz.strings_Join_none _ _ h w).mono λe w' ⟨k1,N⟩=>⟨k1,?_⟩;subst N;exact Below.refl _ _
   | @imm _ _ b off c _ f hs hc hm G t O Q=>
    have key:∀(j:Nat) x,a[j]? =some x->w.cell? ⟨b,off+j,none⟩=some (.string x):=λj x H=>by
     have K:j<a.length:=(gI.1 H).1;have d:j<es.length:=A0
     have P:=hs es[j] (gM d);have A:=t j 0 d A0;have B:=O j d 0 A0;rw[e2 j K d A0]at B;have:f j 0= .string a[j]:=tD B;rw[this]at A;rw[O0 K]at H;cases H;simpa using A
    have:=Tryz.strings_Join b off c a h w key (L b G) hl.1 A0 hl.2;rw[e1];exact this
theorem z5f:aj (strings_Join.ent oz):=okQ λR K r a d hc=>by
 obtain⟨r,q1,q2⟩:=bb hc;unfold oz at q1;split at q1
 .rename_i hl;cases q1;exact⟨_,_,q2,G9 a d hl⟩
 .cases q1
end Go.Proofs.YtkegnipofloejaaGreatDoor.Den
