/- merged -/
import Derived.Test.YtkegnipofloejaaGreatDoorZRowMT6

namespace Go.Proofs.YtkegnipofloejaaGreatDoor.Abs
section
open Go
abbrev nS:Value:=.slice none 0 0
abbrev nI:Value:=.int .i64 0
abbrev nT:Value:=.string ⟨#[]⟩
abbrev nB:Value:=.bool false
abbrev fd(n:String)(t o b:Nat):Field:=⟨n,t,o,false, "", "",b⟩
def ty3:TyI:=⟨.int .i64,false,1,8,[nI],none,[]⟩
def ty4:TyI:=⟨.bool,false,1,1,[nB],none,[]⟩
def ty9:TyI:=⟨.string,false,1,16,[nT],none,[]⟩
def ty24:TyI:=⟨.slice 9,false,1,24,[nS],some ⟨9,1,16,[nT]⟩,[]⟩
def ty25:TyI:=⟨.slice 45,false,1,24,[nS],some ⟨45,2,16,[nI,nI]⟩,[]⟩
def ty26 :TyI:=⟨.struct ⟨[fd "Names" 24 0 0,fd "Subs" 25 1 24]⟩,true,2,48,[nS,nS],none,[(0,24,1),(1,25,1)]⟩
def ty27 :TyI:=⟨.struct ⟨[fd "Names" 24 0 0,fd "Subs" 25 1 24]⟩,true,2,48,[nS,nS],none,[(0,24,1),(1,25,1)]⟩
def ty28:TyI:=⟨.slice 48,false,1,24,[nS],some ⟨48,5,56,[nT,nS,nB,nB,nI]⟩,[]⟩
def ty29 :TyI:=⟨.struct ⟨[fd "Sorts" 27 0 0,fd "Ops" 28 2 48]⟩,true,3,72,[nS,nS,nS],none,[(0,27,2),(2,28,1)]⟩
def ty30 :TyI:=⟨.struct ⟨[fd "Sorts" 27 0 0,fd "Ops" 28 2 48]⟩,true,3,72,[nS,nS,nS],none,[(0,27,2),(2,28,1)]⟩
def ty31:TyI:=⟨.slice 58,false,1,24,[nS],some ⟨58,9,136,[nI,nT,nI,nS,nI,nT,nI,nS,nS]⟩,[]⟩
def ty32 :TyI:=⟨.struct ⟨[fd "Sig" 30 0 0,fd "Eqs" 31 3 72,fd "Rules" 31 4 96]⟩,true,5,120,[nS,nS,nS,nS,nS],none,[(0,30,3),(3,31,1),(4,31,1)]⟩
def ty33 :TyI:=⟨.struct ⟨[fd "Sig" 30 0 0,fd "Eqs" 31 3 72,fd "Rules" 31 4 96]⟩,true,5,120,[nS,nS,nS,nS,nS],none,[(0,30,3),(3,31,1),(4,31,1)]⟩
def ty41:TyI:=⟨.pointer 85,false,1,8,[Value.pointer none],none,[]⟩
def ty44 :TyI:=⟨.struct ⟨[fd "Low" 3 0 0,fd "High" 3 1 8]⟩,true,2,16,[nI,nI],none,[(0,3,1),(1,3,1)]⟩
def ty45 :TyI:=⟨.struct ⟨[fd "Low" 3 0 0,fd "High" 3 1 8]⟩,true,2,16,[nI,nI],none,[(0,3,1),(1,3,1)]⟩
def ty46:TyI:=⟨.slice 51,false,1,24,[nS],some ⟨51,2,32,[nS,nI]⟩,[]⟩
def ty47 :TyI:=⟨.struct ⟨[fd "Name" 9 0 0,fd "Decls" 46 1 16,fd "Assoc" 4 2 40,fd "Comm" 4 3 41,fd "Unit" 3 4 48]⟩,true,5,56,[nT,nS,nB,nB,nI],none,[(0,9,1),(1,46,1),(2,4,1),(3,4,1),(4,3,1)]⟩
def ty48 :TyI:=⟨.struct ⟨[fd "Name" 9 0 0,fd "Decls" 46 1 16,fd "Assoc" 4 2 40,fd "Comm" 4 3 41,fd "Unit" 3 4 48]⟩,true,5,56,[nT,nS,nB,nB,nI],none,[(0,9,1),(1,46,1),(2,4,1),(3,4,1),(4,3,1)]⟩
def ty49:TyI:=⟨.slice 3,false,1,24,[nS],some ⟨3,1,8,[nI]⟩,[]⟩
def ty50 :TyI:=⟨.struct ⟨[fd "Args" 49 0 0,fd "Result" 3 1 24]⟩,true,2,32,[nS,nI],none,[(0,49,1),(1,3,1)]⟩
def ty51 :TyI:=⟨.struct ⟨[fd "Args" 49 0 0,fd "Result" 3 1 24]⟩,true,2,32,[nS,nI],none,[(0,49,1),(1,3,1)]⟩
def ty53:TyI:=⟨.slice 55,false,1,24,[nS],some ⟨55,4,56,[nI,nT,nI,nS]⟩,[]⟩
def ty54 :TyI:=⟨.struct ⟨[fd "Op" 3 0 0,fd "Name" 9 1 8,fd "Sort" 3 2 24,fd "Args" 53 3 32]⟩,true,4,56,[nI,nT,nI,nS],none,[(0,3,1),(1,9,1),(2,3,1),(3,53,1)]⟩
def ty55 :TyI:=⟨.struct ⟨[fd "Op" 3 0 0,fd "Name" 9 1 8,fd "Sort" 3 2 24,fd "Args" 53 3 32]⟩,true,4,56,[nI,nT,nI,nS],none,[(0,3,1),(1,9,1),(2,3,1),(3,53,1)]⟩
def ty56:TyI:=⟨.slice 75,false,1,24,[nS],some ⟨75,8,112,[nI,nT,nI,nS,nI,nT,nI,nS]⟩,[]⟩
def ty57 :TyI:=⟨.struct ⟨[fd "Left" 55 0 0,fd "Right" 55 4 56,fd "Conds" 56 8 112]⟩,true,9,136,[nI,nT,nI,nS,nI,nT,nI,nS,nS],none,[(0,55,4),(4,55,4),(8,56,1)]⟩
def ty58 :TyI:=⟨.struct ⟨[fd "Left" 55 0 0,fd "Right" 55 4 56,fd "Conds" 56 8 112]⟩,true,9,136,[nI,nT,nI,nS,nI,nT,nI,nS,nS],none,[(0,55,4),(4,55,4),(8,56,1)]⟩
def ty63:TyI:=⟨.pointer 30,false,1,8,[Value.pointer none],none,[]⟩
def ty64:TyI:=⟨.pointer 24,false,1,8,[Value.pointer none],none,[]⟩
def ty74 :TyI:=⟨.struct ⟨[fd "Left" 55 0 0,fd "Right" 55 4 56]⟩,true,8,112,[nI,nT,nI,nS,nI,nT,nI,nS],none,[(0,55,4),(4,55,4)]⟩
def ty75 :TyI:=⟨.struct ⟨[fd "Left" 55 0 0,fd "Right" 55 4 56]⟩,true,8,112,[nI,nT,nI,nS,nI,nT,nI,nS],none,[(0,55,4),(4,55,4)]⟩
def ty76:TyI:=⟨.pointer 104,false,1,8,[Value.pointer none],none,[]⟩
def tbl:Tbl:=[(3,ty3),(4,ty4),(9,ty9),(24,ty24),(25,ty25),(26,ty26),(27,ty27),(28,ty28),(29,ty29),(30,ty30),(31,ty31),(32,ty32),(33,ty33),(41,ty41),(44,ty44),(45,ty45),(46,ty46),(47,ty47),(48,ty48),(49,ty49),(50,ty50),(51,ty51),(53,ty53),(54,ty54),(55,ty55),(56,ty56),(57,ty57),(58,ty58),(63,ty63),(64,ty64),(74,ty74),(75,ty75),(76,ty76)]
theorem mixed:Tryz.prog.follows .mixedOrders=true:=D1
theorem ax:cm Tryz.prog tbl:=aV D1 (aV D1 (aV D1 (aV D1 (aV D1 (aV D1 (aV D1 (aV D1 (aV D1 (aV D1 (aV D1 (aV D1 (aV D1 (aV D1 (aV D1 (aV D1 (aV D1 (aV D1 (aV D1 (aV D1 (aV D1 (aV D1 (aV D1 (aV D1 (aV D1 (aV D1 (aV D1 (aV D1 (aV D1 (aV D1 (aV D1 (aV D1 (aV D1 (oS _)))))))))))))))))))))))))))))))))
end
section
open Go.RowKit
structure Kp(p:Prop):Prop where
 out:p
section
variable {p q:Prop}
theorem Ao(k:q)(h:Kp q->p:=by
 intro k
 (first
 |refine Cv rfl (aD hE rfl) ?_
 |refine dK rfl (aD hE rfl) ?_
 |refine gQ rfl rfl rfl (aD hE rfl) ?_
 |refine zJ ax rfl rfl rfl rfl rfl (aD hE rfl) ?_
 |refine qe ax rfl rfl rfl A3 (aD hE rfl) ?_
 |refine uJ ax rfl rfl rfl A3 (aD hE rfl) ?_
 |refine yL ax rfl rfl rfl (aD hE rfl) ?_
 |refine aB ax hN rfl rfl rfl rfl rfl (aD hE rfl) ?_
 |refine eF ax hc rfl rfl rfl rfl (aD hE rfl) ?_
 |refine Db ax rfl rfl (aD hE rfl) ?_
 |refine wy ax rfl rfl rfl (aD hE rfl) ?_
 |refine bX ax rfl rfl rfl rfl A3 A0 RV (aD hE rfl) ?_
 |refine Hs rfl (aD hE rfl) ?_
 |refine Cu rfl (aD hE rfl) ?_
 |refine Bl rfl (aD hE rfl) ?_
 |refine MT rfl rfl A0 (aD hE rfl) ?_
 |refine NE rfl rfl A0 (aD hE rfl) ?_
 |refine yy rfl Dg rfl (aD hE rfl) ?_
 |refine xx rfl Dg rfl (aD hE rfl) ?_
 |refine tC rfl rfl (aD hE rfl) ?_
 |refine uG ax rfl rfl rfl rfl (aD hE rfl) ?_
 |refine oJ rfl rfl rfl (aD hE rfl) ?_
 |refine FN rfl rfl A3 (aD hE rfl) ?_
 |refine Kk hN rfl rfl (aD hE rfl) ?_
 |refine jT ax hN rfl rfl A3 (aD hE rfl) ?_
 |refine bH ax hN rfl rfl rfl rfl rfl rfl rfl (O1 rfl) ?_
 |refine xQ ax rfl rfl rfl A3 A3 rfl rfl (aD hE rfl) ?_
 |refine na ax hN rfl A3 rfl rfl rfl rfl rfl (aD hE rfl) ?_
 |refine oD rfl rfl rfl (aD hE rfl) ?_)
 exact k.out):p:=h ⟨k⟩
theorem Wk(k:q)(h:Kp q->p:=by
 intro k
 (repeat (first
 |with_reducible refine nQ ?_
 |with_reducible refine fU ?_
 |with_reducible refine Lm ?_
 |with_reducible refine Lh ?_
 |with_reducible refine E5 ?_
 |with_reducible refine H4 ?_
 |with_reducible refine wc ?_
 |with_reducible refine d rfl ?_
 |with_reducible refine pQ ?_
 |with_reducible refine fD ?_
 |with_reducible refine sL ?_
 |with_reducible refine vU ?_
 |with_reducible refine AX ?_
 |with_reducible refine v7 ?_
 |(refine aI rfl ?_;refine Ao ?_)
 |(refine kj rfl rfl rfl Dg ?_;refine Ao ?_)
 |(refine qY rfl rfl rfl Dg rfl (aD hE rfl) ?_)
 |(refine tf rfl rfl rfl rfl (aD hE rfl) ?_)))
 exact k.out):p:=h ⟨k⟩
theorem Dp(k:q)(h:Kp q->p:=by
 intro k
 (apply kM;rfl;rfl;rfl;focus (intro d;refine Ao ?_<;>exact⟨rfl,rfl⟩))
 exact k.out):p:=h ⟨k⟩
theorem Dr(k:q)(h:Kp q->p:=by
 intro k
 (apply bK;rfl;rfl;rfl;rfl;focus (intro v hm;have hm:=O6 hm;simp only[OI,O9,or_false]at hm;first|(subst hm;(first|exact aB ax hN rfl rfl rfl rfl rfl (aD hE rfl) ⟨rfl,rfl⟩|exact aB ax hj rfl rfl rfl rfl rfl (aD hE rfl) ⟨rfl,rfl⟩|exact aB ax ht rfl rfl rfl rfl rfl (aD hE rfl) ⟨rfl,rfl⟩))|(rcases hm with rfl|rfl<;>(first|exact aB ax hN rfl rfl rfl rfl rfl (aD hE rfl) ⟨rfl,rfl⟩|exact aB ax hj rfl rfl rfl rfl rfl (aD hE rfl) ⟨rfl,rfl⟩|exact aB ax ht rfl rfl rfl rfl rfl (aD hE rfl) ⟨rfl,rfl⟩))|(rcases hm with rfl|rfl|rfl<;>(first|exact aB ax hN rfl rfl rfl rfl rfl (aD hE rfl) ⟨rfl,rfl⟩|exact aB ax hj rfl rfl rfl rfl rfl (aD hE rfl) ⟨rfl,rfl⟩|exact aB ax ht rfl rfl rfl rfl rfl (aD hE rfl) ⟨rfl,rfl⟩))|(rcases hm with rfl|rfl|rfl|rfl<;>(first|exact aB ax hN rfl rfl rfl rfl rfl (aD hE rfl) ⟨rfl,rfl⟩|exact aB ax hj rfl rfl rfl rfl rfl (aD hE rfl) ⟨rfl,rfl⟩|exact aB ax ht rfl rfl rfl rfl rfl (aD hE rfl) ⟨rfl,rfl⟩))))
 exact k.out):p:=h ⟨k⟩
theorem Ds(k:q)(h:Kp q->p:=by
 intro k
 (apply aS (v:=.dead);rfl;rfl;rfl;focus (first|(refine bH ax ht rfl rfl rfl rfl rfl rfl rfl (O1 rfl) ?_;exact⟨rfl,rfl⟩)|(refine bH ax hj rfl rfl rfl rfl rfl rfl rfl (O1 rfl) ?_;exact⟨rfl,rfl⟩)|(refine bH ax hN rfl rfl rfl rfl rfl rfl rfl (O1 rfl) ?_;exact⟨rfl,rfl⟩)))
 exact k.out):p:=h ⟨k⟩
end
end
end Go.Proofs.YtkegnipofloejaaGreatDoor.Abs
