/- Types: the reference's Resolve, given what reach comes to. -/
import Derived.Test.YtkgloohlmogakaaGreatDoorB17
import Derived.Test.YtkgloohlmogakaaGreatDoorB16
set_option linter.unusedSimpArgs false
set_option linter.unusedVariables false
set_option maxRecDepth 100000
namespace Go.V.Ty
open Go.Proofs Go.RowKit Go.V.Lx Go.V.Gr
def push(c:ah)(p:List ah×List ah)(x:aC):List ah×List ah:=match fG x with
 |some (a,d)=>if a=c/\¬d∈p.1 then(p.1++[d],p.2++[d])else p
 |none=>p
def run(rs:List aC):Nat->List ah×List ah->List ah
 |_,(out,[])=>out
 |0,(out,_)=>out
 |k+1,(out,c::todo)=>run rs k (rs.foldl (push c) (out,todo))
def ir(rs:List aC)(s:ah):List ah:=run rs (rs.length+1) ([],[s])
def sZ(g:aO):Bool:=g.cats.any fun c=>(ir g.rules c).contains c
def vY(l:List ah)(x:Entry):Entry:={x with no:=eV l x.cat}
def vZ(l:List ah)(q:Part):Part:={q with no:=max 0 (eV l q.cat)}
def nw(l:List ah)(x:aC):aC:={x with no:=eV l x.cat,parts:=x.parts.map (vZ l)}
def yU(g:aO):aO:={g with no:=eV g.cats g.start,entries:=g.entries.map (vY g.cats),rules:=g.rules.map (nw g.cats)}
def gd(g:aO):aO×Int:=
 if 32<g.cats.length\/512<g.entries.length\/128<g.rules.length then(.zero,2)
 else if j8 g=false then(.zero,260)
 else if sZ g=true then(.zero,261)else(yU g,0)
def sW:Prop:=∀(g:aO) (s:ah),iZ g->g.rules.length<=128->small s->aq Tryz.prog 256 [g.d,.str s] (strs (ir g.rules s))
set_option maxHeartbeats 8000000 in
theorem Ea(hre:sW)(hlen:∀(g:aO) s,g.rules.length<=128->(ir g.rules s).length<=128)(g:aO)(hg:iZ g)(hpl:∀x∈g.rules,x.parts.length<=65536):iI Tryz.prog (bK Tryz.prog) [(1000143,[]),(8,[(7,5),(7,2)])] Tryz.f204 0 [g.d] (fun _=> .none) (KW (gd g)) (fun _ _=>False):=by
 refine aH _ [.cell 2 81,.tmp 3] 147 rfl rfl rfl aj ?_;have hgd:g.d= .agg [.str g.name,.sl 1 (g.cats.map D.str),.str g.start,.int .i64 g.no,.sl 5 (g.entries.map Entry.d),.sl 5 (g.rules.map aC.d)]:=rfl;have hcl:=hg.clen;simp(disch:=omega) only[go_sem,hgd];by_cases hlim:32<g.cats.length\/512<g.entries.length\/128<g.rules.length
 ·have hr:gd g=(.zero,2):=by unfold gd;rw[if_pos hlim]
  rw[hr];by_cases l1:(32:Int)<(g.cats.length:Int)
  ·simp(disch:=omega) only[go_sem,l1,decide_true];exact f_ _ _
  by_cases l2:(512:Int)<(g.entries.length:Int)
  ·simp(disch:=omega) only[go_sem,l1,l2,decide_true,decide_false];exact f_ _ _
  have l3:(128:Int)<(g.rules.length:Int):=oM;simp(disch:=omega) only[go_sem,l1,l2,l3,decide_true,decide_false];exact f_ _ _
 have l1:¬(32:Int)<(g.cats.length:Int):=oM;have l2:¬(512:Int)<(g.entries.length:Int):=oM;have l3:¬(128:Int)<(g.rules.length:Int):=oM;simp(disch:=omega) only[go_sem,l1,l2,l3,decide_false,hgd];refine au (Iv g hg) (pg g) ?_;cases ht:j8 g
 ·have hr:gd g=(.zero,260):=by unfold gd;rw[if_neg hlim,if_pos ht]
  rw[hr];simp(disch:=omega) only[go_sem,Bool.not_false];exact f_ _ _
 simp(disch:=omega) only[go_sem,Bool.not_true];refine aX g.cats.length (fun i σ bx=>σ 1= .loc 1 1 0 0/\σ 2= .loc 2 1 0 0/\σ 4= .int .i64 i/\bx 1=⟨1,1,6,81,[g.d]⟩/\bx 2=⟨1,1,6,81,[ik]⟩/\(g.cats.take i).any (fun c=>(ir g.rules c).contains c)=false) ?_ ?_ ?_
 ·simp(disch:=omega) only[go_sem,hgd,ik,List.take_zero,List.any_nil]
 ·rintro i σ bx hi ⟨q1,q2,q4,b1,b2,hb⟩;obtain⟨y,hy⟩:=aP hi;have hlt:(i:Int)<(g.cats.length:Int):=oM;have hi1:IntKind.i64.wrap ((i:Int)+1)=((i+1:Nat):Int):=aK oM;simp(disch:=omega) only[go_sem,q1,q2,q4,hlt,b1,hgd,hy];refine au (hre g y hg oM (hg.cats y (List.mem_of_getElem? hy))) (I8 g y) ?_;simp(disch:=omega) only[go_sem,q1,q2,q4,hlt,b1,hgd,hy];refine au (jm (ir g.rules y) y (by have:=hlen g y oM;omega)) (by simp[go_sem,strs,cr]) ?_;simp(disch:=omega) only[go_sem,Cs];cases hc:(ir g.rules y).contains y
  ·simp(disch:=omega) only[go_sem,hc,q1,q2,q4,hi1,b1,b2,hgd];rw[List.take_add_one,hy,List.any_append,hb];simp only[Option.toList_some,List.any_cons,hc,List.any_nil,Bool.or_false]
  ·have hr:gd g=(.zero,261):=by
    have:sZ g=true:=by rw[sZ,List.any_eq_true];exact⟨y,List.mem_of_getElem? hy,hc⟩
    unfold gd;rw[if_neg hlim,if_neg (by simp[ht]),if_pos this]
   rw[hr];simp(disch:=omega) only[go_sem,hc,q2,b2,ik];exact f_ _ _
 ·rintro σ bx ⟨q1,q2,q4,b1,b2,hb⟩;have hlt:¬(g.cats.length:Int)<(g.cats.length:Int):=oM;rw[List.take_length]at hb;have hr:gd g=(yU g,0):=by
   have:sZ g=false:=hb;unfold gd;rw[if_neg hlim,if_neg (by simp[ht]),if_neg (by simp[this])]
  rw[hr];simp(disch:=omega) only[go_sem,q1,q2,q4,hlt,b1,b2,hgd];refine au (jm g.cats g.start hcl) (by simp[go_sem,strs,cr]) ?_;simp(disch:=omega) only[go_sem,q1,q2,q4];generalize hE5:(bx 5).ep+1=E5;refine aX g.entries.length (fun j σ bx=>σ 1= .loc 1 1 0 0/\σ 2= .loc 2 1 0 0/\σ 5= .loc 5 E5 0 0/\σ 6= .int .i64 j/\bx 1=⟨1,1,6,81,[g.d]⟩/\bx 2=⟨1,1,6,81,[ik]⟩/\
   ∃x,bx 5=⟨E5,1,6,81,[.agg [.str g.name,.sl 1 (g.cats.map D.str),.str g.start,.int .i64 (eV g.cats g.start),x,.nilsl]]⟩/\aW bx [86] 138 5 x (((g.entries.map (vY g.cats)).take j).map Entry.d)) ?_ ?_ ?_
  ·simp(disch:=omega) only[go_sem,q1,q2,b1,b2,hE5,hgd];exact⟨.nilsl,rfl,by simpa using aW.nil _ _ _ _⟩
  ·rintro j σ bx hj ⟨q1,q2,q5,q6,b1,b2,x',b5,ov⟩;obtain⟨x,hx⟩:=aP hj;have hlt:(j:Int)<(g.entries.length:Int):=oM;have hj1:IntKind.i64.wrap ((j:Int)+1)=((j+1:Nat):Int):=aK oM;have hxd:x.d= .agg [.str x.text,.str x.cat,.int .i64 x.no,.sl 1 (x.gives.map D.str),.int .i64 x.cost]:=rfl;obtain⟨v1,v2,v3⟩:=ov.facts;simp(disch:=omega) only[go_sem,q1,q2,q5,q6,hlt,b1,hgd,hx,hxd];refine au (jm g.cats x.cat hcl) (by simp[go_sem,strs,cr]) ?_;simp(disch:=omega) only[go_sem,q1,q2,q5,q6,b5,v1,v2,v3];refine qe (ov.of (by simp[ao])) sG (by simp;omega) oM oM oM fun y bx' h1 h2=>?_;obtain⟨v1,v2,v3⟩:=h1.facts;have c1:=(h2 1 oM).trans ((aA oM).trans ((aA oM).trans ((aA oM).trans b1)));have c2:=(h2 2 oM).trans ((aA oM).trans ((aA oM).trans ((aA oM).trans b2)));have c5:=(h2 5 oM).trans ((aA oM).trans ((aA oM).trans ((aA oM).trans b5)));simp(disch:=omega) only[go_sem,q1,q2,q5,q6,c1,c2,c5,v1,v2,v3,hj1];rw[uF hx,List.map_append];exact⟨y,rfl,h1.of (by simp[ao])⟩
  ·rintro σ bx ⟨q1,q2,q5,q6,b1,b2,x',b5,ov⟩;have hlt:¬(g.entries.length:Int)<(g.entries.length:Int):=oM;rw[List.take_of_length_le sI]at ov;simp(disch:=omega) only[go_sem,q1,q2,q5,q6,b1,hlt,hgd];clear hlt;refine B_ g.rules.length (fun j σ bx=>σ 1= .loc 1 1 0 0/\σ 2= .loc 2 1 0 0/\σ 5= .loc 5 E5 0 0/\σ 8= .int .i64 j/\bx 1=⟨1,1,6,81,[g.d]⟩/\bx 2=⟨1,1,6,81,[ik]⟩/\
    ∃x y,bx 5=⟨E5,1,6,81,[.agg [.str g.name,.sl 1 (g.cats.map D.str),.str g.start,.int .i64 (eV g.cats g.start),x,y]]⟩/\aW bx [86] 138 5 x ((g.entries.map (vY g.cats)).map Entry.d)/\oK 144 138 142 y (((g.rules.map (nw g.cats)).take j).map aC.d) bx) ?_ ?_ ?_
   ·simp(disch:=omega) only[go_sem,q1,q2,q5,hgd];exact⟨b1,b2,x',.nilsl,b5,ov,.inl ⟨rfl,by simp⟩⟩
   ·rintro j σ bx hj ⟨q1,q2,q5,q8,b1,b2,x',y,b5,ov,hh⟩;obtain⟨x,hx⟩:=aP hj;obtain⟨bx0,hm,hk0,l,ol,hw,hpp⟩:=hh.dF (by decide);refine⟨bx0,?_,?_⟩
    ·rcases hm with rfl|⟨l,h1,h2,h3⟩
     ·exact .inl rfl
     ·exact .inr ⟨rfl,144,l,h1,h2,h3⟩
    clear hm hh;replace b1:=(hk0 1 oM oM).trans b1;replace b2:=(hk0 2 oM oM).trans b2;replace b5:=(hk0 5 oM oM).trans b5;replace ov:=ov.of (bx':=bx0) fun q hq=>hk0 q (by simp at hq;omega) (by simp at hq;omega);have hlt:(j:Int)<(g.rules.length:Int):=oM;have hj1:IntKind.i64.wrap ((j:Int)+1)=((j+1:Nat):Int):=aK oM;have hxp:=hpl x (List.mem_of_getElem? hx);have hxd:x.d= .agg [.str x.cat,.int .i64 x.no,.sl 3 (x.parts.map Part.d),.sl 2 (x.gives.map ct.d),.int .i64 x.cost]:=rfl;obtain⟨v1,v2,v3⟩:=ol.facts;simp(disch:=omega) only[go_sem,q1,q2,q5,q8,hlt,b1,hgd,hx,hxd];refine au (jm g.cats x.cat hcl) (by simp[go_sem,strs,cr]) ?_;simp(disch:=omega) only[go_sem,q1,q2,q5,q8,b1,hgd];generalize hE9:(bx0 9).ep+1=E9;refine aX x.parts.length (fun i σ bx=>σ 1= .loc 1 1 0 0/\σ 2= .loc 2 1 0 0/\σ 5= .loc 5 E5 0 0/\σ 8= .int .i64 j/\σ 9= .loc 9 E9 0 0/\σ 10= .int .i64 i/\(∀q,q≠9->q≠11->q≠138->bx q=bx0 q)/\
     ∃p',bx 9=⟨E9,1,5,142,[.agg [.str x.cat,.int .i64 (eV g.cats x.cat),p',.sl 2 (x.gives.map ct.d),.int .i64 x.cost]]⟩/\aW bx [138] 247 3 p' (((x.parts.map (vZ g.cats)).take i).map Part.d)) ?_ ?_ ?_
    ·simp(disch:=omega) only[go_sem,q1,q2,q5,q8,hE9];exact⟨fun q h1 h2 h3=>by simp[h1],.nilsl,rfl,by simpa using aW.nil _ _ _ _⟩
    ·rintro i σ bx hi ⟨q1,q2,q5,q8,q9,q10,hkb,p',b9,op⟩;obtain⟨q,hq⟩:=aP hi;have hlti:(i:Int)<(x.parts.length:Int):=oM;have hi1:IntKind.i64.wrap ((i:Int)+1)=((i+1:Nat):Int):=aK oM;have c1:=(hkb 1 oM oM oM).trans b1;have hqd:q.d= .agg [.str q.cat,.int .i64 q.no,.str q.text]:=rfl;obtain⟨w1,w2,w3⟩:=op.facts;simp(disch:=omega) only[go_sem,q1,q2,q5,q8,q9,q10,hlt,hlti,c1,hgd,hx,hxd,hq,hqd];refine au (jm g.cats q.cat hcl) (by simp[go_sem,strs,cr]) ?_;simp(disch:=omega) only[go_sem,q1,q2,q5,q8,q9,q10,b9,w1,w2,w3];refine qe (op.of (by simp[ao])) sG (by simp;omega) oM oM oM fun z bx' h1 h2=>?_;obtain⟨w1,w2,w3⟩:=h1.facts;have d9:=(h2 9 oM).trans ((aA oM).trans ((aA oM).trans ((aA oM).trans b9)));simp(disch:=omega) only[go_sem,q1,q2,q5,q8,q9,q10,d9,w1,w2,w3,hi1];refine⟨fun r g1 g2 g3=>by rw[if_neg g1];exact(h2 r g3).trans (by simp(disch:=omega) only[aA];exact hkb r g1 g2 g3),z,rfl,?_⟩;rw[uF hq,List.map_append];exact h1.of (by simp[ao])
    ·rintro σ bx ⟨q1,q2,q5,q8,q9,q10,hkb,p',b9,op⟩;have hlti:¬(x.parts.length:Int)<(x.parts.length:Int):=oM;have c1:=(hkb 1 oM oM oM).trans b1;have c5:=(hkb 5 oM oM oM).trans b5;rw[List.take_of_length_le sI]at op;obtain⟨w1,w2,w3⟩:=op.facts;simp(disch:=omega) only[go_sem,q1,q2,q5,q8,q9,q10,hlt,hlti,c1,hgd,hx,hxd,b9,c5,v1,v2,v3,w1,w2,w3];rw[E2 (cO _ _ _)];simp only[Option.bind_some];have hll:=hw.len;simp at hll;refine eG (ts:=[144]) (xs:=l) (ol.of fun q hq=>by simp at hq;subst hq;exact(aA oM).trans (hkb 144 oM oM oM)) sI sG (by simp;omega) oM oM sI fun e' bx' h1 h2=>?_;have k5:=(h2 5 oM sI).trans ((aA oM).trans c5);have k1:=(h2 1 oM sI).trans ((aA oM).trans c1);have k2:=(h2 2 oM sI).trans ((aA oM).trans ((hkb 2 oM oM oM).trans b2));have k86:=(h2 86 oM sI).trans ((aA oM).trans (hkb 86 oM oM oM));have k138:=(h2 138 oM sI).trans (aA oM);simp(disch:=omega) only[go_sem,q1,q2,q5,q8,k5,k1,k2,hj1];generalize hB:ao bx' 5 _=B;have m138:B 138=bx 138:=by rw[<-hB];exact(aA oM).trans k138
     have m86:B 86=bx0 86:=by rw[<-hB];exact(aA oM).trans k86
     have m144:B 144=bx' 144:=by rw[<-hB];exact aA oM
     rw[h1]at m144;clear hB;refine⟨x',_,rfl,ov.of fun q hq=>by simp at hq;subst hq;exact m86,?_⟩;rw[uF hx,List.map_append];obtain⟨r,hr1,hr2,hr3⟩:=um (op.of (bx':=B) fun q hq=>by simp at hq;subst hq;exact m138) (iw _) (.refl _);refine oK.add (d':=.agg [.str x.cat,.int .i64 (eV g.cats x.cat),r,.sl 2 (x.gives.map ct.d),.int .i64 x.cost]) hw hpp m144 ?_ (by simp[D.pure,D.aF,hr3,kO]) rfl ?_ ?_
     ·simp only[oq,cQ,kx,hr1];simp[go_sem]
     ·intro k c c' hc hc'
      match k with
      |0=>simp[D.cells,nw,aC.d]at hc hc';subst hc;subst hc';exact .refl _
      |1=>simp[D.cells,nw,aC.d]at hc hc';subst hc;subst hc';exact .refl _
      |2=>simp[D.cells,nw,aC.d]at hc hc';subst hc;subst hc';simpa using hr2
      |3=>simp[D.cells,nw,aC.d]at hc hc';subst hc;subst hc';exact .refl _
      |4=>simp[D.cells,nw,aC.d]at hc hc';subst hc;subst hc';exact .refl _
      |k+5=>simp[D.cells]at hc
     ·intro q hq;simp only[names,bq,List.mem_append,List.not_mem_nil,false_or,or_false]at hq;have:=aW.names op q hq;simpa using this
   ·rintro σ bx ⟨q1,q2,q5,q8,b1,b2,x',y,b5,ov,hh⟩;have hlt:¬(g.rules.length:Int)<(g.rules.length:Int):=oM;obtain⟨bx0,hm,hk0,l,ol,hw,hpp⟩:=hh.dF (by decide);refine⟨bx0,?_,?_⟩
    ·rcases hm with rfl|⟨l,h1,h2,h3⟩
     ·exact .inl rfl
     ·exact .inr ⟨rfl,144,l,h1,h2,h3⟩
    clear hm hh;replace b1:=(hk0 1 oM oM).trans b1;replace b2:=(hk0 2 oM oM).trans b2;replace b5:=(hk0 5 oM oM).trans b5;replace ov:=ov.of (bx':=bx0) fun q hq=>hk0 q (by simp at hq;omega) (by simp at hq;omega);obtain⟨v1,v2,v3⟩:=ol.facts;obtain⟨w1,w2,w3⟩:=ov.facts;rw[List.take_of_length_le sI]at hw;simp(disch:=omega) only[go_sem,q1,q2,q5,q8,hlt,b1,b2,b5,v1,v2,v3,w1,w2,w3,hgd,ik];obtain⟨rE,hE1,hE2,-⟩:=um (ov.of (bx':=ao bx0 2 ⟨1,1,6,81,[.agg [.str g.name,.sl 1 (g.cats.map D.str),.str g.start,.int .i64 (eV g.cats g.start),x',y]]⟩) fun q hq=>by simp at hq;subst hq;exact aA oM) (qN _) (.refl _);obtain⟨rR,hR1,hR2,-⟩:=um (ol.of (bx':=ao bx0 2 ⟨1,1,6,81,[.agg [.str g.name,.sl 1 (g.cats.map D.str),.str g.start,.int .i64 (eV g.cats g.start),x',y]]⟩) fun q hq=>by simp at hq;subst hq;exact aA oM) hpp hw;refine⟨.tup [.agg [.str g.name,.sl 1 (g.cats.map D.str),.str g.start,.int .i64 (eV g.cats g.start),rE,rR],.int .i64 0],?_,gV (sT (.refl _) (.refl _) (.refl _) (.refl _) hE2 hR2) (.refl _)⟩;simp only[AG,oq,cQ,kx,hE1,hR1];simp[go_sem]
inductive Way(rs:List aC):ah->ah->Prop where
 |one {a b:ah} (h:Edge rs a b):Way rs a b
 |more {a b c:ah} (h:Way rs a b) (h2:Edge rs b c):Way rs a c
theorem Way.trans{rs:List aC}{a b c:ah}(h:Way rs a b)(h2:Way rs b c):Way rs a c:=by
 induction h2 with
 |one h2=>exact .more h h2
 |more _ h3 ih=>exact .more ih h3
theorem Way.first{rs:List aC}{a c:ah}(h:Way rs a c):∃b,Edge rs a b/\(b=c\/Way rs b c):=by
 induction h with
 |one h=>exact⟨_,h,.inl rfl⟩
 |more _ h2 ih=>
  obtain⟨b,h3,rfl|h4⟩:=ih
  ·exact⟨_,h3,.inr (.one h2)⟩
  ·exact⟨_,h3,.inr (.more h4 h2)⟩
def targets(rs:List aC):List ah:=rs.filterMap fun x=>(fG x).map (·.2)
structure tX(rs:List aC)(s:ah)(out todo:List ah):Prop where
 nodup:out.Nodup
 sub:∀t∈out,t∈targets rs
 way:∀t∈out,Way rs s t
 pend:∀c∈todo,c=s\/c∈out
 clos:∀c,(c=s\/c∈out)->c∉todo->∀d,Edge rs c d->d∈out
theorem yb(c:ah):∀(l:List aC) (p:List ah×List ah),∃m:List ah,l.foldl (push c) p=(p.1++m,p.2++m)/\(p.1.Nodup->(p.1++m).Nodup)/\(∀t∈m,∃x∈l,fG x=some (c,t))/\∀x∈l,∀t,fG x=some (c,t)->t∈p.1++m
 |[],p=>⟨[],by simp,by simp,by simp,by simp⟩
 |x::l,p=>by
  obtain⟨m0,h0,n0,e0,f0⟩:∃m0:List ah,push c p x=(p.1++m0,p.2++m0)/\(p.1.Nodup->(p.1++m0).Nodup)/\(∀t∈m0,fG x=some (c,t))/\∀t,fG x=some (c,t)->t∈p.1++m0:=by
   unfold push;cases he:fG x with
   |none=>exact⟨[],by simp,by simp,by simp,by simp⟩
   |some q=>
    obtain⟨a,d⟩:=q;dsimp only;by_cases hc:a=c/\¬d∈p.1
    ·rw[if_pos hc];refine⟨[d],rfl,fun hn=>?_,by simp[hc.1],fun t ht=>?_⟩
     ·rw[List.nodup_append];exact⟨hn,by simp,fun u hu v hv e=>by simp at hv;subst hv;subst e;exact hc.2 hu⟩
     ·simp at ht;simp[ht.2]
    ·rw[if_neg hc];refine⟨[],by simp,by simp,by simp,fun t ht=>?_⟩;simp only[Option.some.injEq,Prod.mk.injEq]at ht;have:d∈p.1:=Classical.byContradiction fun hn=>hc ⟨ht.1,hn⟩;rw[<-ht.2];simp[this]
  obtain⟨m,h1,n1,e1,f1⟩:=yb c l (push c p x);rw[List.foldl_cons,h1,h0];rw[h0]at n1 f1;refine⟨m0++m,by simp,fun hn=>by rw[<-List.append_assoc];exact n1 (n0 hn),fun t ht=>?_,fun y hy t hyt=>?_⟩
  ·rcases List.mem_append.1 ht with ht|ht
   ·exact⟨x,by simp,e0 t ht⟩
   ·obtain⟨y,hy,hyt⟩:=e1 t ht;exact⟨y,by simp[hy],hyt⟩
  ·rw[<-List.append_assoc];rcases List.mem_cons.1 hy with rfl|hy
   ·exact List.mem_append_left _ (f0 t hyt)
   ·exact f1 y hy t hyt
theorem oc{α:Type}[DecidableEq α]:∀ {l m:List α},l.Nodup->(∀x∈l,x∈m)->l.length<=m.length
 |[],m,_,_=>by simp
 |x::l,m,hn,h=>by
  simp only[List.nodup_cons]at hn;have hx:=h x sI;have h2:∀y∈l,y∈m.erase x:=fun y hy=>by
   have hne:y≠x:=by rintro rfl;exact hn.1 hy
   exact(List.mem_erase_of_ne hne).2 (h y (by simp[hy]))
  have:=oc hn.2 h2;rw[List.length_erase_of_mem hx]at this;have:=List.length_pos_of_mem hx;simp only[List.length_cons];omega
theorem tX.step{rs:List aC}{s c:ah}{out todo:List ah}(h:tX rs s out (c::todo)):∃m,rs.foldl (push c) (out,todo)=(out++m,todo++m)/\tX rs s (out++m) (todo++m):=by
 obtain⟨m,h1,h2,h3,h4⟩:=yb c rs (out,todo);dsimp only at h1 h2 h4;have hc:c=s\/c∈out:=h.pend c sI;have hm:∀t∈m,Edge rs c t:=fun t ht=>h3 t ht;refine⟨m,h1,h2 h.nodup,fun t ht=>?_,fun t ht=>?_,fun d hd=>?_,fun d hd hnt t het=>?_⟩
 ·rcases List.mem_append.1 ht with ht|ht
  ·exact h.sub t ht
  ·obtain⟨x,hx,hxt⟩:=h3 t ht;exact List.mem_filterMap.2 ⟨x,hx,by rw[hxt];rfl⟩
 ·rcases List.mem_append.1 ht with ht|ht
  ·exact h.way t ht
  ·rcases hc with rfl|hc
   ·exact .one (hm t ht)
   ·exact .more (h.way c hc) (hm t ht)
 ·rcases List.mem_append.1 hd with hd|hd
  ·rcases h.pend d (by simp[hd])with h|h
   ·exact .inl h
   ·exact .inr (List.mem_append_left _ h)
  ·exact .inr (List.mem_append_right _ hd)
 ·by_cases hdc:d=c
  ·subst hdc;obtain⟨x,hx,hxt⟩:=het;exact h4 x hx t hxt
  ·have hdo:d=s\/d∈out:=by
    rcases hd with hd|hd
    ·exact .inl hd
    ·rcases List.mem_append.1 hd with hd|hd
     ·exact .inr hd
     ·exact(hnt (List.mem_append_right _ hd)).elim
   exact List.mem_append_left _ (h.clos d hdo (by simp[hdc];exact fun hh=>hnt (List.mem_append_left _ hh)) t het)
theorem mg(rs:List aC):(targets rs).length<=rs.length:=List.length_filterMap_le _ _
theorem A0{rs:List aC}{s:ah}:∀(k:Nat) (out todo:List ah),tX rs s out todo->todo.length+rs.length<=k+out.length->tX rs s (run rs k (out,todo)) []
 |k,out,[],h,_=>by
  have:run rs k (out,[])=out:=by unfold run;rfl
  rw[this];exact h
 |0,out,c::todo,h,hk=>by
  have:=oc h.nodup h.sub;have:=mg rs;simp at hk;omega
 |k+1,out,c::todo,h,hk=>by
  obtain⟨m,h1,h2⟩:=h.step;rw[run,h1];refine A0 k _ _ h2 ?_;simp at hk⊢;omega
theorem qR(rs:List aC)(s:ah):tX rs s (ir rs s) []:=A0 _ _ _ ⟨.nil,by simp,by simp,by simp,fun c hc hn d he=>by
 rcases hc with rfl|hc
 ·simp at hn
 ·simp at hc⟩ (by simp;omega)
theorem F3(rs:List aC)(s:ah):(ir rs s).length<=rs.length:=Nat.le_trans (oc (qR rs s).nodup (qR rs s).sub) (mg rs)
theorem yd(rs:List aC)(s t:ah):t∈ir rs s<->Way rs s t:=by
 have h:=qR rs s;constructor
 ·exact h.way t
 ·intro hw;induction hw with
  |one he=>exact h.clos _ (.inl rfl) sI _ he
  |more _ he ih=>exact h.clos _ (.inr ih) sI _ he
theorem zU{rs:List aC}:∀(n:Nat) (F:List ah),F.length<=n->F≠[]->(∀c∈F,∃d∈F,Edge rs c d)->∃c∈F,Way rs c c
 |0,F,hl,hne,_=>(hne (List.eq_nil_of_length_eq_zero oM)).elim
 |n+1,F,hl,hne,h=>by
  obtain⟨c,hc⟩:=List.exists_mem_of_ne_nil F hne;by_cases hw:Way rs c c
  ·exact⟨c,hc,hw⟩
  ·have hd:DecidablePred fun d=>Way rs c d:=fun _=>Classical.propDecidable _;obtain⟨d,hd1,hd2⟩:=h c hc;have hlt:(F.filter fun d=>decide (Way rs c d)).length<F.length:=by
    have:=List.length_filter_le (fun d=>decide (Way rs c d)) F;by_cases he:(F.filter fun d=>decide (Way rs c d)).length=F.length
    ·have:=List.length_filter_eq_length_iff.1 he c hc;simp at this;exact(hw this).elim
    ·omega
   obtain⟨e,he,hee⟩:=zU (rs:=rs) n (F.filter fun d=>decide (Way rs c d)) oM
    (List.ne_nil_of_mem (a:=d) (List.mem_filter.2 ⟨hd1,decide_eq_true (.one hd2)⟩))
    (fun x hx=>by
     obtain⟨hx1,hx2⟩:=List.mem_filter.1 hx;obtain⟨y,hy,hxy⟩:=h x hx1;exact⟨y,List.mem_filter.2 ⟨hy,decide_eq_true (.more (of_decide_eq_true hx2) hxy)⟩,hxy⟩)
   exact⟨e,(List.mem_filter.1 he).1,hee⟩
theorem GM{g:aO}(T:Typed g):sZ g=kZ g:=by
 rw[Bool.eq_iff_iff,GN,sZ,List.any_eq_true];have hin:∀a b,Edge g.rules a b->a∈g.cats/\b∈g.cats:=by
  rintro a b ⟨x,hx,he⟩;unfold fG at he;split at he
  ·rename_i q hq;split at he
   ·rename_i ht;simp only[Option.some.injEq,Prod.mk.injEq]at he;rw[<-he.1,<-he.2];exact⟨List.contains_iff_mem.1 (T.rul x hx),List.contains_iff_mem.1 (T.part x hx q (by rw[hq];simp) ht)⟩
   ·cases he
  ·cases he
 constructor
 ·rintro⟨c,hc,h⟩;have hw:Way g.rules c c:=(yd _ _ _).1 (List.contains_iff_mem.1 h);have hd:DecidablePred fun d=>Way g.rules c d/\Way g.rules d c:=fun _=>Classical.propDecidable _;refine⟨g.cats.filter fun d=>decide (Way g.rules c d/\Way g.rules d c),List.ne_nil_of_mem (a:=c) (List.mem_filter.2 ⟨hc,decide_eq_true ⟨hw,hw⟩⟩),fun d hd=>oQ.2 ?_,fun x hx=>(List.mem_filter.1 hx).1⟩;obtain⟨hd1,hd2⟩:=List.mem_filter.1 hd;have hd3:=of_decide_eq_true hd2;obtain⟨e,he,hec⟩:=hd3.2.first;refine⟨e,List.mem_filter.2 ⟨(hin _ _ he).2,decide_eq_true ⟨.more hd3.1 he,?_⟩⟩,he⟩;rcases hec with rfl|hec
  ·exact hw
  ·exact hec
 ·rintro⟨F,h1,h2,h3⟩;obtain⟨c,hc,hw⟩:=zU _ F (Nat.le_refl _) h1 (fun c hc=>oQ.1 (h2 c hc));exact⟨c,h3 c hc,List.contains_iff_mem.2 ((yd _ _ _).2 hw)⟩
theorem Hk:cq []=false:=by simp[cq,fc]
theorem Ij{g:aO}(T:Typed g)(hf:g.cats.all cq=true)(hp:∀x∈g.rules,x.parts.all (jb g.cats.contains)=true):yU g=dA g:=by
 have hi:∀s,g.cats.contains s=true->eV g.cats s=num g.cats s:=fun s h=>by simp only[eV,num,h,if_true]
 have h1:g.entries.map (vY g.cats)=g.entries.map (lA g.cats):=List.map_congr_left fun x hx=>by simp only[vY,lA,hi _ (T.ent x hx)]
 have hnil:¬g.cats.contains []=true:=fun h=>by
  have:=List.all_eq_true.1 hf [] (List.contains_iff_mem.1 h);rw[Hk]at this;cases this
 have h2:g.rules.map (nw g.cats)=g.rules.map (gz g.cats):=List.map_congr_left fun x hx=>by
  have hps:x.parts.map (vZ g.cats)=x.parts.map (oA g.cats):=List.map_congr_left fun q hq=>by
   have hpq:=List.all_eq_true.1 (hp x hx) q hq;by_cases ht:q.text=[]
   ·have hc:=T.part x hx q hq ht;obtain⟨k,hk,_⟩:=Mx hc;simp only[vZ,oA,ht,if_true,hi _ hc]
    congr 1;omega
   ·simp[jb,ht]at hpq;simp only[vZ,oA,ht,if_false,hpq.1,eV,hnil];rfl
  simp only[nw,gz,hi _ (T.rul x hx),hps]
 simp only[yU,dA,h1,h2,hi _ T.start]
theorem BL(g:aO):gd g=bX g:=by
 unfold gd bX;split
 ·rfl
 ·rw[Gl];by_cases hn:g.cats.Nodup
  ·cases ht:eA g.cats.contains g
   ·simp[hn]
   ·have T:=Iw ht;have h1:g.cats.all cq=true:=by simp only[eA,Bool.and_eq_true]at ht;exact ht.2.2.1
    have h2:∀x∈g.rules,x.parts.all (jb g.cats.contains)=true:=fun x hx=>by
     simp only[eA,Bool.and_eq_true,List.all_eq_true]at ht;have:=ht.2.2.2.2.2 x hx;simp only[ft,Bool.and_eq_true]at this;exact this.2.2.2.2.1
    simp[hn,GM T,Ij T h1 h2]
  ·simp[hn]
end Go.V.Ty
