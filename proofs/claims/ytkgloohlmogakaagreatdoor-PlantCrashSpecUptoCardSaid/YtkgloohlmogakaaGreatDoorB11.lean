/- Plain laws: B11. -/
import Derived.Test.YtkgloohlmogakaaGreatDoorVD
import Derived.Test.YtkgloohlmogakaaGreatDoorSh
set_option linter.all false
set_option maxHeartbeats 8000000
set_option maxRecDepth 100000
namespace Go.Proofs
open Go.Shelf
end Go.Proofs
namespace Go.V.Lx
open Go.Proofs Go.Proofs.Tryz Go.RowKit
def mixed:prog.follows .mixedOrders=true:=ak
theorem ad4{w:World}{S:Nat->Prop}{vs:Array Value}{x y:D}(hl:vs.size=[x,y].length)(hv:∀(i:Nat) d v,[x,y][i]? =some d->vs[i]? =some v->bB w S d v):∃u v,vs= #[u,v]/\bB w S x u/\bB w S y v:=by
 obtain⟨l⟩:=vs
 match l,hl with
 |[u,v],_=>exact⟨u,v,rfl,hv 0 x u rfl rfl,hv 1 y v rfl rfl⟩
theorem Vg{w:World}{S:Nat->Prop}{vs:Array Value}{x:D}(hl:vs.size=[x].length)(hv:∀(i:Nat) d v,[x][i]? =some d->vs[i]? =some v->bB w S d v):∃u,vs= #[u]/\bB w S x u:=by
 obtain⟨l⟩:=vs
 match l,hl with
 |[u],_=>exact⟨u,rfl,hv 0 x u rfl rfl⟩
def iW{w:World}{S:Nat->Prop}{s:List UInt8}{v:Value}(h:bB w S (.str s) v):v= .string ⟨s.toArray⟩:=by cases h;rfl
def ed{w:World}{S:Nat->Prop}{k:IntKind}{n:Int}{v:Value}(h:bB w S (.int k n) v):v= .int k n:=by cases h;rfl
def of_same{P:Program}{f:FuncId}{w:World}{S:Nat->Prop}{vs:Array Value}{d:D}{r:Value}(he:(callFunc f vs).run P w= .ok (.enter f vs) w)(hd:∀w' S',bB w' S' d r)(h:Calls P f vs w fun e w'=>e= .returned r/\Below w.heap.size w w'):
 ((callFunc f vs).run P w= .ok (.enter f vs) w/\Calls P f vs w (fun e w'=>∃v,e= .returned v/\cI w S d v w'))\/(∃v w',(callFunc f vs).run P w= .ok (.value v) w'/\cI w S d v w'):=
 .inl ⟨he,Calls.mono h fun e w' ⟨h1,h2⟩=>⟨r,h1,hd _ _,h2⟩⟩
def same_below{w w':World}(h:w'=w):Below w.heap.size w w':=by rw[h];exact Below.refl _ _
def indexByte_c(s:List UInt8)(c:UInt8):ao prog 322 [.str s,.int .u8 (c.toNat:Int)] (.int .i64 (Lib.indexByte s c)):=by
 intro w S vs hS hg hl hv;obtain⟨u,v,rfl,hu,hv⟩:=ad4 hl hv;rw[iW hu,ed hv];refine of_same (Go.MuLone.run_callFunc_enter (fn:=f322) rfl ak rfl _ w) (fun _ _=> .int _ _) (Calls.mono (Any.strings_IndexByte Tryz.T4 _ _ w) fun e w' ⟨h1,h2⟩=>⟨?_,same_below h2⟩);rw[h1];simp
theorem glo_at{w:World}{S:Nat->Prop}{v:Value}{b:Nat}{d:D}(h:bB w S .fK v)(hg:Bt b=some d):bB w S (.cG d 0) (.pointer (some ⟨b,0,none⟩)):=by
 cases h with
 |fK _ h _=>exact h b d hg
theorem glo_cells{w:World}{S:Nat->Prop}{v:Value}{b:Nat}{cs:Array Value}(h:bB w S .fK v)(hg:Ls b=some cs):∃ty sp,w.heap[b]? =some (.cells cs ty sp):=by
 cases h with
 |fK _ _ h=>exact(h b cs hg).2
def fields_c(s:List UInt8)(hs:s.length<4294967281)(ha:∀b∈s,b.toNat<128):ao prog 309 [.str s] (.sl 1 ((Lib.fields s).map D.str)):=by
 intro w S vs hS hg hl hv;obtain⟨u,rfl,hu⟩:=Vg hl hv;rw[iW hu];obtain⟨ty,sp,hc⟩:=glo_cells (b:=0) hg rfl;have hn:prog.globalNamed "strings.asciiSpace"=some 0:=by kernel_rfl
 have ae3:Lib.TabIs prog w "strings.asciiSpace" .u8 Lib.asciiSpaceTab:=by simp only[Lib.TabIs,World.var?,hn,Option.bind_some,hc]
 refine .inl ⟨Go.MuLone.run_callFunc_enter (fn:=f309) rfl ak rfl _ w,Calls.mono (Any.strings_Fields Tryz.T5 ak hn ⟨s.toArray⟩ w (by show s.toArray.size<_;simpa using hs) (fun j b hb=>ha b (mG (by simpa using hb))) ae3) ?_⟩;rintro e w' ⟨h1,h2⟩;refine⟨_,h1,?_,by rw[h2];exact(Below.refl _ _).alloc (Nat.le_refl _) _⟩;rw[h2];show bB _ _ (.sl 1 ((Lib.fields s).map D.str)) (.slice _ (Lib.fields s).length (Lib.fields s).length);have jd:(Lib.fields s).length<=maxLen:=by
  have:=Lib.fields_length s;have h3:∀(l:List UInt8) (b:Bool),Lib.cntF b l<=l.length:=by
   intro l;induction l with
   |nil=>intro b;simp[Lib.cntF]
   |cons x l ih=>intro b;simp only[Lib.cntF,List.length_cons];have:=ih (Lib.isSp x);split<;>omega
  have:=h3 s true;simp only[maxLen];omega
 refine .sl (b:=w.heap.size) (off:=0) (us:=fun i _=> .string ⟨((Lib.fields s)[i]?.getD []).toArray⟩) sI (Nat.le_refl _) jd (fun _=>⟨rfl,.inr ⟨Nat.le_refl _,by simp⟩⟩) (fun i d hd=>?_) (fun i d j c hd hj=>?_) (fun i d j c hd hj=>?_) (fun i d j c hd hj=>?_)
 ·rw[gM,mS]at hd;obtain⟨x,_,rfl⟩:=hd;rfl
 ·rw[gM,mS]at hd;obtain⟨x,hx,rfl⟩:=hd;have WB:j=0:=by
   cases j with
   |zero=>rfl
   |succ j=>simp[D.cells]at hj
  subst WB;have ar:=(gS.1 hx).1;simp only[World.cell?,heap_alloc_new];simp[hx,ar,gE]
 ·rfl
 ·rw[gM,mS]at hd;obtain⟨x,hx,rfl⟩:=hd;have WB:j=0:=by
   cases j with
   |zero=>rfl
   |succ j=>simp[D.cells]at hj
  subst WB;simp only[D.cells,List.getElem?_cons_zero,sJ]at hj;subst hj;simp only[hx,Option.getD_some];exact .str x
end Go.V.Lx
namespace Go.V.Lx
open Go.Proofs Go.Proofs.Tryz Go.RowKit
structure Tok where
 k:Int
 t:List UInt8
 n:Int
 a:Int
 deriving DecidableEq
def Tok.d(x:Tok):D:=.agg [.int .i64 x.k,.str x.t,.int .i64 x.n,.int .i64 x.a]
def iJ:List UInt8:=[123,125,40,41,59,44,61,58,46,60,62,33,43,45,42,47]
def isLt(n:Int):Bool:=decide (97<=n)&&decide (n<=122)||decide (65<=n)&&decide (n<=90)
def y8(n:Int):Bool:=decide (48<=n)&&decide (n<=57)
def isSp(n:Int):Bool:=n==32||n==9||n==10||n==13
def LO(c:UInt8):Bool:=decide (0<=Lib.indexByte iJ c)
def cls(c:UInt8):Int:=if isLt c.toNat then 2 else if y8 c.toNat then 3 else if(c.toNat:Int)==95 then 5 else if isSp c.toNat then 1 else if LO c then 4 else 0
def ir(c:UInt8):Bool:=isLt c.toNat||y8 c.toNat||(c.toNat:Int)==95
def iI(s:List UInt8):Bool:=match s with
 |[]=>false
 |c::_=>decide (s.length<=32)&&isLt c.toNat&&s.all ir
def ab{x y:D}(h:x=y):bN x y:=h▸ .refl _
def bY{tab:List (Nat×List (Nat×Nat))}{base bk lo:Nat}{yl:Option (List (List D)×Nat×Nat)}{pn df:Bool}{P:Program}{bx:ae}{f:Nat}{ds:List D}{K2:Cl->D->ae->Prop}{d:D}(h:ao P f ds d)(hp:D.aF ds=true)(hk:K2 .n d bx):fD ⟨cJ P,tab,base,bk,lo,yl,pn,df⟩ f ds bx K2:=av h hp hk
def bZ{tab:List (Nat×List (Nat×Nat))}{base bk lo:Nat}{yl:Option (List (List D)×Nat×Nat)}{pn df:Bool}{P:Program}{tb:FuncId->Nat->List D->ae->(D->ae->Prop)->(D->ae->Prop)->Prop}{it:FuncId->List D->List (List D)->Nat->Prop}{ib:FuncId->Bx->List (List D)->Option D->Nat->Prop}{bx:ae}{f:Nat}{ds:List D}{K2:Cl->D->ae->Prop}{d:D}(h:ao P f ds d)(hp:D.aF ds=true)(hk:K2 .n d bx):fD ⟨⟨(cJ P).to,tb,it,ib⟩,tab,base,bk,lo,yl,pn,df⟩ f ds bx K2:=av h hp hk
end Go.V.Lx
namespace Go.V.Lx
open Go.Proofs Go.Proofs.Tryz Go.RowKit
def Ts(c:UInt8):qz prog (cJ prog) [] f278 [.int .u8 (c.toNat:Int)] (.int .i64 (cls c)):=by
 refine ax _ [.tmp 2] _ rfl rfl rfl ak ?_;have hx:Int.toNat (c.toNat:Int)=c.toNat:=by simp
 repeat' (first
  |with_reducible refine bh (fun _=>?_) (fun _=>?_)
  |with_reducible refine aZ (fun _=>?_) (fun _=>?_)
  |(refine av (indexByte_c iJ c) sG ?_)
  |simp(disch:=omega) only[go_sem, *])
 all_goals
  refine ab ?_;simp[cls,isLt,y8,isSp,LO, *]
def Ae(c:UInt8):ao prog 278 [.int .u8 (c.toNat:Int)] (.int .i64 (cls c)):=aw mixed (Ts c) rfl ak rfl
end Go.V.Lx
namespace Go.V.Lx
open Go.Proofs Go.Proofs.Tryz Go.RowKit
def ba{α:Type}{l:List α}{k:Nat}(h:k<l.length):∃x,l[k]? =some x:=⟨l[k],gE h⟩
def mf{α:Type}(p:α->Bool){l:List α}{k:Nat}{x:α}(hx:l[k]? =some x)(h:(l.take k).all p=true)(hp:p x=true):(l.take (k+1)).all p=true:=by
 rw[List.take_add_one,hx,List.all_append,h];simp[hp]
def pR{α:Type}(p:α->Bool){l:List α}{k:Nat}{x:α}(hx:l[k]? =some x)(hp:p x=false):l.all p=false:=by
 rw[List.all_eq_false];exact⟨x,mG hx,by simp[hp]⟩
def Ni(c:UInt8):decide (cls c=2)=isLt c.toNat:=by
 unfold cls;cases isLt c.toNat<;>cases y8 c.toNat<;>cases((c.toNat:Int)==95)<;>cases isSp c.toNat<;>cases LO c<;>rfl
def PK(c:UInt8):ir c=(decide (cls c=2)||decide (cls c=3)||decide (cls c=5)):=by
 unfold cls ir;cases isLt c.toNat<;>cases y8 c.toNat<;>cases((c.toNat:Int)==95)<;>cases isSp c.toNat<;>cases LO c<;>rfl
theorem Xz(s:List UInt8)(hs:s.length<=140737488355328):qz prog (cJ prog) [] f232 [.str s] (.bool (iI s)):=by
 refine ax _ [.tmp 2] _ rfl rfl rfl ak ?_
 match s,hs with
 |[],hs=>
  simp(disch:=omega) only[go_sem, *];exact .refl _
 |c::r,hs=>
  have hx:(c::r)[0]? =some c:=rfl;repeat' (first|with_reducible apply zJ<;>intro _|with_reducible refine bY (Ae c) sG ?_|with_reducible refine bZ (Ae c) sG ?_|simp(disch:=omega) only[go_sem, *])
  ·exact ab (by simp_all)
  ·refine ab ?_;have:¬(c::r).length<=32:=by simp only[List.length_cons];omega
   simp only[iI,this,decide_false,Bool.false_and]
  ·rename_i _ hle hc;have ar:isLt c.toNat=true:=by rw[<-Ni,hc];rfl
   have yX:iI (c::r)=(c::r).all ir:=by
    have:(c::r).length<=32:=by simp only[List.length_cons];omega
    simp only[iI,this,decide_true,ar,Bool.true_and]
   rw[yX];obtain⟨z,hz⟩:∃z,z=c::r:=⟨_,rfl⟩
   have hlen:z.length=r.length+1:=by rw[hz];rfl
   rw[<-hz];refine bo z.length (fun k σ _=>σ 0= .str z/\σ 19= .int .i64 ((r.length+1:Nat):Int)/\σ 20= .int .i64 k/\(z.take k).all ir=true)
    ⟨by simp[go_sem,bF,hz],by simp[go_sem],by simp[go_sem],by simp⟩ ?_ ?_
   ·clear hz yX;rintro k σ bx hk ⟨h0,NL,VT,hb⟩;obtain⟨x,hx⟩:=ba hk;simp(disch:=omega) only[go_sem,h0,NL,VT];refine yv oM ?_;have hp:=PK x;have bad:ir x=false->bN (D.bool false) (.bool (z.all ir)):=fun h=>ab (by rw[pR ir hx h]);have good:ir x=true->(z.take (k+1)).all ir=true:=fun h=>mf ir hx hb h;repeat' (first|with_reducible apply zJ<;>intro _|with_reducible refine bY (Ae x) sG ?_|with_reducible refine bZ (Ae x) sG ?_|simp(disch:=omega) only[go_sem, *])
    all_goals first
     |(rw[aE oM];exact⟨rfl,good (by rw[hp];simp[*])⟩)
     |exact bad (by rw[hp];simp[*])
     |trace_state
   ·rintro σ bx ⟨h0,NL,VT,hb⟩;simp(disch:=omega) only[go_sem,h0,NL,VT];refine GG oM ?_;simp(disch:=omega) only[go_sem];rw[tL]at hb;exact ab (by rw[hb])
  ·rename_i hc;refine ab ?_;have ar:isLt c.toNat=false:=by rw[<-Ni];simp[hc]
   simp only[iI,ar,Bool.and_false,Bool.false_and]
def Ox(s:List UInt8)(hs:s.length<=140737488355328):ao prog 232 [.str s] (.bool (iI s)):=aw mixed (Xz s hs) rfl ak rfl
end Go.V.Lx
namespace Go.V.Gr
open Go.Proofs Go.Proofs.Tryz Go.RowKit Go.V.Lx
abbrev ah:=List UInt8
structure Part where
 cat:ah
 no:Int
 text:ah
 deriving DecidableEq
structure dT where
 part:Int
 text:ah
 deriving DecidableEq
structure Entry where
 text:ah
 cat:ah
 no:Int
 aN:List ah
 cost:Int
 deriving DecidableEq
structure aH where
 cat:ah
 no:Int
 parts:List Part
 aN:List dT
 cost:Int
 deriving DecidableEq
structure aW where
 name:ah
 au:List ah
 start:ah
 no:Int
 entries:List Entry
 rules:List aH
 deriving DecidableEq
def aW.zero:aW:=⟨[],[],[],0,[],[]⟩
@[reducible] def strs(l:List ah):D:=.sl 1 (l.map D.str)
def Part.d(x:Part):D:=.agg [.str x.cat,.int .i64 x.no,.str x.text]
def dT.d(x:dT):D:=.agg [.int .i64 x.part,.str x.text]
def Entry.d(x:Entry):D:=.agg [.str x.text,.str x.cat,.int .i64 x.no,strs x.aN,.int .i64 x.cost]
def aH.d(x:aH):D:=.agg [.str x.cat,.int .i64 x.no,.sl 3 (x.parts.map Part.d),.sl 2 (x.aN.map dT.d),.int .i64 x.cost]
def aW.d(x:aW):D:=.agg [.str x.name,strs x.au,.str x.start,.int .i64 x.no,.sl 5 (x.entries.map Entry.d),.sl 5 (x.rules.map aH.d)]
def I3:ah:=[103,114,97,109,109,97,114]
def FP:ah:=[99,97,116,101,103,111,114,121]
def Pe:ah:=[115,116,97,114,116]
def Th:ah:=[119,111,114,100]
def wIs:ah:=[105,115]
def Pd:ah:=[103,105,118,101,115]
def Tf:ah:=[99,111,115,116]
def Tg:ah:=[114,117,108,101]
def wA:List ah:=[I3,FP,Pe,Th,wIs,Pd,Tf,Tg]
theorem y6:∀(l:List ah) (k:Nat) (x:ah),l[k]? =some x->x∉l.take k->l.idxOf x=k/\x∈l
 |[],k,x,h,_=>by simp at h
 |y::l,0,x,h,_=>by simp at h;subst h;simp
 |y::l,k+1,x,h,hn=>by
  simp only[List.take_succ_cons,List.mem_cons,not_or]at hn;obtain⟨h1,h2⟩:=y6 l k x (by simpa using h) hn.2;exact⟨by
  have hb:(y==x)=false:=by simpa using Ne.symm hn.1
  rw[List.idxOf_cons,hb,h1];rfl,List.mem_cons_of_mem _ h2⟩
def TY(l:List ah)(t:ah)(hl:l.length<=140737488355328):qz prog (cJ prog) [] f333 [strs l,.str t] (.int .i64 (if l.contains t then(l.idxOf t:Int)else -1)):=by
 refine ax _ [.tmp 4] _ rfl rfl rfl ak ?_;simp(disch:=omega) only[go_sem,strs];refine bo l.length (fun k σ bx=>σ 0=strs l/\σ 1= .str t/\σ 7= .int .i64 l.length/\σ 8= .int .i64 k/\¬t∈l.take k) ?_ ?_ ?_
 ·simp[go_sem,bF,strs]
 ·rintro k σ bx hk ⟨h0,h1,h7,h8,hn⟩;obtain⟨x,hx⟩:=ba hk;have ar:(k:Int)<(l.length:Int):=oM;repeat' (first|with_reducible apply zJ<;>intro _|simp(disch:=omega) only[go_sem, *,h0,h1,h7,h8,ar,strs,hx])
  ·rename_i eO;subst eO;obtain⟨g1,g2⟩:=y6 l k _ hx hn;exact ab (by rw[if_pos (by simpa using g2),g1])
  ·rename_i bw;rw[aE oM];refine⟨rfl,fun hm=>?_⟩;rw[List.take_add_one,hx]at hm;simp at hm;rcases hm with hm|hm
   ·exact hn hm
   ·exact bw hm
 ·rintro σ bx ⟨h0,h1,h7,h8,hn⟩;have ar:¬(l.length:Int)<(l.length:Int):=oM;repeat' (first|with_reducible apply zJ<;>intro _|simp(disch:=omega) only[go_sem, *,h0,h1,h7,h8,ar])
  rw[tL]at hn;exact ab (by rw[if_neg (by simpa using hn)])
def oc(l:List ah):D.aF (l.map D.str)=true:=rV _ _ fun _=>by simp[D.pure]
def TX(l:List ah)(t:ah)(hl:l.length<=140737488355328):ao prog 333 [strs l,.str t] (.int .i64 (if l.contains t then(l.idxOf t:Int)else -1)):=aw mixed (TY l t hl) rfl ak rfl
def Le(l:List ah)(t:ah)(hl:l.length<=140737488355328):qz prog (cJ prog) [] f308 [strs l,.str t] (.bool (l.contains t)):=by
 refine ax _ [.tmp 4] _ rfl rfl rfl ak ?_;simp(disch:=omega) only[go_sem];refine av (TX l t hl) (by simp[go_sem,strs,oc]) ?_;simp(disch:=omega) only[go_sem];refine ab (congrArg D.bool ?_);cases h:l.contains t
 ·simp
 ·simp
def GH(l:List ah)(t:ah)(hl:l.length<=140737488355328):ao prog 308 [strs l,.str t] (.bool (l.contains t)):=aw mixed (Le l t hl) rfl ak rfl
structure Sz(g:aW):Prop where
 au:g.au.length<=140737488355328
 ew:g.entries.length<=140737488355328
 ruls:g.rules.length<=140737488355328
 ent:∀x∈g.entries,x.aN.length<=140737488355328
 Yb:∀x∈g.rules,x.parts.length<=140737488355328/\x.aN.length<=140737488355328
def zD:∀l:List Part,D.aF (l.map Part.d)=true:=fun l=>rV _ _ fun _=>rfl
def ON:∀l:List dT,D.aF (l.map dT.d)=true:=fun l=>rV _ _ fun _=>rfl
def BM:∀l:List Entry,D.aF (l.map Entry.d)=true:=fun l=>rV _ _ fun x=>by simp[Entry.d,D.pure,D.aF,strs,oc]
def Im:∀l:List aH,D.aF (l.map aH.d)=true:=fun l=>rV _ _ fun x=>by simp[aH.d,D.pure,D.aF,zD,ON]
def kW(g:aW):g.d.pure=true:=by simp[aW.d,D.pure,D.aF,strs,oc,BM,Im]
def tB{α:Type}[DecidableEq α]{l m:List α}{k:Nat}{x y:α}(hx:l[k]? =some x)(hy:m[k]? =some y)(h:l.take k=m.take k)(e:x=y):l.take (k+1)=m.take (k+1):=by rw[List.take_add_one,List.take_add_one,h,hx,hy,e]
def P4(l m:List Part)(hl:l.length<=140737488355328)(hm:m.length<=140737488355328):qz prog (cJ prog) [] f177 [.sl 3 (l.map Part.d),.sl 3 (m.map Part.d)] (.bool (decide (l=m))):=by
 refine ax _ [.tmp 4] _ rfl rfl rfl ak ?_;simp(disch:=omega) only[go_sem];refine bh (fun h1=>?_) (fun h1=>?_)
 ·have h1:l.length=m.length:=oM;simp(disch:=omega) only[go_sem];refine bo l.length (fun k σ bx=>σ 0= .sl 3 (l.map Part.d)/\σ 1= .sl 3 (m.map Part.d)/\σ 12= .int .i64 l.length/\σ 13= .int .i64 k/\l.take k=m.take k) ?_ ?_ ?_
  ·simp[go_sem,bF]
  ·rintro k σ bx hk ⟨h0,ly,h7,h8,hn⟩;obtain⟨x,hx⟩:=ba hk;obtain⟨y,hy⟩:=ba (show k<m.length by omega);have ar:(k:Int)<(l.length:Int):=oM;have wZ:(k:Int)<(m.length:Int):=oM;obtain⟨a,b,c⟩:=x;obtain⟨a',b',c'⟩:=y;repeat' (first|with_reducible apply zJ<;>intro _|simp(disch:=omega) only[go_sem, *,h0,ly,h7,h8,ar,wZ,hx,hy,Part.d])
   all_goals first
    |(rename_i mu;rw[aE oM];exact⟨rfl,tB hx hy hn (by simpa using mu)⟩)
    |(
     rename_i mu;refine ab (congrArg D.bool ?_);refine(decide_eq_false fun e=>?_).symm;rw[e,hy]at hx;injection hx with hx;injection hx
     subst_vars
     simp at mu)
  ·rintro σ bx ⟨h0,ly,h7,h8,hn⟩;have ar:¬(l.length:Int)<(l.length:Int):=oM;simp(disch:=omega) only[go_sem,h0,ly,h7,h8,ar];rw[tL,h1,tL]at hn;exact ab (congrArg D.bool (decide_eq_true hn).symm)
 ·have:¬l=m:=fun e=>h1 (by rw[e]);exact ab (congrArg D.bool (decide_eq_false this).symm)
def P3(l m:List Part)(hl:l.length<=140737488355328)(hm:m.length<=140737488355328):ao prog 177 [.sl 3 (l.map Part.d),.sl 3 (m.map Part.d)] (.bool (decide (l=m))):=aw mixed (P4 l m hl hm) rfl ak rfl
end Go.V.Gr
namespace Go.V.Ty
open Go.Proofs Go.Proofs.Tryz Go.RowKit Go.V.Lx Go.V.Gr
def ux{f:FuncId}{ds:List D}{d:D}(h:ao prog f ds d)(hp:D.aF ds=true)(bx:ae):bj prog f 0 ds bx (fun d' bx'=>d'=d/\bx'=bx) (fun _ _=>False):=by
 intro X ρ σ a w vs hS mA hl hv;exact(h.carried (S:=az X ρ bx w) (fun b hb=>hb.1) (hS.fK.fC rfl) hl (fun i x v hx aX=>(hv i x v hx aX).fC (u9 _ hp i x hx)) fun v w' hp=>⟨d,bx,ρ,⟨rfl,rfl⟩,hS.VN hp⟩).fC
def cp{α:Type}(f:FuncId)(caps:List D)(n0 k:Nat)(bx0:ae)(enc:α->D)(bO:α->Prop)(p:α->Bool):Prop:=
 ∀(bx:ae) (x:α),(∀s,s<n0->bx s=bx0 s)->bO x->bj prog f 0 (enc x::caps) bx (fun d bx'=>d= .bool (p x)/\∀s,s<k->bx' s=bx s) (fun _ _=>False)
theorem cp.agree{α:Type}{f:FuncId}{caps:List D}{n0 k:Nat}{bx0 bx1:ae}{enc:α->D}{bO:α->Prop}{p:α->Bool}(h:cp f caps n0 k bx0 enc bO p)(hb:∀s,s<n0->bx1 s=bx0 s):cp f caps n0 k bx1 enc bO p:=
 fun bx x hs hd=>h bx x (fun s eb=>(hs s eb).trans (hb s eb)) hd
theorem cp.of{α:Type}{f:FuncId}{enc:α->D}{bO:α->Prop}{p:α->Bool}(h:∀x,bO x->ao prog f [enc x] (.bool (p x)))(hp:∀x,(enc x).pure=true)(k:Nat)(bx0:ae):cp f [] 0 k bx0 enc bO p:=
 fun bx x _ hd=>(ux (h x hd) (by simp[D.aF,hp]) bx).mono (fun d bx' ⟨h1,h2⟩=>⟨h1,fun s _=>by rw[h2]⟩) (fun _ _ h=>h)
def fk{α:Type}(p:α->Bool)(l:List α):Int:=match l.findIdx? p with
 |some i=>i
 |none=> -1
theorem JU{α:Type}(p:α->Bool):∀(l:List α) (j:Nat) (x:α),(l.take j).any p=false->l[j]? =some x->p x=true->l.findIdx? p=some j
 |[],j,x,_,h,_=>by simp at h
 |y::l,0,x,_,h,hp=>by simp at h;subst h;simp[List.findIdx?_cons,hp]
 |y::l,j+1,x,hn,h,hp=>by
  simp only[List.take_succ_cons,List.any_cons,Bool.or_eq_false_iff]at hn;have:=JU p l j x hn.2 (by simpa using h) hp;simp[List.findIdx?_cons,hn.1,this]
def mD{α:Type}{p:α->Bool}{l:List α}{j:Nat}{x:α}(h:(l.take j).any p=false)(hx:l[j]? =some x)(hp:p x=true):fk p l=j:=by simp only[fk,JU p l j x h hx hp]
def jQ{α:Type}{p:α->Bool}{l:List α}(h:l.any p=false):fk p l= -1:=by
 have:l.findIdx? p=none:=by
  rw[List.findIdx?_eq_none_iff];intro x hx;rw[List.any_eq_false]at h;simpa using h x hx
 simp only[fk,this]
theorem jK{α:Type}(p:α->Bool)(l:List α):decide (0<=fk p l)=l.any p:=by
 cases h:l.any p with
 |false=>rw[jQ h];rfl
 |true=>
  unfold fk;cases hf:l.findIdx? p with
  |none=>
   rw[List.findIdx?_eq_none_iff]at hf;rw[List.any_eq_true]at h;obtain⟨x,hx,hp⟩:=h;rw[hf x hx]at hp;cases hp
  |some i=>simp
def lp{α:Type}{p:α->Bool}{l:List α}{j:Nat}{x:α}(h:(l.take j).any p=false)(hx:l[j]? =some x)(hp:p x=false):(l.take (j+1)).any p=false:=by
 rw[List.take_add_one,hx,List.any_append,h];simp[hp]
theorem mF{α:Type}(p:α->Bool)(l:List α):(l.any fun x=> !p x)= !l.all p:=by
 induction l with
 |nil=>rfl
 |cons x l ih=>simp[List.any_cons,List.all_cons,ih,Bool.not_and]
section
variable {f:FuncId} {caps:List D} {n0 k:Nat} {bx0:ae}
def Xj{bO:ah->Prop}{p:ah->Bool}(hf:cp f caps n0 k bx0 D.str bO p)(hn:n0<=k)(l:List ah)(hl:l.length<=140737488355328)(hd:∀x∈l,bO x)(bx:ae)(hb:∀s,s<n0->bx s=bx0 s):
 mn prog (cJ prog) [] f321 0 [.sl 1 (l.map D.str),.fn (.func f) caps] bx (fun d bx'=>d= .int .i64 (fk p l)/\∀s,s<k->bx' s=bx s) (fun _ _=>False):=by
 refine aL _ [.tmp 4] 19 rfl rfl rfl ak ?_;simp(disch:=omega) only[go_sem];refine bo l.length (fun j σ bx'=>σ 0= .sl 1 (l.map D.str)/\σ 1= .fn (.func f) caps/\σ 7= .int .i64 l.length/\σ 8= .int .i64 j/\(l.take j).any p=false/\∀s,s<k->bx' s=bx s)
  ⟨by simp[go_sem,bF],by simp[go_sem,bF],by simp[go_sem],by simp[go_sem],by simp,fun _ _=>rfl⟩ ?_ ?_
 ·rintro j σ bx' hj ⟨h0,h1,h7,h8,hp,hk⟩;obtain⟨x,hx⟩:=ba hj;have ar:(j:Int)<(l.length:Int):=oM;simp(disch:=omega) only[go_sem,h0,h1,h7,h8,ar,hx];refine aC (hf bx' x (fun s hs=>(hk s oM).trans (hb s hs)) (hd x (mG hx))) rfl ?_;rintro d bK ⟨rfl,bR⟩;simp(disch:=omega) only[go_sem];refine aZ (fun hc=>?_) (fun hc=>?_)
  ·simp(disch:=omega) only[go_sem];exact⟨by rw[mD hp hx hc],fun s hs=>(bR s hs).trans (hk s hs)⟩
  ·simp(disch:=omega) only[go_sem,h0,h1,h7,h8];rw[aE oM];exact⟨rfl,lp hp hx hc,fun s hs=>(bR s hs).trans (hk s hs)⟩
 ·rintro σ bx' ⟨h0,h1,h7,h8,hp,hk⟩;have ar:¬(l.length:Int)<(l.length:Int):=oM;simp(disch:=omega) only[go_sem,h7,h8,ar];rw[tL]at hp;exact⟨by rw[jQ hp],hk⟩
def Xi{bO:ah->Prop}{p:ah->Bool}(hf:cp f caps n0 k bx0 D.str bO p)(hn:n0<=k)(l:List ah)(hl:l.length<=140737488355328)(hd:∀x∈l,bO x)(bx:ae)(hb:∀s,s<n0->bx s=bx0 s):
 bj prog 321 0 [.sl 1 (l.map D.str),.fn (.func f) caps] bx (fun d bx'=>d= .int .i64 (fk p l)/\∀s,s<k->bx' s=bx s) (fun _ _=>False):=aK mixed (Xj hf hn l hl hd bx hb) rfl ak rfl
def We{bO:ah->Prop}{p:ah->Bool}(hf:cp f caps n0 k bx0 D.str bO p)(hn:n0<=k)(l:List ah)(hl:l.length<=140737488355328)(hd:∀x∈l,bO x)(bx:ae)(hb:∀s,s<n0->bx s=bx0 s):
 mn prog (cJ prog) [] f277 0 [.sl 1 (l.map D.str),.fn (.func f) caps] bx (fun d bx'=>d= .bool (l.any p)/\∀s,s<k->bx' s=bx s) (fun _ _=>False):=by
 refine aL _ [.tmp 4] 9 rfl rfl rfl ak ?_;simp(disch:=omega) only[go_sem];refine aC (Xi hf hn l hl hd bx hb) rfl ?_;rintro d bK ⟨rfl,bR⟩;simp(disch:=omega) only[go_sem];exact⟨by rw[jK],bR⟩
def Wd{bO:ah->Prop}{p:ah->Bool}(hf:cp f caps n0 k bx0 D.str bO p)(hn:n0<=k)(l:List ah)(hl:l.length<=140737488355328)(hd:∀x∈l,bO x)(bx:ae)(hb:∀s,s<n0->bx s=bx0 s):
 bj prog 277 0 [.sl 1 (l.map D.str),.fn (.func f) caps] bx (fun d bx'=>d= .bool (l.any p)/\∀s,s<k->bx' s=bx s) (fun _ _=>False):=aK mixed (We hf hn l hl hd bx hb) rfl ak rfl
def XH{q e ty:Nat}{bO:ah->Prop}{p:ah->Bool}(hf:cp f caps n0 k bx0 D.str bO p)(hq:bx0 q=⟨e,1,1,ty,[.fn (.func f) caps]⟩)(hn:n0<=q+1)(hk:q+3<=k):cp 312 [.loc q e 0 0] (q+1) (q+3) bx0 D.str bO fun x=> !p x:=by
 intro bx x hb hd;refine aK mixed (fn:=f312) (tab:=[]) (base:=q+1) ?_ rfl ak rfl;refine aL _ [.tmp 3] 8 rfl rfl rfl ak ?_;have CM:=(hb q oM).trans hq;simp(disch:=omega) only[go_sem,CM];refine aC (hf _ x (fun s hs=>?_) hd) rfl ?_
 ·first|exact hb s oM|(rw[aD oM];exact hb s oM)
 rintro d bK ⟨rfl,bR⟩;simp(disch:=omega) only[go_sem];first
  |exact fun s hs=>bR s oM
  |exact fun s hs=>(bR s oM).trans (by rw[aD oM])
def Vc(B:Nat){bO:ah->Prop}{p:ah->Bool}(hf:cp f caps n0 k bx0 D.str bO p)(hn:n0<=B)(hk:B+17<=k)(l:List ah)(hl:l.length<=140737488355328)(hd:∀x∈l,bO x)(bx:ae)(hb:∀s,s<n0->bx s=bx0 s):
 mn prog (cJ prog) [] f267 B [.fn (.func f) caps,.sl 1 [.sl 1 (l.map D.str)]] bx (fun d bx'=>d= .bool (l.all p)/\∀s,s<B->bx' s=bx s) (fun _ _=>False):=by
 refine aL _ [.tmp 4] 17 rfl rfl rfl ak ?_;simp(disch:=omega) only[go_sem];obtain⟨e,he⟩:∃e,(bx (B+2)).ep+1=e:=⟨_,rfl⟩
 rw[he];refine bo 1 (fun j σ bx'=>σ 2= .loc (B+2) e 0 0/\σ 7= .sl 1 [.sl 1 (l.map D.str)]/\σ 8= .int .i64 1/\σ 9= .int .i64 j/\(0<j->l.all p=true)/\bx' (B+2)=⟨e,1,1,315,[.fn (.func f) caps]⟩/\∀s,s<B->bx' s=bx s)
  ⟨by simp[go_sem,bF],by simp[go_sem,bF],by simp[go_sem],by simp[go_sem],by simp,by simp[aj],fun s hs=>by simp[aj,Nat.ne_of_lt (Nat.lt_add_right 2 hs)]⟩ ?_ ?_
 ·rintro j σ bx' hj ⟨h2,h7,h8,h9,hp,hq,cW⟩;obtain rfl:j=0:=oM;simp(disch:=omega) only[go_sem,h2,h7,h8,h9,Int.natCast_zero,Int.reduceLT];refine aC (Wd (XH (hf.agree (bx1:=bx') fun s hs=>(cW s oM).trans (hb s hs)) hq oM oM) oM l hl hd bx' fun _ _=>rfl) rfl ?_;rintro d bK ⟨rfl,bR⟩;simp(disch:=omega) only[go_sem];refine aZ (fun hc=>?_) (fun hc=>?_)
  ·simp(disch:=omega) only[go_sem];rw[mF]at hc;refine⟨?_,fun s hs=>(bR s oM).trans (cW s hs)⟩;rw[show l.all p=false by simpa using hc]
  ·simp(disch:=omega) only[go_sem,h2,h7,h8,h9];rw[mF]at hc;refine⟨rfl,fun _=>by simpa using hc,by rw[bR _ oM];exact hq,fun s hs=>(bR s oM).trans (cW s hs)⟩
 ·rintro σ bx' ⟨h2,h7,h8,h9,hp,hq,cW⟩;have h9:σ 9= .int .i64 (1:Int):=h9;simp(disch:=omega) only[go_sem,h8,h9,Int.reduceLT];exact⟨by rw[hp oM],cW⟩
def Vb(B:Nat){bO:ah->Prop}{p:ah->Bool}(hf:cp f caps n0 k bx0 D.str bO p)(hn:n0<=B)(hk:B+17<=k)(l:List ah)(hl:l.length<=140737488355328)(hd:∀x∈l,bO x)(bx:ae)(hb:∀s,s<n0->bx s=bx0 s):
 bj prog 267 0 [.fn (.func f) caps,.sl 1 [.sl 1 (l.map D.str)]] bx (fun d bx'=>d= .bool (l.all p)/\∀s,s<B->bx' s=bx s) (fun _ _=>False):=aK (base:=B) mixed (Vc B hf hn hk l hl hd bx hb) rfl ak rfl
def Xf{bO:Part->Prop}{p:Part->Bool}(hf:cp f caps n0 k bx0 Part.d bO p)(hn:n0<=k)(l:List Part)(hl:l.length<=140737488355328)(hd:∀x∈l,bO x)(bx:ae)(hb:∀s,s<n0->bx s=bx0 s):
 mn prog (cJ prog) [] f337 0 [.sl 3 (l.map Part.d),.fn (.func f) caps] bx (fun d bx'=>d= .int .i64 (fk p l)/\∀s,s<k->bx' s=bx s) (fun _ _=>False):=by
 refine aL _ [.tmp 4] 19 rfl rfl rfl ak ?_;simp(disch:=omega) only[go_sem];refine bo l.length (fun j σ bx'=>σ 0= .sl 3 (l.map Part.d)/\σ 1= .fn (.func f) caps/\σ 7= .int .i64 l.length/\σ 8= .int .i64 j/\(l.take j).any p=false/\∀s,s<k->bx' s=bx s)
  ⟨by simp[go_sem,bF],by simp[go_sem,bF],by simp[go_sem],by simp[go_sem],by simp,fun _ _=>rfl⟩ ?_ ?_
 ·rintro j σ bx' hj ⟨h0,h1,h7,h8,hp,hk⟩;obtain⟨x,hx⟩:=ba hj;have ar:(j:Int)<(l.length:Int):=oM;simp(disch:=omega) only[go_sem,h0,h1,h7,h8,ar,hx,Part.d];refine aC (hf bx' x (fun s hs=>(hk s oM).trans (hb s hs)) (hd x (mG hx))) rfl ?_;rintro d bK ⟨rfl,bR⟩;simp(disch:=omega) only[go_sem];refine aZ (fun hc=>?_) (fun hc=>?_)
  ·simp(disch:=omega) only[go_sem];exact⟨by rw[mD hp hx hc],fun s hs=>(bR s hs).trans (hk s hs)⟩
  ·simp(disch:=omega) only[go_sem,h0,h1,h7,h8];rw[aE oM];exact⟨rfl,lp hp hx hc,fun s hs=>(bR s hs).trans (hk s hs)⟩
 ·rintro σ bx' ⟨h0,h1,h7,h8,hp,hk⟩;have ar:¬(l.length:Int)<(l.length:Int):=oM;simp(disch:=omega) only[go_sem,h7,h8,ar];rw[tL]at hp;exact⟨by rw[jQ hp],hk⟩
def Xe{bO:Part->Prop}{p:Part->Bool}(hf:cp f caps n0 k bx0 Part.d bO p)(hn:n0<=k)(l:List Part)(hl:l.length<=140737488355328)(hd:∀x∈l,bO x)(bx:ae)(hb:∀s,s<n0->bx s=bx0 s):
 bj prog 337 0 [.sl 3 (l.map Part.d),.fn (.func f) caps] bx (fun d bx'=>d= .int .i64 (fk p l)/\∀s,s<k->bx' s=bx s) (fun _ _=>False):=aK mixed (Xf hf hn l hl hd bx hb) rfl ak rfl
def Wb{bO:Part->Prop}{p:Part->Bool}(hf:cp f caps n0 k bx0 Part.d bO p)(hn:n0<=k)(l:List Part)(hl:l.length<=140737488355328)(hd:∀x∈l,bO x)(bx:ae)(hb:∀s,s<n0->bx s=bx0 s):
 mn prog (cJ prog) [] f313 0 [.sl 3 (l.map Part.d),.fn (.func f) caps] bx (fun d bx'=>d= .bool (l.any p)/\∀s,s<k->bx' s=bx s) (fun _ _=>False):=by
 refine aL _ [.tmp 4] 9 rfl rfl rfl ak ?_;simp(disch:=omega) only[go_sem];refine aC (Xe hf hn l hl hd bx hb) rfl ?_;rintro d bK ⟨rfl,bR⟩;simp(disch:=omega) only[go_sem];exact⟨by rw[jK],bR⟩
def Wa{bO:Part->Prop}{p:Part->Bool}(hf:cp f caps n0 k bx0 Part.d bO p)(hn:n0<=k)(l:List Part)(hl:l.length<=140737488355328)(hd:∀x∈l,bO x)(bx:ae)(hb:∀s,s<n0->bx s=bx0 s):
 bj prog 313 0 [.sl 3 (l.map Part.d),.fn (.func f) caps] bx (fun d bx'=>d= .bool (l.any p)/\∀s,s<k->bx' s=bx s) (fun _ _=>False):=aK mixed (Wb hf hn l hl hd bx hb) rfl ak rfl
def XF{q e ty:Nat}{bO:Part->Prop}{p:Part->Bool}(hf:cp f caps n0 k bx0 Part.d bO p)(hq:bx0 q=⟨e,1,1,ty,[.fn (.func f) caps]⟩)(hn:n0<=q+1)(hk:q+3<=k):cp 314 [.loc q e 0 0] (q+1) (q+3) bx0 Part.d bO fun x=> !p x:=by
 intro bx x hb hd;refine aK mixed (fn:=f314) (tab:=[]) (base:=q+1) ?_ rfl ak rfl;refine aL _ [.tmp 3] 8 rfl rfl rfl ak ?_;have CM:=(hb q oM).trans hq;simp(disch:=omega) only[go_sem,CM,Part.d];refine aC (hf _ x (fun s hs=>?_) hd) rfl ?_
 ·first|exact hb s oM|(rw[aD oM];exact hb s oM)
 rintro d bK ⟨rfl,bR⟩;simp(disch:=omega) only[go_sem];first
  |exact fun s hs=>bR s oM
  |exact fun s hs=>(bR s oM).trans (by rw[aD oM])
def U9(B:Nat){bO:Part->Prop}{p:Part->Bool}(hf:cp f caps n0 k bx0 Part.d bO p)(hn:n0<=B)(hk:B+17<=k)(l:List Part)(hl:l.length<=140737488355328)(hd:∀x∈l,bO x)(bx:ae)(hb:∀s,s<n0->bx s=bx0 s):
 mn prog (cJ prog) [] f270 B [.fn (.func f) caps,.sl 1 [.sl 3 (l.map Part.d)]] bx (fun d bx'=>d= .bool (l.all p)/\∀s,s<B->bx' s=bx s) (fun _ _=>False):=by
 refine aL _ [.tmp 4] 17 rfl rfl rfl ak ?_;simp(disch:=omega) only[go_sem];obtain⟨e,he⟩:∃e,(bx (B+2)).ep+1=e:=⟨_,rfl⟩
 rw[he];refine bo 1 (fun j σ bx'=>σ 2= .loc (B+2) e 0 0/\σ 7= .sl 1 [.sl 3 (l.map Part.d)]/\σ 8= .int .i64 1/\σ 9= .int .i64 j/\(0<j->l.all p=true)/\bx' (B+2)=⟨e,1,1,350,[.fn (.func f) caps]⟩/\∀s,s<B->bx' s=bx s)
  ⟨by simp[go_sem,bF],by simp[go_sem,bF],by simp[go_sem],by simp[go_sem],by simp,by simp[aj],fun s hs=>by simp[aj,Nat.ne_of_lt (Nat.lt_add_right 2 hs)]⟩ ?_ ?_
 ·rintro j σ bx' hj ⟨h2,h7,h8,h9,hp,hq,cW⟩;obtain rfl:j=0:=oM;simp(disch:=omega) only[go_sem,h2,h7,h8,h9,Int.natCast_zero,Int.reduceLT];refine aC (Wa (XF (hf.agree (bx1:=bx') fun s hs=>(cW s oM).trans (hb s hs)) hq oM oM) oM l hl hd bx' fun _ _=>rfl) rfl ?_;rintro d bK ⟨rfl,bR⟩;simp(disch:=omega) only[go_sem];refine aZ (fun hc=>?_) (fun hc=>?_)
  ·simp(disch:=omega) only[go_sem];rw[mF]at hc;refine⟨?_,fun s hs=>(bR s oM).trans (cW s hs)⟩;rw[show l.all p=false by simpa using hc]
  ·simp(disch:=omega) only[go_sem,h2,h7,h8,h9];rw[mF]at hc;refine⟨rfl,fun _=>by simpa using hc,by rw[bR _ oM];exact hq,fun s hs=>(bR s oM).trans (cW s hs)⟩
 ·rintro σ bx' ⟨h2,h7,h8,h9,hp,hq,cW⟩;have h9:σ 9= .int .i64 (1:Int):=h9;simp(disch:=omega) only[go_sem,h8,h9,Int.reduceLT];exact⟨by rw[hp oM],cW⟩
def U8(B:Nat){bO:Part->Prop}{p:Part->Bool}(hf:cp f caps n0 k bx0 Part.d bO p)(hn:n0<=B)(hk:B+17<=k)(l:List Part)(hl:l.length<=140737488355328)(hd:∀x∈l,bO x)(bx:ae)(hb:∀s,s<n0->bx s=bx0 s):
 bj prog 270 0 [.fn (.func f) caps,.sl 1 [.sl 3 (l.map Part.d)]] bx (fun d bx'=>d= .bool (l.all p)/\∀s,s<B->bx' s=bx s) (fun _ _=>False):=aK (base:=B) mixed (U9 B hf hn hk l hl hd bx hb) rfl ak rfl
def Xa{bO:Entry->Prop}{p:Entry->Bool}(hf:cp f caps n0 k bx0 Entry.d bO p)(hn:n0<=k)(l:List Entry)(hl:l.length<=140737488355328)(hd:∀x∈l,bO x)(bx:ae)(hb:∀s,s<n0->bx s=bx0 s):
 mn prog (cJ prog) [] f338 0 [.sl 5 (l.map Entry.d),.fn (.func f) caps] bx (fun d bx'=>d= .int .i64 (fk p l)/\∀s,s<k->bx' s=bx s) (fun _ _=>False):=by
 refine aL _ [.tmp 4] 19 rfl rfl rfl ak ?_;simp(disch:=omega) only[go_sem];refine bo l.length (fun j σ bx'=>σ 0= .sl 5 (l.map Entry.d)/\σ 1= .fn (.func f) caps/\σ 7= .int .i64 l.length/\σ 8= .int .i64 j/\(l.take j).any p=false/\∀s,s<k->bx' s=bx s)
  ⟨by simp[go_sem,bF],by simp[go_sem,bF],by simp[go_sem],by simp[go_sem],by simp,fun _ _=>rfl⟩ ?_ ?_
 ·rintro j σ bx' hj ⟨h0,h1,h7,h8,hp,hk⟩;obtain⟨x,hx⟩:=ba hj;have ar:(j:Int)<(l.length:Int):=oM;simp(disch:=omega) only[go_sem,h0,h1,h7,h8,ar,hx,Entry.d,strs];refine aC (hf bx' x (fun s hs=>(hk s oM).trans (hb s hs)) (hd x (mG hx))) rfl ?_;rintro d bK ⟨rfl,bR⟩;simp(disch:=omega) only[go_sem];refine aZ (fun hc=>?_) (fun hc=>?_)
  ·simp(disch:=omega) only[go_sem];exact⟨by rw[mD hp hx hc],fun s hs=>(bR s hs).trans (hk s hs)⟩
  ·simp(disch:=omega) only[go_sem,h0,h1,h7,h8];rw[aE oM];exact⟨rfl,lp hp hx hc,fun s hs=>(bR s hs).trans (hk s hs)⟩
 ·rintro σ bx' ⟨h0,h1,h7,h8,hp,hk⟩;have ar:¬(l.length:Int)<(l.length:Int):=oM;simp(disch:=omega) only[go_sem,h7,h8,ar];rw[tL]at hp;exact⟨by rw[jQ hp],hk⟩
def W_{bO:Entry->Prop}{p:Entry->Bool}(hf:cp f caps n0 k bx0 Entry.d bO p)(hn:n0<=k)(l:List Entry)(hl:l.length<=140737488355328)(hd:∀x∈l,bO x)(bx:ae)(hb:∀s,s<n0->bx s=bx0 s):
 bj prog 338 0 [.sl 5 (l.map Entry.d),.fn (.func f) caps] bx (fun d bx'=>d= .int .i64 (fk p l)/\∀s,s<k->bx' s=bx s) (fun _ _=>False):=aK mixed (Xa hf hn l hl hd bx hb) rfl ak rfl
def V8{bO:Entry->Prop}{p:Entry->Bool}(hf:cp f caps n0 k bx0 Entry.d bO p)(hn:n0<=k)(l:List Entry)(hl:l.length<=140737488355328)(hd:∀x∈l,bO x)(bx:ae)(hb:∀s,s<n0->bx s=bx0 s):
 mn prog (cJ prog) [] f315 0 [.sl 5 (l.map Entry.d),.fn (.func f) caps] bx (fun d bx'=>d= .bool (l.any p)/\∀s,s<k->bx' s=bx s) (fun _ _=>False):=by
 refine aL _ [.tmp 4] 9 rfl rfl rfl ak ?_;simp(disch:=omega) only[go_sem];refine aC (W_ hf hn l hl hd bx hb) rfl ?_;rintro d bK ⟨rfl,bR⟩;simp(disch:=omega) only[go_sem];exact⟨by rw[jK],bR⟩
def V7{bO:Entry->Prop}{p:Entry->Bool}(hf:cp f caps n0 k bx0 Entry.d bO p)(hn:n0<=k)(l:List Entry)(hl:l.length<=140737488355328)(hd:∀x∈l,bO x)(bx:ae)(hb:∀s,s<n0->bx s=bx0 s):
 bj prog 315 0 [.sl 5 (l.map Entry.d),.fn (.func f) caps] bx (fun d bx'=>d= .bool (l.any p)/\∀s,s<k->bx' s=bx s) (fun _ _=>False):=aK mixed (V8 hf hn l hl hd bx hb) rfl ak rfl
def XD{q e ty:Nat}{bO:Entry->Prop}{p:Entry->Bool}(hf:cp f caps n0 k bx0 Entry.d bO p)(hq:bx0 q=⟨e,1,1,ty,[.fn (.func f) caps]⟩)(hn:n0<=q+1)(hk:q+3<=k):cp 316 [.loc q e 0 0] (q+1) (q+3) bx0 Entry.d bO fun x=> !p x:=by
 intro bx x hb hd;refine aK mixed (fn:=f316) (tab:=[]) (base:=q+1) ?_ rfl ak rfl;refine aL _ [.tmp 3] 8 rfl rfl rfl ak ?_;have CM:=(hb q oM).trans hq;simp(disch:=omega) only[go_sem,CM,Entry.d,strs];refine aC (hf _ x (fun s hs=>?_) hd) rfl ?_
 ·first|exact hb s oM|(rw[aD oM];exact hb s oM)
 rintro d bK ⟨rfl,bR⟩;simp(disch:=omega) only[go_sem];first
  |exact fun s hs=>bR s oM
  |exact fun s hs=>(bR s oM).trans (by rw[aD oM])
def U5(B:Nat){bO:Entry->Prop}{p:Entry->Bool}(hf:cp f caps n0 k bx0 Entry.d bO p)(hn:n0<=B)(hk:B+17<=k)(l:List Entry)(hl:l.length<=140737488355328)(hd:∀x∈l,bO x)(bx:ae)(hb:∀s,s<n0->bx s=bx0 s):
 mn prog (cJ prog) [] f271 B [.fn (.func f) caps,.sl 1 [.sl 5 (l.map Entry.d)]] bx (fun d bx'=>d= .bool (l.all p)/\∀s,s<B->bx' s=bx s) (fun _ _=>False):=by
 refine aL _ [.tmp 4] 17 rfl rfl rfl ak ?_;simp(disch:=omega) only[go_sem];obtain⟨e,he⟩:∃e,(bx (B+2)).ep+1=e:=⟨_,rfl⟩
 rw[he];refine bo 1 (fun j σ bx'=>σ 2= .loc (B+2) e 0 0/\σ 7= .sl 1 [.sl 5 (l.map Entry.d)]/\σ 8= .int .i64 1/\σ 9= .int .i64 j/\(0<j->l.all p=true)/\bx' (B+2)=⟨e,1,1,349,[.fn (.func f) caps]⟩/\∀s,s<B->bx' s=bx s)
  ⟨by simp[go_sem,bF],by simp[go_sem,bF],by simp[go_sem],by simp[go_sem],by simp,by simp[aj],fun s hs=>by simp[aj,Nat.ne_of_lt (Nat.lt_add_right 2 hs)]⟩ ?_ ?_
 ·rintro j σ bx' hj ⟨h2,h7,h8,h9,hp,hq,cW⟩;obtain rfl:j=0:=oM;simp(disch:=omega) only[go_sem,h2,h7,h8,h9,Int.natCast_zero,Int.reduceLT];refine aC (V7 (XD (hf.agree (bx1:=bx') fun s hs=>(cW s oM).trans (hb s hs)) hq oM oM) oM l hl hd bx' fun _ _=>rfl) rfl ?_;rintro d bK ⟨rfl,bR⟩;simp(disch:=omega) only[go_sem];refine aZ (fun hc=>?_) (fun hc=>?_)
  ·simp(disch:=omega) only[go_sem];rw[mF]at hc;refine⟨?_,fun s hs=>(bR s oM).trans (cW s hs)⟩;rw[show l.all p=false by simpa using hc]
  ·simp(disch:=omega) only[go_sem,h2,h7,h8,h9];rw[mF]at hc;refine⟨rfl,fun _=>by simpa using hc,by rw[bR _ oM];exact hq,fun s hs=>(bR s oM).trans (cW s hs)⟩
 ·rintro σ bx' ⟨h2,h7,h8,h9,hp,hq,cW⟩;have h9:σ 9= .int .i64 (1:Int):=h9;simp(disch:=omega) only[go_sem,h8,h9,Int.reduceLT];exact⟨by rw[hp oM],cW⟩
def U4(B:Nat){bO:Entry->Prop}{p:Entry->Bool}(hf:cp f caps n0 k bx0 Entry.d bO p)(hn:n0<=B)(hk:B+17<=k)(l:List Entry)(hl:l.length<=140737488355328)(hd:∀x∈l,bO x)(bx:ae)(hb:∀s,s<n0->bx s=bx0 s):
 bj prog 271 0 [.fn (.func f) caps,.sl 1 [.sl 5 (l.map Entry.d)]] bx (fun d bx'=>d= .bool (l.all p)/\∀s,s<B->bx' s=bx s) (fun _ _=>False):=aK (base:=B) mixed (U5 B hf hn hk l hl hd bx hb) rfl ak rfl
def Xh{bO:aH->Prop}{p:aH->Bool}(hf:cp f caps n0 k bx0 aH.d bO p)(hn:n0<=k)(l:List aH)(hl:l.length<=140737488355328)(hd:∀x∈l,bO x)(bx:ae)(hb:∀s,s<n0->bx s=bx0 s):
 mn prog (cJ prog) [] f318 0 [.sl 5 (l.map aH.d),.fn (.func f) caps] bx (fun d bx'=>d= .int .i64 (fk p l)/\∀s,s<k->bx' s=bx s) (fun _ _=>False):=by
 refine aL _ [.tmp 4] 19 rfl rfl rfl ak ?_;simp(disch:=omega) only[go_sem];refine bo l.length (fun j σ bx'=>σ 0= .sl 5 (l.map aH.d)/\σ 1= .fn (.func f) caps/\σ 7= .int .i64 l.length/\σ 8= .int .i64 j/\(l.take j).any p=false/\∀s,s<k->bx' s=bx s)
  ⟨by simp[go_sem,bF],by simp[go_sem,bF],by simp[go_sem],by simp[go_sem],by simp,fun _ _=>rfl⟩ ?_ ?_
 ·rintro j σ bx' hj ⟨h0,h1,h7,h8,hp,hk⟩;obtain⟨x,hx⟩:=ba hj;have ar:(j:Int)<(l.length:Int):=oM;simp(disch:=omega) only[go_sem,h0,h1,h7,h8,ar,hx,aH.d];refine aC (hf bx' x (fun s hs=>(hk s oM).trans (hb s hs)) (hd x (mG hx))) rfl ?_;rintro d bK ⟨rfl,bR⟩;simp(disch:=omega) only[go_sem];refine aZ (fun hc=>?_) (fun hc=>?_)
  ·simp(disch:=omega) only[go_sem];exact⟨by rw[mD hp hx hc],fun s hs=>(bR s hs).trans (hk s hs)⟩
  ·simp(disch:=omega) only[go_sem,h0,h1,h7,h8];rw[aE oM];exact⟨rfl,lp hp hx hc,fun s hs=>(bR s hs).trans (hk s hs)⟩
 ·rintro σ bx' ⟨h0,h1,h7,h8,hp,hk⟩;have ar:¬(l.length:Int)<(l.length:Int):=oM;simp(disch:=omega) only[go_sem,h7,h8,ar];rw[tL]at hp;exact⟨by rw[jQ hp],hk⟩
def Xg{bO:aH->Prop}{p:aH->Bool}(hf:cp f caps n0 k bx0 aH.d bO p)(hn:n0<=k)(l:List aH)(hl:l.length<=140737488355328)(hd:∀x∈l,bO x)(bx:ae)(hb:∀s,s<n0->bx s=bx0 s):
 bj prog 318 0 [.sl 5 (l.map aH.d),.fn (.func f) caps] bx (fun d bx'=>d= .int .i64 (fk p l)/\∀s,s<k->bx' s=bx s) (fun _ _=>False):=aK mixed (Xh hf hn l hl hd bx hb) rfl ak rfl
def Wc{bO:aH->Prop}{p:aH->Bool}(hf:cp f caps n0 k bx0 aH.d bO p)(hn:n0<=k)(l:List aH)(hl:l.length<=140737488355328)(hd:∀x∈l,bO x)(bx:ae)(hb:∀s,s<n0->bx s=bx0 s):
 mn prog (cJ prog) [] f274 0 [.sl 5 (l.map aH.d),.fn (.func f) caps] bx (fun d bx'=>d= .bool (l.any p)/\∀s,s<k->bx' s=bx s) (fun _ _=>False):=by
 refine aL _ [.tmp 4] 9 rfl rfl rfl ak ?_;simp(disch:=omega) only[go_sem];refine aC (Xg hf hn l hl hd bx hb) rfl ?_;rintro d bK ⟨rfl,bR⟩;simp(disch:=omega) only[go_sem];exact⟨by rw[jK],bR⟩
def NS{bO:aH->Prop}{p:aH->Bool}(hf:cp f caps n0 k bx0 aH.d bO p)(hn:n0<=k)(l:List aH)(hl:l.length<=140737488355328)(hd:∀x∈l,bO x)(bx:ae)(hb:∀s,s<n0->bx s=bx0 s):
 bj prog 274 0 [.sl 5 (l.map aH.d),.fn (.func f) caps] bx (fun d bx'=>d= .bool (l.any p)/\∀s,s<k->bx' s=bx s) (fun _ _=>False):=aK mixed (Wc hf hn l hl hd bx hb) rfl ak rfl
def XG{q e ty:Nat}{bO:aH->Prop}{p:aH->Bool}(hf:cp f caps n0 k bx0 aH.d bO p)(hq:bx0 q=⟨e,1,1,ty,[.fn (.func f) caps]⟩)(hn:n0<=q+1)(hk:q+3<=k):cp 317 [.loc q e 0 0] (q+1) (q+3) bx0 aH.d bO fun x=> !p x:=by
 intro bx x hb hd;refine aK mixed (fn:=f317) (tab:=[]) (base:=q+1) ?_ rfl ak rfl;refine aL _ [.tmp 3] 8 rfl rfl rfl ak ?_;have CM:=(hb q oM).trans hq;simp(disch:=omega) only[go_sem,CM,aH.d];refine aC (hf _ x (fun s hs=>?_) hd) rfl ?_
 ·first|exact hb s oM|(rw[aD oM];exact hb s oM)
 rintro d bK ⟨rfl,bR⟩;simp(disch:=omega) only[go_sem];first
  |exact fun s hs=>bR s oM
  |exact fun s hs=>(bR s oM).trans (by rw[aD oM])
def Va(B:Nat){bO:aH->Prop}{p:aH->Bool}(hf:cp f caps n0 k bx0 aH.d bO p)(hn:n0<=B)(hk:B+17<=k)(l:List aH)(hl:l.length<=140737488355328)(hd:∀x∈l,bO x)(bx:ae)(hb:∀s,s<n0->bx s=bx0 s):
 mn prog (cJ prog) [] f272 B [.fn (.func f) caps,.sl 1 [.sl 5 (l.map aH.d)]] bx (fun d bx'=>d= .bool (l.all p)/\∀s,s<B->bx' s=bx s) (fun _ _=>False):=by
 refine aL _ [.tmp 4] 17 rfl rfl rfl ak ?_;simp(disch:=omega) only[go_sem];obtain⟨e,he⟩:∃e,(bx (B+2)).ep+1=e:=⟨_,rfl⟩
 rw[he];refine bo 1 (fun j σ bx'=>σ 2= .loc (B+2) e 0 0/\σ 7= .sl 1 [.sl 5 (l.map aH.d)]/\σ 8= .int .i64 1/\σ 9= .int .i64 j/\(0<j->l.all p=true)/\bx' (B+2)=⟨e,1,1,352,[.fn (.func f) caps]⟩/\∀s,s<B->bx' s=bx s)
  ⟨by simp[go_sem,bF],by simp[go_sem,bF],by simp[go_sem],by simp[go_sem],by simp,by simp[aj],fun s hs=>by simp[aj,Nat.ne_of_lt (Nat.lt_add_right 2 hs)]⟩ ?_ ?_
 ·rintro j σ bx' hj ⟨h2,h7,h8,h9,hp,hq,cW⟩;obtain rfl:j=0:=oM;simp(disch:=omega) only[go_sem,h2,h7,h8,h9,Int.natCast_zero,Int.reduceLT];refine aC (NS (XG (hf.agree (bx1:=bx') fun s hs=>(cW s oM).trans (hb s hs)) hq oM oM) oM l hl hd bx' fun _ _=>rfl) rfl ?_;rintro d bK ⟨rfl,bR⟩;simp(disch:=omega) only[go_sem];refine aZ (fun hc=>?_) (fun hc=>?_)
  ·simp(disch:=omega) only[go_sem];rw[mF]at hc;refine⟨?_,fun s hs=>(bR s oM).trans (cW s hs)⟩;rw[show l.all p=false by simpa using hc]
  ·simp(disch:=omega) only[go_sem,h2,h7,h8,h9];rw[mF]at hc;refine⟨rfl,fun _=>by simpa using hc,by rw[bR _ oM];exact hq,fun s hs=>(bR s oM).trans (cW s hs)⟩
 ·rintro σ bx' ⟨h2,h7,h8,h9,hp,hq,cW⟩;have h9:σ 9= .int .i64 (1:Int):=h9;simp(disch:=omega) only[go_sem,h8,h9,Int.reduceLT];exact⟨by rw[hp oM],cW⟩
def U_(B:Nat){bO:aH->Prop}{p:aH->Bool}(hf:cp f caps n0 k bx0 aH.d bO p)(hn:n0<=B)(hk:B+17<=k)(l:List aH)(hl:l.length<=140737488355328)(hd:∀x∈l,bO x)(bx:ae)(hb:∀s,s<n0->bx s=bx0 s):
 bj prog 272 0 [.fn (.func f) caps,.sl 1 [.sl 5 (l.map aH.d)]] bx (fun d bx'=>d= .bool (l.all p)/\∀s,s<B->bx' s=bx s) (fun _ _=>False):=aK (base:=B) mixed (Va B hf hn hk l hl hd bx hb) rfl ak rfl
def Xc{bO:Int->Prop}{p:Int->Bool}(hf:cp f caps n0 k bx0 (D.int .i64) bO p)(hn:n0<=k)(l:List Int)(hl:l.length<=140737488355328)(hd:∀x∈l,bO x)(bx:ae)(hb:∀s,s<n0->bx s=bx0 s):
 mn prog (cJ prog) [] f286 0 [.sl 1 (l.map (D.int .i64)),.fn (.func f) caps] bx (fun d bx'=>d= .int .i64 (fk p l)/\∀s,s<k->bx' s=bx s) (fun _ _=>False):=by
 refine aL _ [.tmp 4] 19 rfl rfl rfl ak ?_;simp(disch:=omega) only[go_sem];refine bo l.length (fun j σ bx'=>σ 0= .sl 1 (l.map (D.int .i64))/\σ 1= .fn (.func f) caps/\σ 7= .int .i64 l.length/\σ 8= .int .i64 j/\(l.take j).any p=false/\∀s,s<k->bx' s=bx s)
  ⟨by simp[go_sem,bF],by simp[go_sem,bF],by simp[go_sem],by simp[go_sem],by simp,fun _ _=>rfl⟩ ?_ ?_
 ·rintro j σ bx' hj ⟨h0,h1,h7,h8,hp,hk⟩;obtain⟨x,hx⟩:=ba hj;have ar:(j:Int)<(l.length:Int):=oM;simp(disch:=omega) only[go_sem,h0,h1,h7,h8,ar,hx];refine aC (hf bx' x (fun s hs=>(hk s oM).trans (hb s hs)) (hd x (mG hx))) rfl ?_;rintro d bK ⟨rfl,bR⟩;simp(disch:=omega) only[go_sem];refine aZ (fun hc=>?_) (fun hc=>?_)
  ·simp(disch:=omega) only[go_sem];exact⟨by rw[mD hp hx hc],fun s hs=>(bR s hs).trans (hk s hs)⟩
  ·simp(disch:=omega) only[go_sem,h0,h1,h7,h8];rw[aE oM];exact⟨rfl,lp hp hx hc,fun s hs=>(bR s hs).trans (hk s hs)⟩
 ·rintro σ bx' ⟨h0,h1,h7,h8,hp,hk⟩;have ar:¬(l.length:Int)<(l.length:Int):=oM;simp(disch:=omega) only[go_sem,h7,h8,ar];rw[tL]at hp;exact⟨by rw[jQ hp],hk⟩
def Xb{bO:Int->Prop}{p:Int->Bool}(hf:cp f caps n0 k bx0 (D.int .i64) bO p)(hn:n0<=k)(l:List Int)(hl:l.length<=140737488355328)(hd:∀x∈l,bO x)(bx:ae)(hb:∀s,s<n0->bx s=bx0 s):
 bj prog 286 0 [.sl 1 (l.map (D.int .i64)),.fn (.func f) caps] bx (fun d bx'=>d= .int .i64 (fk p l)/\∀s,s<k->bx' s=bx s) (fun _ _=>False):=aK mixed (Xc hf hn l hl hd bx hb) rfl ak rfl
def V_{bO:Int->Prop}{p:Int->Bool}(hf:cp f caps n0 k bx0 (D.int .i64) bO p)(hn:n0<=k)(l:List Int)(hl:l.length<=140737488355328)(hd:∀x∈l,bO x)(bx:ae)(hb:∀s,s<n0->bx s=bx0 s):
 mn prog (cJ prog) [] f236 0 [.sl 1 (l.map (D.int .i64)),.fn (.func f) caps] bx (fun d bx'=>d= .bool (l.any p)/\∀s,s<k->bx' s=bx s) (fun _ _=>False):=by
 refine aL _ [.tmp 4] 9 rfl rfl rfl ak ?_;simp(disch:=omega) only[go_sem];refine aC (Xb hf hn l hl hd bx hb) rfl ?_;rintro d bK ⟨rfl,bR⟩;simp(disch:=omega) only[go_sem];exact⟨by rw[jK],bR⟩
def V9{bO:Int->Prop}{p:Int->Bool}(hf:cp f caps n0 k bx0 (D.int .i64) bO p)(hn:n0<=k)(l:List Int)(hl:l.length<=140737488355328)(hd:∀x∈l,bO x)(bx:ae)(hb:∀s,s<n0->bx s=bx0 s):
 bj prog 236 0 [.sl 1 (l.map (D.int .i64)),.fn (.func f) caps] bx (fun d bx'=>d= .bool (l.any p)/\∀s,s<k->bx' s=bx s) (fun _ _=>False):=aK mixed (V_ hf hn l hl hd bx hb) rfl ak rfl
def XE{q e ty:Nat}{bO:Int->Prop}{p:Int->Bool}(hf:cp f caps n0 k bx0 (D.int .i64) bO p)(hq:bx0 q=⟨e,1,1,ty,[.fn (.func f) caps]⟩)(hn:n0<=q+1)(hk:q+3<=k):cp 336 [.loc q e 0 0] (q+1) (q+3) bx0 (D.int .i64) bO fun x=> !p x:=by
 intro bx x hb hd;refine aK mixed (fn:=f336) (tab:=[]) (base:=q+1) ?_ rfl ak rfl;refine aL _ [.tmp 3] 8 rfl rfl rfl ak ?_;have CM:=(hb q oM).trans hq;simp(disch:=omega) only[go_sem,CM];refine aC (hf _ x (fun s hs=>?_) hd) rfl ?_
 ·first|exact hb s oM|(rw[aD oM];exact hb s oM)
 rintro d bK ⟨rfl,bR⟩;simp(disch:=omega) only[go_sem];first
  |exact fun s hs=>bR s oM
  |exact fun s hs=>(bR s oM).trans (by rw[aD oM])
def U7(B:Nat){bO:Int->Prop}{p:Int->Bool}(hf:cp f caps n0 k bx0 (D.int .i64) bO p)(hn:n0<=B)(hk:B+17<=k)(l:List Int)(hl:l.length<=140737488355328)(hd:∀x∈l,bO x)(bx:ae)(hb:∀s,s<n0->bx s=bx0 s):
 mn prog (cJ prog) [] f310 B [.fn (.func f) caps,.sl 1 [.sl 1 (l.map (D.int .i64))]] bx (fun d bx'=>d= .bool (l.all p)/\∀s,s<B->bx' s=bx s) (fun _ _=>False):=by
 refine aL _ [.tmp 4] 17 rfl rfl rfl ak ?_;simp(disch:=omega) only[go_sem];obtain⟨e,he⟩:∃e,(bx (B+2)).ep+1=e:=⟨_,rfl⟩
 rw[he];refine bo 1 (fun j σ bx'=>σ 2= .loc (B+2) e 0 0/\σ 7= .sl 1 [.sl 1 (l.map (D.int .i64))]/\σ 8= .int .i64 1/\σ 9= .int .i64 j/\(0<j->l.all p=true)/\bx' (B+2)=⟨e,1,1,223,[.fn (.func f) caps]⟩/\∀s,s<B->bx' s=bx s)
  ⟨by simp[go_sem,bF],by simp[go_sem,bF],by simp[go_sem],by simp[go_sem],by simp,by simp[aj],fun s hs=>by simp[aj,Nat.ne_of_lt (Nat.lt_add_right 2 hs)]⟩ ?_ ?_
 ·rintro j σ bx' hj ⟨h2,h7,h8,h9,hp,hq,cW⟩;obtain rfl:j=0:=oM;simp(disch:=omega) only[go_sem,h2,h7,h8,h9,Int.natCast_zero,Int.reduceLT];refine aC (V9 (XE (hf.agree (bx1:=bx') fun s hs=>(cW s oM).trans (hb s hs)) hq oM oM) oM l hl hd bx' fun _ _=>rfl) rfl ?_;rintro d bK ⟨rfl,bR⟩;simp(disch:=omega) only[go_sem];refine aZ (fun hc=>?_) (fun hc=>?_)
  ·simp(disch:=omega) only[go_sem];rw[mF]at hc;refine⟨?_,fun s hs=>(bR s oM).trans (cW s hs)⟩;rw[show l.all p=false by simpa using hc]
  ·simp(disch:=omega) only[go_sem,h2,h7,h8,h9];rw[mF]at hc;refine⟨rfl,fun _=>by simpa using hc,by rw[bR _ oM];exact hq,fun s hs=>(bR s oM).trans (cW s hs)⟩
 ·rintro σ bx' ⟨h2,h7,h8,h9,hp,hq,cW⟩;have h9:σ 9= .int .i64 (1:Int):=h9;simp(disch:=omega) only[go_sem,h8,h9,Int.reduceLT];exact⟨by rw[hp oM],cW⟩
def U6(B:Nat){bO:Int->Prop}{p:Int->Bool}(hf:cp f caps n0 k bx0 (D.int .i64) bO p)(hn:n0<=B)(hk:B+17<=k)(l:List Int)(hl:l.length<=140737488355328)(hd:∀x∈l,bO x)(bx:ae)(hb:∀s,s<n0->bx s=bx0 s):
 bj prog 310 0 [.fn (.func f) caps,.sl 1 [.sl 1 (l.map (D.int .i64))]] bx (fun d bx'=>d= .bool (l.all p)/\∀s,s<B->bx' s=bx s) (fun _ _=>False):=aK (base:=B) mixed (U7 B hf hn hk l hl hd bx hb) rfl ak rfl
end
end Go.V.Ty
namespace Go.V.Ty
open Go.Proofs Go.Proofs.Tryz Go.RowKit Go.V.Lx Go.V.Gr
def dO(s:ah):Bool:=iI s&& !wA.contains s
def sentence:ah:=[103,114,97,109,109,97,114,32,99,97,116,101,103,111,114,121,32,115,116,97,114,116,32,119,111,114,100,32,105,115,32,103,105,118,101,115,32,99,111,115,116,32,114,117,108,101]
def GO:Lib.fields sentence=wA:=by decide
def RP:ao prog 309 [.str sentence] (strs wA):=by
 have:=fields_c sentence (by decide) (by decide);rw[GO]at this;exact this
def VL(s:ah)(hs:s.length<=140737488355328):qz prog (cJ prog) [] f265 [.str s] (.bool (dO s)):=by
 refine ax _ [.tmp 2] 11 rfl rfl rfl ak ?_;simp(disch:=omega) only[go_sem];refine av (Ox s hs) sG ?_;simp(disch:=omega) only[go_sem];refine aZ (fun h1=>?_) (fun h1=>?_)
 ·simp(disch:=omega) only[go_sem];refine av RP sG ?_;simp(disch:=omega) only[go_sem,h1];refine av (GH wA s (by decide)) (by simp[go_sem,strs]) ?_;simp(disch:=omega) only[go_sem,h1];exact ab (by simp[dO,h1])
 ·simp(disch:=omega) only[go_sem,h1];exact ab (by simp[dO,h1])
def yJ(s:ah)(hs:s.length<=140737488355328):ao prog 265 [.str s] (.bool (dO s)):=aw mixed (VL s hs) rfl ak rfl
def fA(a b n:Int):Bool:=decide (a<=n)&&decide (n<=b)
def ae9(a b:Int)(e e' t t':Nat)(bx0:ae)(h3:bx0 3=⟨e,1,1,t,[.int .i64 a]⟩)(h4:bx0 4=⟨e',1,1,t',[.int .i64 b]⟩):cp 311 [.loc 3 e 0 0,.loc 4 e' 0 0] 5 1000 bx0 (D.int .i64) (fun _=>True) (fA a b):=by
 intro bx x hb _;refine aK (fn:=f311) (tab:=[]) (base:=1000) mixed ?_ rfl ak rfl;refine aL _ [.tmp 4] 13 rfl rfl rfl ak ?_;have g3:=(hb 3 oM).trans h3;have g4:=(hb 4 oM).trans h4;simp(disch:=omega) only[go_sem,g3];refine aZ (fun h1=>?_) (fun h1=>?_)
 ·simp(disch:=omega) only[go_sem,g4,h1];refine⟨?_,fun _ _=>trivial⟩;simp[fA]at h1⊢;simp[h1]
 ·simp(disch:=omega) only[go_sem,h1];refine⟨?_,fun _ _=>trivial⟩;simp[fA]at h1⊢;omega
def M4(a b:Int)(l:List Int)(hl:l.length<=140737488355328):mn prog (cJ prog) [] f266 0 [.int .i64 a,.int .i64 b,.sl 1 (l.map (D.int .i64))] (fun _=> .none) (fun d _=>d= .bool (l.all (fA a b))) (fun _ _=>False):=by
 refine aL _ [.tmp 6] 11 rfl rfl rfl ak ?_;simp(disch:=omega) only[go_sem];refine aC (U6 20 (ae9 a b 1 1 3 3 _ (by simp[aj,Bx.none]) (by simp[aj,Bx.none])) oM oM l hl (fun _ _=>trivial) _ (fun _ _=>rfl)) rfl ?_;rintro d bK ⟨rfl,_⟩;simp(disch:=omega) only[go_sem]
def M3(a b:Int)(l:List Int)(hl:l.length<=140737488355328):ao prog 266 [.int .i64 a,.int .i64 b,.sl 1 (l.map (D.int .i64))] (.bool (l.all (fA a b))):=
 (aK mixed (M4 a b l hl) rfl ak rfl).to (fun _ _ h=>h) (fun d' bx' h=>⟨.bool (l.all (fA a b)),by rw[h];rfl,.refl _⟩)
def px(a b n:Int):ao prog 266 [.int .i64 a,.int .i64 b,.sl 1 [.int .i64 n]] (.bool (fA a b n)):=by
 have:=M3 a b [n] sI;simpa using this
def small(s:ah):Prop:=s.length<=140737488355328
def VM(k:Nat)(bx0:ae):cp 265 [] 0 k bx0 D.str small dO:=cp.of (fun x h=>yJ x h) (fun _=>rfl) k bx0
def EB(l:List ah)(hl:l.length<=140737488355328)(hs:∀x∈l,small x):ao prog 267 [.fn (.func 265) [],.sl 1 [.sl 1 (l.map D.str)]] (.bool (l.all dO)):=
 (Vb 0 (VM 1000 (fun _=> .none)) (Nat.le_refl _) oM l hl hs (fun _=> .none) (fun _ _=>rfl)).to (fun _ _ h=>h) (fun d' bx' h=>⟨.bool (l.all dO),by rw[h.1];rfl,.refl _⟩)
def FU(f:FuncId)(caps:List D)(n0:Nat)(bx0:ae)(p:ah->Bool):Prop:=
 ∀(bx:ae) (s:ah),(∀q,q<n0->bx q=bx0 q)->small s->bj prog f 0 (.str s::caps) bx (fun d bx'=>(∃n:Int,d= .aI [.int .i64 n,.bool (p s)])/\∀q,q<100000->bx' q=bx q) (fun _ _=>False)
section
variable {f:FuncId} {caps:List D} {n0:Nat} {bx0:ae} {p:ah->Bool}
def ZA{e t:Nat}(hf:FU f caps n0 bx0 p)(hn:n0<=200)(h3:bx0 203=⟨e,1,1,t,[.fn (.func f) caps]⟩):cp 263 [.loc 203 e 0 0] 204 100000 bx0 D.str small p:=by
 intro bx x hb hs;refine aK (fn:=f263) (tab:=[]) (base:=700) mixed ?_ rfl ak rfl;refine aL _ [.tmp 3] 13 rfl rfl rfl ak ?_;have g3:=(hb 203 oM).trans h3;simp(disch:=omega) only[go_sem,g3];refine aC (hf bx x (fun s hs=>hb s oM) hs) rfl ?_;rintro d bK ⟨⟨n,rfl⟩,bR⟩;simp(disch:=omega) only[go_sem];exact bR
structure MS(x:Entry):Prop where
 text:small x.text
 cat:small x.cat
 len:x.aN.length<=140737488355328
 aN:∀s∈x.aN,small s
structure MT(x:Part):Prop where
 text:small x.text
 cat:small x.cat
structure JH(x:aH):Prop where
 cat:small x.cat
 xm:x.parts.length<=140737488355328
 Lr:x.aN.length<=140737488355328
 parts:∀y∈x.parts,MT y
 aN:∀y∈x.aN,small y.text
structure mP(g:aW):Prop where
 name:small g.name
 start:small g.start
 Bm:g.au.length<=140737488355328
 Bp:g.entries.length<=140737488355328
 zH:g.rules.length<=140737488355328
 au:∀s∈g.au,small s
 ew:∀x∈g.entries,MS x
 rules:∀x∈g.rules,JH x
def fG(p:ah->Bool)(x:Entry):Bool:=dO x.text&&(p x.cat&&(fA 1 4 x.aN.length&&(x.aN.all dO&&fA 0 1000 x.cost)))
def mW(p:ah->Bool)(x:Part):Bool:=(decide (x.text=[])&&p x.cat)||(!decide (x.text=[])&&(decide (x.cat=[])&&dO x.text))
def TA{e t:Nat}{cf:FuncId}{cc:List D}{m0:Nat}(hc:cp cf cc m0 100000 bx0 D.str small p)(hm:m0<=206)(h5:bx0 205=⟨e,1,1,t,[.fn (.func cf) cc]⟩):cp 264 [.loc 205 e 0 0] 206 400 bx0 Entry.d MS (fG p):=by
 intro bx x hb hx;refine aK (fn:=f264) (tab:=[]) (base:=400) mixed ?_ rfl ak rfl;refine aL _ [.tmp 3] 32 rfl rfl rfl ak ?_;have g5:=(hb 205 oM).trans h5;simp(disch:=omega) only[go_sem,Entry.d,strs];refine av (yJ x.text hx.text) sG ?_;simp(disch:=omega) only[go_sem];refine aZ (fun h1=>?_) (fun h1=>?_)
 ·simp(disch:=omega) only[go_sem,g5,h1];refine aC (hc _ x.cat (fun s hs=>by rw[aD oM];exact hb s oM) hx.cat) rfl ?_;rintro d bK ⟨rfl,bR⟩;have g2:=bR 402 oM;rw[dC]at g2;simp(disch:=omega) only[go_sem,h1];refine aZ (fun h2=>?_) (fun h2=>?_)
  ·simp(disch:=omega) only[go_sem,h1,h2,g2];refine av (px 1 4 x.aN.length) sG ?_;simp(disch:=omega) only[go_sem,h1,h2];refine aZ (fun h3=>?_) (fun h3=>?_)
   ·simp(disch:=omega) only[go_sem,h1,h2,h3,g2];refine av (EB x.aN hx.len hx.aN) sG ?_;simp(disch:=omega) only[go_sem,h1,h2,h3];refine aZ (fun h4=>?_) (fun h4=>?_)
    ·simp(disch:=omega) only[go_sem,h1,h2,h3,h4,g2];refine av (px 0 1000 x.cost) sG ?_;simp(disch:=omega) only[go_sem,h1,h2,h3,h4];exact⟨by simp[fG,h1,h2,h3,h4],fun s hs=>(bR s oM).trans (aD oM)⟩
    ·simp(disch:=omega) only[go_sem,h1,h2,h3,h4];exact⟨by simp[fG,h1,h2,h3,h4],fun s hs=>(bR s oM).trans (aD oM)⟩
   ·simp(disch:=omega) only[go_sem,h1,h2,h3];exact⟨by simp[fG,h1,h2,h3],fun s hs=>(bR s oM).trans (aD oM)⟩
  ·simp(disch:=omega) only[go_sem,h1,h2];exact⟨by simp[fG,h1,h2],fun s hs=>(bR s oM).trans (aD oM)⟩
 ·simp(disch:=omega) only[go_sem,h1];exact⟨by simp[fG,h1],fun s hs=>aD oM⟩
def XS{e t:Nat}{cf:FuncId}{cc:List D}{m0:Nat}(hc:cp cf cc m0 100000 bx0 D.str small p)(hm:m0<=206)(h5:bx0 205=⟨e,1,1,t,[.fn (.func cf) cc]⟩):cp 268 [.loc 205 e 0 0] 206 650 bx0 Part.d MT (mW p):=by
 intro bx x hb hx;refine aK (fn:=f268) (tab:=[]) (base:=650) mixed ?_ rfl ak rfl;refine aL _ [.tmp 3] 28 rfl rfl rfl ak ?_;have g5:=(hb 205 oM).trans h5;simp(disch:=omega) only[go_sem,Part.d];refine bh (fun h1=>?_) (fun h1=>?_)
 ·simp(disch:=omega) only[go_sem,g5,h1];refine aC (hc _ x.cat (fun s hs=>by rw[aD oM];exact hb s oM) hx.cat) rfl ?_;rintro d bK ⟨rfl,bR⟩;have g2:=bR 652 oM;rw[dC]at g2;simp(disch:=omega) only[go_sem,h1];refine aZ (fun h2=>?_) (fun h2=>?_)
  ·simp(disch:=omega) only[go_sem,h1,h2];exact⟨by simp[mW,h1,h2],fun s hs=>(bR s oM).trans (aD oM)⟩
  ·simp(disch:=omega) only[go_sem,h1,h2,g2];exact⟨by simp[mW,h1,h2],fun s hs=>(bR s oM).trans (aD oM)⟩
 ·simp(disch:=omega) only[go_sem,h1];refine bh (fun h2=>?_) (fun h2=>?_)
  ·simp(disch:=omega) only[go_sem,h1,h2];refine av (yJ x.text hx.text) sG ?_;simp(disch:=omega) only[go_sem,h1,h2];exact⟨by simp[mW,h1,h2],fun s hs=>aD oM⟩
  ·simp(disch:=omega) only[go_sem,h1,h2];exact⟨by simp[mW,h1,h2],fun s hs=>aD oM⟩
end
end Go.V.Ty
namespace Go.V.Ty
open Go.Proofs Go.Proofs.Tryz Go.RowKit Go.V.Lx Go.V.Gr
def bT(gs:List dT)(i:Nat):Nat:=gs.countP fun y=>decide (y.text=[])&&decide (y.part=(i:Int))
def kH(n:Nat)(y:dT):Bool:=if y.text=[]then fA 0 ((n:Int) - 1) y.part else decide (y.part=0)&&dO y.text
def Nb(gs:List dT)(ps:List Part)(i:Nat):Bool:=ps[i]?.all fun q=>decide (bT gs i<=1)&&(decide (bT gs i=1)==decide (q.text=[]))
def pk(x:aH):Bool:=(List.range x.parts.length).all (Nb x.aN x.parts)
def ja(p:ah->Bool)(x:aH):Bool:=p x.cat&&(fA 1 4 x.parts.length&&(fA 1 8 x.aN.length&&(fA 0 1000 x.cost&&(x.parts.all (mW p)&&(x.aN.all (kH x.parts.length)&&pk x)))))
def r9(gs:List dT)(n:Nat):List D:=(List.range n).map fun i=>D.int .i64 (bT gs i:Int)
def tJ(gs:List dT)(n:Nat):(r9 gs n).length=n:=by simp[r9]
def tq{gs:List dT}{n i:Nat}(h:i<n):(r9 gs n)[i]? =some (.int .i64 (bT gs i:Int)):=by simp[r9,h]
def PN(n:Nat):List.replicate n (D.int .i64 0)=r9 [] n:=by
 apply List.ext_getElem?;intro i;by_cases h:i<n
 ·rw[tq h];simp[h,bT]
 ·rw[List.getElem?_eq_none (by simpa using h),List.getElem?_eq_none (by rw[tJ];omega)]
def tI(gs:List dT)(y:dT)(i:Nat):bT (gs++[y]) i=bT gs i+if y.text=[]/\y.part=(i:Int)then 1 else 0:=by simp only[bT,List.countP_append,List.countP_singleton,bA,decide_eq_true_eq]
def Nk{gs:List dT}{y:dT}{n:Nat}(h:¬y.text=[]):r9 (gs++[y]) n=r9 gs n:=by simp only[r9,tI,h,false_and,if_false,Nat.add_zero]
def PO{gs:List dT}{y:dT}{n k:Nat}(h:y.text=[])(hk:y.part=(k:Int))(hn:k<n):(r9 gs n).set k (.int .i64 ((bT gs k+1:Nat):Int))=r9 (gs++[y]) n:=by
 apply List.ext_getElem?;intro i;by_cases hi:i<n
 ·rw[tq hi,tI,List.getElem?_set,tJ,tq hi];by_cases e:k=i
  ·subst e;simp[h,hk,hi]
  ·have:¬y.part=(i:Int):=oM;simp[e,this]
 ·rw[List.getElem?_eq_none (by simp[tJ];omega),List.getElem?_eq_none (by rw[tJ];omega)]
def Nj(gs:List dT)(i:Nat):bT gs i<=gs.length:=List.countP_le_length
def Eo{p:ah->Bool}{x:aH}{y:dT}(hy:y∈x.aN)(h:kH x.parts.length y=false):ja p x=false:=by
 have:x.aN.all (kH x.parts.length)=false:=by rw[List.all_eq_false];exact⟨y,hy,by simp[h]⟩
 simp[ja,this]
def Cn{gs:List dT}{ps:List Part}{i:Nat}{q:Part}(h:ps[i]? =some q):Nb gs ps i=(decide (bT gs i<=1)&&(decide ((bT gs i:Int)=1)==decide (q.text=[]))):=by
 have:((bT gs i:Int)=1)<->bT gs i=1:=oM;simp only[Nb,h,Option.all_some,this]
def ID{p:ah->Bool}{x:aH}{j:Nat}(hj:j<x.parts.length)(h:Nb x.aN x.parts j=false):ja p x=false:=by
 have:pk x=false:=by rw[pk,List.all_eq_false];exact⟨j,List.mem_range.2 hj,by simp[h]⟩
 simp[ja,this]
section
variable {p:ah->Bool} {bx0:ae}
def Yc{e t e' t':Nat}{cf:FuncId}{cc:List D}{m0:Nat}(hc:cp cf cc m0 100000 bx0 D.str small p)(hm:m0<=206)(h5:bx0 205=⟨e,1,1,t,[.fn (.func cf) cc]⟩)(h7:bx0 207=⟨e',1,1,t',[.fn (.func 268) [.loc 205 e 0 0]]⟩):
 cp 269 [.loc 205 e 0 0,.loc 207 e' 0 0] 208 500 bx0 aH.d JH (ja p):=by
 intro bx x hb hx;refine aK (fn:=f269) (tab:=[]) (base:=500) mixed ?_ rfl ak rfl;refine aL _ [.tmp 4] 112 rfl rfl rfl ak ?_;have g5:=(hb 205 oM).trans h5;have g7:=(hb 207 oM).trans h7;simp(disch:=omega) only[go_sem,g5,aH.d];refine aC (hc _ x.cat (fun s hs=>by rw[aD oM];exact hb s oM) hx.cat) rfl ?_;rintro d bK ⟨rfl,bR⟩;have g2:=bR 503 oM;rw[dC]at g2;have g5':=(bR 205 oM).trans ((aD oM).trans g5);have g7':=(bR 207 oM).trans ((aD oM).trans g7);cases h1:p x.cat
 ·simp(disch:=omega) only[go_sem,nF];exact⟨by simp[ja,h1],fun s hs=>(bR s oM).trans (aD oM)⟩
 simp(disch:=omega) only[go_sem,g2,nT];refine av (px 1 4 x.parts.length) sG ?_;cases h3:fA 1 4 x.parts.length
 ·simp(disch:=omega) only[go_sem,nF];exact⟨by simp[ja,h1,h3],fun s hs=>(bR s oM).trans (aD oM)⟩
 simp(disch:=omega) only[go_sem,g2,nT];refine av (px 1 8 x.aN.length) sG ?_;cases h4:fA 1 8 x.aN.length
 ·simp(disch:=omega) only[go_sem,nF];exact⟨by simp[ja,h1,h3,h4],fun s hs=>(bR s oM).trans (aD oM)⟩
 simp(disch:=omega) only[go_sem,g2,nT];refine av (px 0 1000 x.cost) sG ?_;cases h6:fA 0 1000 x.cost
 ·simp(disch:=omega) only[go_sem,nF];exact⟨by simp[ja,h1,h3,h4,h6],fun s hs=>(bR s oM).trans (aD oM)⟩
 simp(disch:=omega) only[go_sem,g2,g7',nT];refine aC (U8 612 (XS hc hm h5) oM oM x.parts hx.xm hx.parts bK (fun s hs=>(bR s oM).trans ((aD oM).trans (hb s oM)))) rfl ?_;rintro d uK ⟨rfl,rJ⟩;replace g2:=(rJ 503 oM).trans g2;cases h8:x.parts.all (mW p)
 ·simp(disch:=omega) only[go_sem,nF];exact⟨by simp[ja,h1,h3,h4,h6,h8],fun s hs=>(rJ s oM).trans ((bR s oM).trans (aD oM))⟩
 have hp4:1<=x.parts.length/\x.parts.length<=4:=by simp[fA]at h3;omega
 have hg8:1<=x.aN.length/\x.aN.length<=8:=by simp[fA]at h4;omega
 have hz:=PN x.parts.length;have k0:(0:Int)<=(x.parts.length:Int):=oM;have k1:(x.parts.length:Int)<=(x.parts.length:Int):=oM;have k2:(x.parts.length:Int) * ((8:Nat):Int)<=140737488355328:=oM;generalize hE:(bx 503).ep+1=E at g2;have je:∀s,s<500->uK s=bx s:=fun s hs=>(rJ s oM).trans ((bR s oM).trans (aD oM));obtain⟨e5,he5⟩:∃e5,(uK 549).ep+1=e5:=⟨_,rfl⟩
 simp(disch:=omega) only[go_sem,g2,nT,hz,k0,k1,k2,he5];refine bo x.aN.length (fun j σ bx'=>σ 3= .loc 503 E 0 0/\σ 5= .bp 549 e5 1 0 x.parts.length/\σ 51= .sl 2 (x.aN.map dT.d)/\σ 52= .int .i64 x.aN.length/\σ 53= .int .i64 j/\bx' 503=⟨E,1,5,142,[x.d]⟩/\bx' 549=⟨e5,1,1,3,r9 (x.aN.take j) x.parts.length⟩/\(x.aN.take j).all (kH x.parts.length)=true/\∀s,s<500->bx' s=bx s) ?_ ?_ ?_
 ·simp(disch:=omega) only[go_sem,g2,he5,tJ,List.take_zero,aH.d];exact fun s hs=>by rw[if_neg oM];exact je s hs
 ·rintro j σ bx' hj ⟨q3,q5,S1,OP,OQ,b3,vu,bC,hk⟩;obtain⟨y,hy⟩:=ba hj;have ar:(j:Int)<(x.aN.length:Int):=oM;have hsy:small y.text:=hx.aN y (mG hy);have fV:x.aN.take (j+1)=x.aN.take j++[y]:=by rw[List.take_add_one,hy];rfl
  simp(disch:=omega) only[go_sem,S1,OP,OQ,ar,hy,dT.d];have hw:IntKind.i64.wrap ((x.parts.length:Int) - 1)=(x.parts.length:Int) - 1:=wrap_i64 oM oM;have oy:IntKind.i64.wrap ((j:Int)+1)=((j+1:Nat):Int):=aE oM;have eH:(x.aN.take (j+1)).all (kH x.parts.length)=kH x.parts.length y:=by rw[fV,List.all_append,bC];simp
  refine bh (fun c1=>?_) (fun c1=>?_)
  ·simp(disch:=omega) only[go_sem,q5,hw];refine av (px 0 ((x.parts.length:Int) - 1) y.part) sG ?_;cases c2:fA 0 ((x.parts.length:Int) - 1) y.part
   ·simp(disch:=omega) only[go_sem,nF];refine⟨(Eo (mG hy) (by rw[kH,if_pos c1,c2])).symm▸rfl,fun s hs=>?_⟩
    (try simp(disch:=omega) only[if_neg])
    exact hk s hs
   ·have c3:0<=y.part/\y.part<x.parts.length:=by simp[fA]at c2;omega
    obtain⟨n,hn⟩:∃n:Nat,y.part=n:=⟨y.part.toNat,by omega⟩
    have sB:n<x.parts.length:=oM;have hn3:(n:Int)<(x.parts.length:Int):=oM;have hle:=Nj (x.aN.take j) n;have aeR:(x.aN.take j).length<=x.aN.length:=List.length_take_le' ..;have hZ:IntKind.i64.wrap ((bT (x.aN.take j) n:Int)+1)=((bT (x.aN.take j) n+1:Nat):Int):=aE oM;simp(disch:=omega) only[go_sem,nT,q3,q5,S1,OP,OQ,oy,hn,hZ,tq sB,vu,b3,PO c1 hn sB];rw[<-fV,eH];refine⟨rfl,by rw[kH,if_pos c1,hn];rwa[hn]at c2,fun s hs=>?_⟩
    (try simp(disch:=omega) only[if_neg])
    exact hk s hs
  ·simp(disch:=omega) only[go_sem];refine bh (fun c2=>?_) (fun c2=>?_)
   ·have M_:(!decide (y.part=0))=false:=by simp[c2]
    simp(disch:=omega) only[go_sem,M_];refine av (yJ y.text hsy) sG ?_;cases c4:dO y.text
    ·simp(disch:=omega) only[go_sem,M_,nF];refine⟨(Eo (mG hy) (by rw[kH,if_neg c1,c4,Bool.and_false])).symm▸rfl,fun s hs=>?_⟩
     (try simp(disch:=omega) only[if_neg])
     exact hk s hs
    ·simp(disch:=omega) only[go_sem,M_,nT,q3,q5,S1,OP,OQ,oy,vu,b3];rw[eH,fV,Nk c1];refine⟨rfl,by rw[kH,if_neg c1,c4,decide_eq_true c2];rfl,fun s hs=>?_⟩
     (try simp(disch:=omega) only[if_neg])
     exact hk s hs
   ·have M_:(!decide (y.part=0))=true:=by simp[c2]
    simp(disch:=omega) only[go_sem,M_];refine⟨(Eo (mG hy) (by rw[kH,if_neg c1,decide_eq_false c2,Bool.false_and])).symm▸rfl,fun s hs=>?_⟩
    (try simp(disch:=omega) only[if_neg])
    exact hk s hs
 ·rintro σ bx' ⟨q3,q5,S1,OP,OQ,b3,vu,bC,hk⟩;have ar:¬(x.aN.length:Int)<(x.aN.length:Int):=oM;simp(disch:=omega) only[go_sem,q3,OP,OQ,ar,b3,aH.d];rw[tL]at bC vu;refine bo x.parts.length (fun j σ bx'=>σ 5= .bp 549 e5 1 0 x.parts.length/\σ 88= .sl 3 (x.parts.map Part.d)/\σ 89= .int .i64 x.parts.length/\σ 90= .int .i64 j/\bx' 549=⟨e5,1,1,3,r9 x.aN x.parts.length⟩/\(∀i,i<j->Nb x.aN x.parts i=true)/\∀s,s<500->bx' s=bx s) ?_ ?_ ?_
  ·simp(disch:=omega) only[go_sem,q5,vu];exact⟨by omega,hk⟩
  ·rintro j σ bx' hj ⟨q5,X4,S3,S5,vu,hc,hk⟩;obtain⟨y,hy⟩:=ba hj;have ar:(j:Int)<(x.parts.length:Int):=oM;have oy:IntKind.i64.wrap ((j:Int)+1)=((j+1:Nat):Int):=aE oM;simp(disch:=omega) only[go_sem,q5,X4,S3,S5,ar,hy,Part.d,vu,tq hj];have jn:=Cn (gs:=x.aN) hy;cases c1:(decide ((bT x.aN j:Int)=1)==decide (y.text=[]))
   ·rw[c1,Bool.and_false]at jn;simp(disch:=omega) only[go_sem,nF];refine⟨(ID hj jn).symm▸rfl,fun s hs=>?_⟩
    (try simp(disch:=omega) only[if_neg])
    exact hk s hs
   ·rw[c1,Bool.and_true]at jn;simp(disch:=omega) only[go_sem,nT,vu,tq hj,q5];refine bh (fun c2=>?_) (fun c2=>?_)
    ·simp(disch:=omega) only[go_sem,c2,decide_true];refine⟨(ID hj (by rw[jn];simp;omega)).symm▸rfl,fun s hs=>?_⟩
     (try simp(disch:=omega) only[if_neg])
     exact hk s hs
    ·simp(disch:=omega) only[go_sem,c2,decide_false,q5,X4,S3,S5,vu,oy];refine⟨fun i hi=>?_,fun s hs=>?_⟩
     ·by_cases e:i=j
      ·subst e;rw[jn];simp;omega
      ·exact hc i oM
     · (try simp(disch:=omega) only[if_neg])
       exact hk s hs
  ·rintro σ bx' ⟨q5,X4,S3,S5,vu,hc,hk⟩;have ar:¬(x.parts.length:Int)<(x.parts.length:Int):=oM;simp(disch:=omega) only[go_sem,S3,S5,ar];have hco:pk x=true:=by rw[pk,List.all_eq_true];exact fun i hi=>hc i (List.mem_range.1 hi)
   exact⟨by simp only[ja,h1,h3,h4,h6,h8,bC,hco,Bool.and_true],hk⟩
end
end Go.V.Ty
namespace Go.V.Ty
open Go.Proofs Go.Proofs.Tryz Go.RowKit Go.V.Lx Go.V.Gr
def gG(p:ah->Bool)(g:aW):Bool:=dO g.name&&(decide (0<g.au.length)&&(g.au.all dO&&(p g.start&&(g.entries.all (fG p)&&g.rules.all (ja p)))))
def Uz{f:FuncId}{caps:List D}{n0:Nat}{p:ah->Bool}(g:aW)(hg:mP g)(bx:ae)(hf:FU f caps n0 bx p)(hn:n0<=200):
 bj prog 224 0 [g.d,.fn (.func f) caps] bx (fun d bx'=>d= .bool (gG p g)/\∀s,s<200->bx' s=bx s) (fun _ _=>False):=by
 refine aK (fn:=f224) (tab:=[]) (base:=200) mixed ?_ rfl ak rfl;refine aL _ [.tmp 4] 48 rfl rfl rfl ak ?_;simp(disch:=omega) only[go_sem,aW.d,strs];generalize hB:aj (aj (aj (aj (aj (aj bx 202 _) 203 _) 205 _) 205 _) 207 _) 207 _=B;have je:∀s,s<200->B s=bx s:=fun s hs=>by rw[<-hB];simp(disch:=omega) only[aD]
 have b2:B 202=⟨(bx 202).ep+1,1,6,81,[g.d]⟩:=by rw[<-hB];simp[aj,aW.d,strs]
 have b3:B 203=⟨(bx 203).ep+1,1,1,308,[.fn (.func f) caps]⟩:=by rw[<-hB];simp[aj]
 have b5:B 205=⟨(bx 205).ep+1,1,1,315,[.fn (.func 263) [.loc 203 ((bx 203).ep+1) 0 0]]⟩:=by rw[<-hB];simp[aj]
 have b7:B 207=⟨(bx 207).ep+1,1,1,350,[.fn (.func 268) [.loc 205 ((bx 205).ep+1) 0 0]]⟩:=by rw[<-hB];simp[aj]
 have kK:FU f caps n0 B p:=fun b s hb hs=>hf b s (fun q hq=>(hb q hq).trans (je q oM)) hs;have QE:=ZA kK hn b3;have fin:∀(b:Bool) (B':ae),b=gG p g->(∀s,s<200->B' s=B s)->D.bool b= .bool (gG p g)/\∀s,s<200->B' s=bx s:=fun b B' h h'=>⟨by rw[h],fun s hs=>(h' s hs).trans (je s hs)⟩
 refine av (yJ g.name hg.name) sG ?_;cases h1:dO g.name
 ·simp(disch:=omega) only[go_sem];exact fin false B (by simp[gG,h1]) (fun _ _=>rfl)
 simp(disch:=omega) only[go_sem,b2,aW.d,strs];refine bh (fun h2=>?_) (fun h2=>?_)
 rotate_left
 ·simp(disch:=omega) only[go_sem,h2,decide_false];exact fin false B (by simp[gG,h1];omega) (fun _ _=>rfl)
 have VR:0<g.au.length:=oM;simp(disch:=omega) only[go_sem,h2,decide_true,b2,aW.d,strs];refine av (EB g.au hg.Bm hg.au) sG ?_;cases h3:g.au.all dO
 ·simp(disch:=omega) only[go_sem,h2,decide_true];exact fin false B (by simp only[gG,h1,h3,Bool.false_and,Bool.and_false]) (fun _ _=>rfl)
 simp(disch:=omega) only[go_sem,h2,decide_true,b5,b2,aW.d,strs];refine aC (QE B g.start (fun _ _=>rfl) hg.start) rfl ?_;rintro d B1 ⟨rfl,iL⟩;cases h4:p g.start
 ·simp(disch:=omega) only[go_sem];exact fin false B1 (by simp only[gG,h1,h3,h4,Bool.false_and,Bool.and_false]) (fun s hs=>iL s oM)
 have c2:=(iL 202 oM).trans b2;simp(disch:=omega) only[go_sem,c2,aW.d,strs];refine aC (U4 250 (TA QE oM b5) oM oM g.entries hg.Bp hg.ew B1 (fun s hs=>iL s oM)) rfl ?_;rintro d B2 ⟨rfl,bR⟩;cases h5:g.entries.all (fG p)
 ·simp(disch:=omega) only[go_sem];exact fin false B2 (by simp only[gG,h1,h3,h4,h5,Bool.false_and,Bool.and_false]) (fun s hs=>(bR s oM).trans (iL s oM))
 replace c2:=(bR 202 oM).trans c2;simp(disch:=omega) only[go_sem,c2,aW.d,strs];refine aC (U_ 300 (Yc QE oM b5 b7) oM oM g.rules hg.zH hg.rules B2 (fun s hs=>(bR s oM).trans (iL s oM))) rfl ?_;rintro d B3 ⟨rfl,rJ⟩;simp(disch:=omega) only[go_sem];refine fin (g.rules.all (ja p)) B3 ?_ (fun s hs=>(rJ s oM).trans ((bR s oM).trans (iL s oM)));simp only[gG,h1,VR,h3,h4,h5,decide_true,Bool.true_and]
end Go.V.Ty
namespace Go.V.Ty
open Go.Proofs Go.RowKit Go.V.Lx Go.V.Gr
abbrev PM:=List (ah×D×Int)
def dJ(m:PM):List D:=m.map fun e=> .aI [.str e.1,e.2.1,.int .i64 e.2.2]
def GL(m:PM):(dJ m).length=m.length:=by simp[dJ]
theorem qM(s:ah):∀(m:PM) (i:Nat),(ff .str (.str s) (dJ m) i=some none/\∀e∈m,e.1≠s)\/∃j e,ff .str (.str s) (dJ m) i=some (some (i+j,e.2.1))/\m[j]? =some e/\e.1=s
 |[],i=> .inl ⟨rfl,by simp⟩
 |e::m,i=>by
  by_cases h:s=e.1
  ·exact .inr ⟨0,e,by simp[dJ,ff,mY,h],rfl,h.symm⟩
  ·have hb:(s==e.1)=false:=by simpa using h
   rcases qM s m (i+1)with⟨h1,h2⟩|⟨j,e',h1,h2,h3⟩
   ·refine .inl ⟨?_,fun x hx=>?_⟩
    ·simp only[dJ,mC,ff,mY,hb];exact h1
    ·rcases List.mem_cons.1 hx with rfl|hx
     ·exact Ne.symm h
     ·exact h2 x hx
   ·refine .inr ⟨j+1,e',?_,by simpa using h2,h3⟩;simp only[dJ,mC,ff,mY,hb];rw[show i+(j+1)=i+1+j by omega];exact h1
theorem CA(s:ah)(v:D):∀(m:PM) (j:Nat),(dJ m).modify j (BN (.str s) v)=dJ (m.modify j fun e=>(s,v,e.2.2))
 |[],j=>by simp[dJ]
 |e::m,0=>by simp[dJ,BN]
 |e::m,j+1=>by simpa[dJ]using CA s v m j
theorem EN:∀(m:PM) (j:Nat),(dJ m).eraseIdx j=dJ (m.eraseIdx j)
 |[],j=>by simp[dJ]
 |e::m,0=>by simp[dJ]
 |e::m,j+1=>by simpa[dJ]using EN m j
def Ca{m:PM}{s:ah}{c:Int}{v:D}(h:∀e∈m,e.1≠s):oI .str (.str s) v c (dJ m)=some (.int .i64 (c+1)::dJ (m++[(s,v,c)])):=by
 rcases qM s m 0 with⟨h1,_⟩|⟨j,e,_,h2,h3⟩
 ·simp only[oI,h1];simp[dJ]
 ·exact(h e (mG h2) h3).elim
def I0(m:PM)(s:ah)(c:Int)(v:D):∃(m':PM) (c':Int),oI .str (.str s) v c (dJ m)=some (.int .i64 c'::dJ m')/\m'.length<=m.length+1/\((∃e∈m,e.1=s)->m'.length=m.length):=by
 rcases qM s m 0 with⟨h1,h2⟩|⟨j,e,h1,h2,h3⟩
 ·exact⟨m++[(s,v,c)],c+1,Ca h2,by simp,fun⟨e,he,hs⟩=>(h2 e he hs).elim⟩
 ·exact⟨m.modify j fun e=>(s,v,e.2.2),c,by simp[oI,h1,CA],by simp,by simp⟩
def Tx{m:PM}{s:ah}{c:Int}(h:∃e∈m,e.1=s):∃j e,m[j]? =some e/\e.1=s/\GK .str (.str s) c (dJ m)=some (.int .i64 c::dJ (m.eraseIdx j)):=by
 obtain⟨e,he,hs⟩:=h;rcases qM s m 0 with⟨h1,h2⟩|⟨j,e,h1,h2,h3⟩
 ·exact(h2 e he hs).elim
 ·exact⟨j,e,h2,h3,by simp[GK,h1,EN]⟩
def jv(x:aH):Option (ah×ah):=match x.parts with
 |[q]=>if q.text=[]then some (x.cat,q.cat)else none
 |_=>none
def Edge(rs:List aH)(c d:ah):Prop:=∃x∈rs,jv x=some (c,d)
def gC(L:List ah)(c:ah)(x:aH):Bool:=match jv x with
 |some (a,b)=>decide (a=c)&&L.contains b
 |none=>false
def Full(rs:List aH)(L:List ah):Prop:=∀c∈L,rs.any (gC L c)=true
def Ej(rs:List aH)(L:List ah):List ah:=L.filter fun c=>rs.any (gC L c)
def mX(rs:List aH):Nat->List ah->List ah
 |0,L=>L
 |k+1,L=>mX rs k (Ej rs L)
def pS(g:aW):Bool:= !(mX g.rules g.au.length g.au).isEmpty
def uG{rs:List aH}{L:List ah}{c:ah}:rs.any (gC L c)=true<->∃d∈L,Edge rs c d:=by
 rw[List.any_eq_true];constructor
 ·rintro⟨x,hx,h⟩;unfold gC at h;split at h
  ·rename_i a b he;simp only[bA,decide_eq_true_eq,List.contains_iff_mem]at h;exact⟨b,h.2,x,hx,by rw[he,h.1]⟩
  ·cases h
 ·rintro⟨d,hd,x,hx,he⟩;exact⟨x,hx,by simp[gC,he,hd]⟩
def C8{rs:List aH}{L M:List ah}{c:ah}(h:∀x∈L,x∈M)(hl:rs.any (gC L c)=true):rs.any (gC M c)=true:=by
 obtain⟨d,hd,he⟩:=uG.1 hl;exact uG.2 ⟨d,h d hd,he⟩
def Q4{rs:List aH}{F L:List ah}(hF:Full rs F)(h:∀x∈F,x∈L):∀x∈F,x∈Ej rs L:=fun x hx=>List.mem_filter.2 ⟨h x hx,C8 h (hF x hx)⟩
theorem zt{rs:List aH}{F:List ah}(hF:Full rs F):∀(k:Nat) (L:List ah),(∀x∈F,x∈L)->∀x∈F,x∈mX rs k L
 |0,L,h=>h
 |k+1,L,h=>zt hF k _ (Q4 hF h)
theorem zu{rs:List aH}:∀(k:Nat) (L:List ah),∀x∈mX rs k L,x∈L
 |0,L,x,h=>h
 |k+1,L,x,h=>(List.mem_filter.1 (zu k _ x h)).1
def FA{rs:List aH}{L:List ah}(h:Full rs L):Ej rs L=L:=List.filter_eq_self.2 h
theorem Dj{rs:List aH}{L:List ah}(h:Full rs L):∀k,mX rs k L=L
 |0=>rfl
 |k+1=>by rw[mX,FA h,Dj h k]
theorem Ih{rs:List aH}:∀(k:Nat) (L:List ah),Full rs (mX rs k L)\/(mX rs k L).length+k<=L.length
 |0,L=> .inr (Nat.le_refl _)
 |k+1,L=>by
  rw[mX];by_cases h:(Ej rs L).length<L.length
  ·rcases Ih k (Ej rs L)with h1|h1
   ·exact .inl h1
   ·exact .inr oM
  ·have hL:Full rs L:=by
    have:=List.length_filter_le (fun c=>rs.any (gC L c)) L;exact List.length_filter_eq_length_iff.1 (by unfold Ej at h;omega)
   exact .inl (by rw[FA hL,Dj hL];exact hL)
def GY(rs:List aH):Full rs []:=fun c h=>by simp at h
def EH(g:aW):Full g.rules (mX g.rules g.au.length g.au):=by
 rcases Ih (rs:=g.rules) g.au.length g.au with h|h
 ·exact h
 ·have:mX g.rules g.au.length g.au=[]:=List.eq_nil_of_length_eq_zero oM;rw[this];exact GY _
theorem Nh{g:aW}{L:List ah}(h1:∀x∈L,x∈g.au)(h2:Full g.rules L)(h3:∀F,Full g.rules F->(∀x∈F,x∈g.au)->∀x∈F,x∈L):pS g= !L.isEmpty:=by
 unfold pS;cases hL:L with
 |nil=>
  cases hp:mX g.rules g.au.length g.au with
  |nil=>rfl
  |cons y ys=>
   have:=h3 _ (EH g) (zu _ _) y (by rw[hp];simp);rw[hL]at this;simp at this
 |cons x xs=>
  have:=zt h2 g.au.length g.au h1 x (by rw[hL];simp);cases hp:mX g.rules g.au.length g.au with
  |nil=>rw[hp]at this;simp at this
  |cons y ys=>rfl
def PC(g:aW):pS g=true<->∃F,F≠[]/\Full g.rules F/\∀x∈F,x∈g.au:=by
 constructor
 ·intro h;refine⟨_,?_,EH g,zu _ _⟩;intro e;rw[pS,e]at h;cases h
 ·rintro⟨F,bw,hF,hs⟩;obtain⟨x,hx⟩:=List.exists_mem_of_ne_nil F bw;have:=zt hF g.au.length g.au hs x hx;unfold pS;cases hp:mX g.rules g.au.length g.au with
  |nil=>rw[hp]at this;simp at this
  |cons y ys=>rfl
end Go.V.Ty
