/- Lemmas on plain data and programs: part B11. -/
import Derived.Test.YtkgloohlmogakaaGreatDoorVD
import Derived.Test.YtkgloohlmogakaaGreatDoorSh
set_option linter.all false
set_option maxHeartbeats 8000000
set_option maxRecDepth 100000
namespace Go.Proofs
open Go.Shelf
end Go.Proofs
namespace Go.V.Lx
open Go.Proofs Go.Proofs.Tryz Go.RowKit
def mixed:prog.follows .mixedOrders=true:=aj
theorem adu{w:World}{S:Nat->Prop}{vs:Array Value}{x y:D}(hl:vs.size=[x,y].length)(hv:∀(i:Nat) d v,[x,y][i]? =some d->vs[i]? =some v->br w S d v):∃u v,vs= #[u,v]/\br w S x u/\br w S y v:=by
 obtain⟨l⟩:=vs
 match l,hl with
 |[u,v],_=>exact⟨u,v,rfl,hv 0 x u rfl rfl,hv 1 y v rfl rfl⟩
theorem UO{w:World}{S:Nat->Prop}{vs:Array Value}{x:D}(hl:vs.size=[x].length)(hv:∀(i:Nat) d v,[x][i]? =some d->vs[i]? =some v->br w S d v):∃u,vs= #[u]/\br w S x u:=by
 obtain⟨l⟩:=vs
 match l,hl with
 |[u],_=>exact⟨u,rfl,hv 0 x u rfl rfl⟩
def iU{w:World}{S:Nat->Prop}{s:List UInt8}{v:Value}(h:br w S (.str s) v):v= .string ⟨s.toArray⟩:=by cases h;rfl
def dX{w:World}{S:Nat->Prop}{k:IntKind}{n:Int}{v:Value}(h:br w S (.int k n) v):v= .int k n:=by cases h;rfl
def of_same{P:Program}{f:FuncId}{w:World}{S:Nat->Prop}{vs:Array Value}{d:D}{r:Value}(he:(callFunc f vs).run P w= .ok (.enter f vs) w)(hd:∀w' S',br w' S' d r)(h:Calls P f vs w fun e w'=>e= .returned r/\Below w.heap.size w w'):
 ((callFunc f vs).run P w= .ok (.enter f vs) w/\Calls P f vs w (fun e w'=>∃v,e= .returned v/\cB w S d v w'))\/(∃v w',(callFunc f vs).run P w= .ok (.value v) w'/\cB w S d v w'):=
 .inl ⟨he,Calls.mono h fun e w' ⟨h1,h2⟩=>⟨r,h1,hd _ _,h2⟩⟩
def same_below{w w':World}(h:w'=w):Below w.heap.size w w':=by rw[h];exact Below.refl _ _
def indexByte_c(s:List UInt8)(c:UInt8):ao prog 322 [.str s,.int .u8 (c.toNat:Int)] (.int .i64 (Lib.indexByte s c)):=by
 intro w S vs hS hg hl hv;obtain⟨u,v,rfl,hu,hv⟩:=adu hl hv;rw[iU hu,dX hv];refine of_same (Go.MuLone.run_callFunc_enter (fn:=f322) rfl aj rfl _ w) (fun _ _=> .int _ _) (Calls.mono (Any.strings_IndexByte Tryz.TA _ _ w) fun e w' ⟨h1,h2⟩=>⟨?_,same_below h2⟩);rw[h1];simp
theorem glo_at{w:World}{S:Nat->Prop}{v:Value}{b:Nat}{d:D}(h:br w S .fI v)(hg:Bc b=some d):br w S (.cA d 0) (.pointer (some ⟨b,0,none⟩)):=by
 cases h with
 |fI _ h _=>exact h b d hg
theorem glo_cells{w:World}{S:Nat->Prop}{v:Value}{b:Nat}{cs:Array Value}(h:br w S .fI v)(hg:KZ b=some cs):∃ty sp,w.heap[b]? =some (.cells cs ty sp):=by
 cases h with
 |fI _ _ h=>exact(h b cs hg).2
def fields_c(s:List UInt8)(hs:s.length<4294967281)(ha:∀b∈s,b.toNat<128):ao prog 309 [.str s] (.sl 1 ((Lib.fields s).map D.str)):=by
 intro w S vs hS hg hl hv;obtain⟨u,rfl,hu⟩:=UO hl hv;rw[iU hu];obtain⟨ty,sp,hc⟩:=glo_cells (b:=0) hg rfl;have hn:prog.globalNamed "strings.asciiSpace"=some 0:=by kernel_rfl
 have aer:Lib.TabIs prog w "strings.asciiSpace" .u8 Lib.asciiSpaceTab:=by simp only[Lib.TabIs,World.var?,hn,Option.bind_some,hc]
 refine .inl ⟨Go.MuLone.run_callFunc_enter (fn:=f309) rfl aj rfl _ w,Calls.mono (Any.strings_Fields Tryz.TB aj hn ⟨s.toArray⟩ w (by show s.toArray.size<_;simpa using hs) (fun j b hb=>ha b (mG (by simpa using hb))) aer) ?_⟩;rintro e w' ⟨h1,h2⟩;refine⟨_,h1,?_,by rw[h2];exact(Below.refl _ _).alloc (Nat.le_refl _) _⟩;rw[h2];show br _ _ (.sl 1 ((Lib.fields s).map D.str)) (.slice _ (Lib.fields s).length (Lib.fields s).length);have ja:(Lib.fields s).length<=maxLen:=by
  have:=Lib.fields_length s;have h3:∀(l:List UInt8) (b:Bool),Lib.cntF b l<=l.length:=by
   intro l;induction l with
   |nil=>intro b;simp[Lib.cntF]
   |cons x l ih=>intro b;simp only[Lib.cntF,List.length_cons];have:=ih (Lib.isSp x);split<;>omega
  have:=h3 s true;simp only[maxLen];omega
 refine .sl (b:=w.heap.size) (off:=0) (us:=fun i _=> .string ⟨((Lib.fields s)[i]?.getD []).toArray⟩) sI (Nat.le_refl _) ja (fun _=>⟨rfl,.inr ⟨Nat.le_refl _,by simp⟩⟩) (fun i d hd=>?_) (fun i d j c hd hj=>?_) (fun i d j c hd hj=>?_) (fun i d j c hd hj=>?_)
 ·rw[gM,mS]at hd;obtain⟨x,_,rfl⟩:=hd;rfl
 ·rw[gM,mS]at hd;obtain⟨x,hx,rfl⟩:=hd;have V6:j=0:=by
   cases j with
   |zero=>rfl
   |succ j=>simp[D.cells]at hj
  subst V6;have ar:=(gS.1 hx).1;simp only[World.cell?,heap_alloc_new];simp[hx,ar,gE]
 ·rfl
 ·rw[gM,mS]at hd;obtain⟨x,hx,rfl⟩:=hd;have V6:j=0:=by
   cases j with
   |zero=>rfl
   |succ j=>simp[D.cells]at hj
  subst V6;simp only[D.cells,List.getElem?_cons_zero,sJ]at hj;subst hj;simp only[hx,Option.getD_some];exact .str x
end Go.V.Lx
namespace Go.V.Lx
open Go.Proofs Go.Proofs.Tryz Go.RowKit
structure Tok where
 k:Int
 t:List UInt8
 n:Int
 a:Int
 deriving DecidableEq
def Tok.d(x:Tok):D:=.agg [.int .i64 x.k,.str x.t,.int .i64 x.n,.int .i64 x.a]
def iH:List UInt8:=[123,125,40,41,59,44,61,58,46,60,62,33,43,45,42,47]
def isLt(n:Int):Bool:=decide (97<=n)&&decide (n<=122)||decide (65<=n)&&decide (n<=90)
def yQ(n:Int):Bool:=decide (48<=n)&&decide (n<=57)
def isSp(n:Int):Bool:=n==32||n==9||n==10||n==13
def Lj(c:UInt8):Bool:=decide (0<=Lib.indexByte iH c)
def cls(c:UInt8):Int:=if isLt c.toNat then 2 else if yQ c.toNat then 3 else if(c.toNat:Int)==95 then 5 else if isSp c.toNat then 1 else if Lj c then 4 else 0
def ia(c:UInt8):Bool:=isLt c.toNat||yQ c.toNat||(c.toNat:Int)==95
def iG(s:List UInt8):Bool:=match s with
 |[]=>false
 |c::_=>decide (s.length<=32)&&isLt c.toNat&&s.all ia
def ab{x y:D}(h:x=y):bN x y:=h▸ .refl _
def cb{tab:List (Nat×List (Nat×Nat))}{base bk lo:Nat}{yl:Option (List (List D)×Nat×Nat)}{pn df:Bool}{P:Program}{bx:ae}{f:Nat}{ds:List D}{K2:Cl->D->ae->Prop}{d:D}(h:ao P f ds d)(hp:D.aF ds=true)(hk:K2 .n d bx):fz ⟨cJ P,tab,base,bk,lo,yl,pn,df⟩ f ds bx K2:=av h hp hk
def cd{tab:List (Nat×List (Nat×Nat))}{base bk lo:Nat}{yl:Option (List (List D)×Nat×Nat)}{pn df:Bool}{P:Program}{tb:FuncId->Nat->List D->ae->(D->ae->Prop)->(D->ae->Prop)->Prop}{it:FuncId->List D->List (List D)->Nat->Prop}{ib:FuncId->Bx->List (List D)->Option D->Nat->Prop}{bx:ae}{f:Nat}{ds:List D}{K2:Cl->D->ae->Prop}{d:D}(h:ao P f ds d)(hp:D.aF ds=true)(hk:K2 .n d bx):fz ⟨⟨(cJ P).to,tb,it,ib⟩,tab,base,bk,lo,yl,pn,df⟩ f ds bx K2:=av h hp hk
end Go.V.Lx
namespace Go.V.Lx
open Go.Proofs Go.Proofs.Tryz Go.RowKit
def SX(c:UInt8):qh prog (cJ prog) [] f278 [.int .u8 (c.toNat:Int)] (.int .i64 (cls c)):=by
 refine ax _ [.tmp 2] _ rfl rfl rfl aj ?_;have hx:Int.toNat (c.toNat:Int)=c.toNat:=by simp
 repeat' (first
  |with_reducible refine bg (fun _=>?_) (fun _=>?_)
  |with_reducible refine aY (fun _=>?_) (fun _=>?_)
  |(refine av (indexByte_c iH c) sG ?_)
  |simp(disch:=omega) only[go_sem, *])
 all_goals
  refine ab ?_;simp[cls,isLt,yQ,isSp,Lj, *]
def zP(c:UInt8):ao prog 278 [.int .u8 (c.toNat:Int)] (.int .i64 (cls c)):=aw mixed (SX c) rfl aj rfl
end Go.V.Lx
namespace Go.V.Lx
open Go.Proofs Go.Proofs.Tryz Go.RowKit
def ba{α:Type}{l:List α}{k:Nat}(h:k<l.length):∃x,l[k]? =some x:=⟨l[k],gE h⟩
def lZ{α:Type}(p:α->Bool){l:List α}{k:Nat}{x:α}(hx:l[k]? =some x)(h:(l.take k).all p=true)(hp:p x=true):(l.take (k+1)).all p=true:=by
 rw[List.take_add_one,hx,List.all_append,h];simp[hp]
def pE{α:Type}(p:α->Bool){l:List α}{k:Nat}{x:α}(hx:l[k]? =some x)(hp:p x=false):l.all p=false:=by
 rw[List.all_eq_false];exact⟨x,mG hx,by simp[hp]⟩
def MS(c:UInt8):decide (cls c=2)=isLt c.toNat:=by
 unfold cls;cases isLt c.toNat<;>cases yQ c.toNat<;>cases((c.toNat:Int)==95)<;>cases isSp c.toNat<;>cases Lj c<;>rfl
def Ph(c:UInt8):ia c=(decide (cls c=2)||decide (cls c=3)||decide (cls c=5)):=by
 unfold cls ia;cases isLt c.toNat<;>cases yQ c.toNat<;>cases((c.toNat:Int)==95)<;>cases isSp c.toNat<;>cases Lj c<;>rfl
theorem W3(s:List UInt8)(hs:s.length<=140737488355328):qh prog (cJ prog) [] f232 [.str s] (.bool (iG s)):=by
 refine ax _ [.tmp 2] _ rfl rfl rfl aj ?_
 match s,hs with
 |[],hs=>
  simp(disch:=omega) only[go_sem, *];exact .refl _
 |c::r,hs=>
  have hx:(c::r)[0]? =some c:=rfl;repeat' (first|with_reducible apply zJ<;>intro _|with_reducible refine cb (zP c) sG ?_|with_reducible refine cd (zP c) sG ?_|simp(disch:=omega) only[go_sem, *])
  ·exact ab (by simp_all)
  ·refine ab ?_;have:¬(c::r).length<=32:=by simp only[List.length_cons];omega
   simp only[iG,this,decide_false,Bool.false_and]
  ·rename_i _ hle hc;have ar:isLt c.toNat=true:=by rw[<-MS,hc];rfl
   have yH:iG (c::r)=(c::r).all ia:=by
    have:(c::r).length<=32:=by simp only[List.length_cons];omega
    simp only[iG,this,decide_true,ar,Bool.true_and]
   rw[yH];obtain⟨z,hz⟩:∃z,z=c::r:=⟨_,rfl⟩
   have hlen:z.length=r.length+1:=by rw[hz];rfl
   rw[<-hz];refine bo z.length (fun k σ _=>σ 0= .str z/\σ 19= .int .i64 ((r.length+1:Nat):Int)/\σ 20= .int .i64 k/\(z.take k).all ia=true)
    ⟨by simp[go_sem,bB,hz],by simp[go_sem],by simp[go_sem],by simp⟩ ?_ ?_
   ·clear hz yH;rintro k σ bx hk ⟨h0,Ni,Vo,hb⟩;obtain⟨x,hx⟩:=ba hk;simp(disch:=omega) only[go_sem,h0,Ni,Vo];refine yb oM ?_;have hp:=Ph x;have bad:ia x=false->bN (D.bool false) (.bool (z.all ia)):=fun h=>ab (by rw[pE ia hx h]);have good:ia x=true->(z.take (k+1)).all ia=true:=fun h=>lZ ia hx hb h;repeat' (first|with_reducible apply zJ<;>intro _|with_reducible refine cb (zP x) sG ?_|with_reducible refine cd (zP x) sG ?_|simp(disch:=omega) only[go_sem, *])
    all_goals first
     |(rw[aD oM];exact⟨rfl,good (by rw[hp];simp[*])⟩)
     |exact bad (by rw[hp];simp[*])
     |trace_state
   ·rintro σ bx ⟨h0,Ni,Vo,hb⟩;simp(disch:=omega) only[go_sem,h0,Ni,Vo];refine Gq oM ?_;simp(disch:=omega) only[go_sem];rw[tL]at hb;exact ab (by rw[hb])
  ·rename_i hc;refine ab ?_;have ar:isLt c.toNat=false:=by rw[<-MS];simp[hc]
   simp only[iG,ar,Bool.and_false,Bool.false_and]
def N3(s:List UInt8)(hs:s.length<=140737488355328):ao prog 232 [.str s] (.bool (iG s)):=aw mixed (W3 s hs) rfl aj rfl
end Go.V.Lx
namespace Go.V.Gr
open Go.Proofs Go.Proofs.Tryz Go.RowKit Go.V.Lx
abbrev ah:=List UInt8
structure Part where
 cat:ah
 no:Int
 text:ah
 deriving DecidableEq
structure dK where
 part:Int
 text:ah
 deriving DecidableEq
structure Entry where
 text:ah
 cat:ah
 no:Int
 aM:List ah
 cost:Int
 deriving DecidableEq
structure aE where
 cat:ah
 no:Int
 parts:List Part
 aM:List dK
 cost:Int
 deriving DecidableEq
structure aS where
 name:ah
 au:List ah
 start:ah
 no:Int
 entries:List Entry
 rules:List aE
 deriving DecidableEq
def aS.zero:aS:=⟨[],[],[],0,[],[]⟩
@[reducible] def strs(l:List ah):D:=.sl 1 (l.map D.str)
def Part.d(x:Part):D:=.agg [.str x.cat,.int .i64 x.no,.str x.text]
def dK.d(x:dK):D:=.agg [.int .i64 x.part,.str x.text]
def Entry.d(x:Entry):D:=.agg [.str x.text,.str x.cat,.int .i64 x.no,strs x.aM,.int .i64 x.cost]
def aE.d(x:aE):D:=.agg [.str x.cat,.int .i64 x.no,.sl 3 (x.parts.map Part.d),.sl 2 (x.aM.map dK.d),.int .i64 x.cost]
def aS.d(x:aS):D:=.agg [.str x.name,strs x.au,.str x.start,.int .i64 x.no,.sl 5 (x.entries.map Entry.d),.sl 5 (x.rules.map aE.d)]
def IG:ah:=[103,114,97,109,109,97,114]
def Fz:ah:=[99,97,116,101,103,111,114,121]
def OR:ah:=[115,116,97,114,116]
def SL:ah:=[119,111,114,100]
def wIs:ah:=[105,115]
def OQ:ah:=[103,105,118,101,115]
def SJ:ah:=[99,111,115,116]
def SK:ah:=[114,117,108,101]
def vR:List ah:=[IG,Fz,OR,SL,wIs,OQ,SJ,SK]
theorem yO:∀(l:List ah) (k:Nat) (x:ah),l[k]? =some x->x∉l.take k->l.idxOf x=k/\x∈l
 |[],k,x,h,_=>by simp at h
 |y::l,0,x,h,_=>by simp at h;subst h;simp
 |y::l,k+1,x,h,hn=>by
  simp only[List.take_succ_cons,List.mem_cons,not_or]at hn;obtain⟨h1,h2⟩:=yO l k x (by simpa using h) hn.2;exact⟨by
  have hb:(y==x)=false:=by simpa using Ne.symm hn.1
  rw[List.idxOf_cons,hb,h1];rfl,List.mem_cons_of_mem _ h2⟩
def Tu(l:List ah)(t:ah)(hl:l.length<=140737488355328):qh prog (cJ prog) [] f333 [strs l,.str t] (.int .i64 (if l.contains t then(l.idxOf t:Int)else -1)):=by
 refine ax _ [.tmp 4] _ rfl rfl rfl aj ?_;simp(disch:=omega) only[go_sem,strs];refine bo l.length (fun k σ bx=>σ 0=strs l/\σ 1= .str t/\σ 7= .int .i64 l.length/\σ 8= .int .i64 k/\¬t∈l.take k) ?_ ?_ ?_
 ·simp[go_sem,bB,strs]
 ·rintro k σ bx hk ⟨h0,h1,h7,h8,hn⟩;obtain⟨x,hx⟩:=ba hk;have ar:(k:Int)<(l.length:Int):=oM;repeat' (first|with_reducible apply zJ<;>intro _|simp(disch:=omega) only[go_sem, *,h0,h1,h7,h8,ar,strs,hx])
  ·rename_i eJ;subst eJ;obtain⟨g1,g2⟩:=yO l k _ hx hn;exact ab (by rw[if_pos (by simpa using g2),g1])
  ·rename_i bq;rw[aD oM];refine⟨rfl,fun hm=>?_⟩;rw[List.take_add_one,hx]at hm;simp at hm;rcases hm with hm|hm
   ·exact hn hm
   ·exact bq hm
 ·rintro σ bx ⟨h0,h1,h7,h8,hn⟩;have ar:¬(l.length:Int)<(l.length:Int):=oM;repeat' (first|with_reducible apply zJ<;>intro _|simp(disch:=omega) only[go_sem, *,h0,h1,h7,h8,ar])
  rw[tL]at hn;exact ab (by rw[if_neg (by simpa using hn)])
def nX(l:List ah):D.aF (l.map D.str)=true:=rH _ _ fun _=>by simp[D.pure]
def Tt(l:List ah)(t:ah)(hl:l.length<=140737488355328):ao prog 333 [strs l,.str t] (.int .i64 (if l.contains t then(l.idxOf t:Int)else -1)):=aw mixed (Tu l t hl) rfl aj rfl
def KM(l:List ah)(t:ah)(hl:l.length<=140737488355328):qh prog (cJ prog) [] f308 [strs l,.str t] (.bool (l.contains t)):=by
 refine ax _ [.tmp 4] _ rfl rfl rfl aj ?_;simp(disch:=omega) only[go_sem];refine av (Tt l t hl) (by simp[go_sem,strs,nX]) ?_;simp(disch:=omega) only[go_sem];refine ab (congrArg D.bool ?_);cases h:l.contains t
 ·simp
 ·simp
def Gs(l:List ah)(t:ah)(hl:l.length<=140737488355328):ao prog 308 [strs l,.str t] (.bool (l.contains t)):=aw mixed (KM l t hl) rfl aj rfl
structure Sz(g:aS):Prop where
 au:g.au.length<=140737488355328
 en:g.entries.length<=140737488355328
 ruls:g.rules.length<=140737488355328
 ent:∀x∈g.entries,x.aM.length<=140737488355328
 XE:∀x∈g.rules,x.parts.length<=140737488355328/\x.aM.length<=140737488355328
def zn:∀l:List Part,D.aF (l.map Part.d)=true:=fun l=>rH _ _ fun _=>rfl
def Oj:∀l:List dK,D.aF (l.map dK.d)=true:=fun l=>rH _ _ fun _=>rfl
def Bw:∀l:List Entry,D.aF (l.map Entry.d)=true:=fun l=>rH _ _ fun x=>by simp[Entry.d,D.pure,D.aF,strs,nX]
def HW:∀l:List aE,D.aF (l.map aE.d)=true:=fun l=>rH _ _ fun x=>by simp[aE.d,D.pure,D.aF,zn,Oj]
def kM(g:aS):g.d.pure=true:=by simp[aS.d,D.pure,D.aF,strs,nX,Bw,HW]
def sZ{α:Type}[DecidableEq α]{l m:List α}{k:Nat}{x y:α}(hx:l[k]? =some x)(hy:m[k]? =some y)(h:l.take k=m.take k)(e:x=y):l.take (k+1)=m.take (k+1):=by rw[List.take_add_one,List.take_add_one,h,hx,hy,e]
def PB(l m:List Part)(hl:l.length<=140737488355328)(hm:m.length<=140737488355328):qh prog (cJ prog) [] f177 [.sl 3 (l.map Part.d),.sl 3 (m.map Part.d)] (.bool (decide (l=m))):=by
 refine ax _ [.tmp 4] _ rfl rfl rfl aj ?_;simp(disch:=omega) only[go_sem];refine bg (fun h1=>?_) (fun h1=>?_)
 ·have h1:l.length=m.length:=oM;simp(disch:=omega) only[go_sem];refine bo l.length (fun k σ bx=>σ 0= .sl 3 (l.map Part.d)/\σ 1= .sl 3 (m.map Part.d)/\σ 12= .int .i64 l.length/\σ 13= .int .i64 k/\l.take k=m.take k) ?_ ?_ ?_
  ·simp[go_sem,bB]
  ·rintro k σ bx hk ⟨h0,lf,h7,h8,hn⟩;obtain⟨x,hx⟩:=ba hk;obtain⟨y,hy⟩:=ba (show k<m.length by omega);have ar:(k:Int)<(l.length:Int):=oM;have wF:(k:Int)<(m.length:Int):=oM;obtain⟨a,b,c⟩:=x;obtain⟨a',b',c'⟩:=y;repeat' (first|with_reducible apply zJ<;>intro _|simp(disch:=omega) only[go_sem, *,h0,lf,h7,h8,ar,wF,hx,hy,Part.d])
   all_goals first
    |(rename_i mg;rw[aD oM];exact⟨rfl,sZ hx hy hn (by simpa using mg)⟩)
    |(
     rename_i mg;refine ab (congrArg D.bool ?_);refine(decide_eq_false fun e=>?_).symm;rw[e,hy]at hx;injection hx with hx;injection hx
     subst_vars
     simp at mg)
  ·rintro σ bx ⟨h0,lf,h7,h8,hn⟩;have ar:¬(l.length:Int)<(l.length:Int):=oM;simp(disch:=omega) only[go_sem,h0,lf,h7,h8,ar];rw[tL,h1,tL]at hn;exact ab (congrArg D.bool (decide_eq_true hn).symm)
 ·have:¬l=m:=fun e=>h1 (by rw[e]);exact ab (congrArg D.bool (decide_eq_false this).symm)
def PA(l m:List Part)(hl:l.length<=140737488355328)(hm:m.length<=140737488355328):ao prog 177 [.sl 3 (l.map Part.d),.sl 3 (m.map Part.d)] (.bool (decide (l=m))):=aw mixed (PB l m hl hm) rfl aj rfl
end Go.V.Gr
namespace Go.V.Ty
open Go.Proofs Go.Proofs.Tryz Go.RowKit Go.V.Lx Go.V.Gr
def ud{f:FuncId}{ds:List D}{d:D}(h:ao prog f ds d)(hp:D.aF ds=true)(bx:ae):bj prog f 0 ds bx (fun d' bx'=>d'=d/\bx'=bx) (fun _ _=>False):=by
 intro X ρ σ a w vs hS mn hl hv;exact(h.carried (S:=az X ρ bx w) (fun b hb=>hb.1) (hS.fI.fy rfl) hl (fun i x v hx aT=>(hv i x v hx aT).fy (uI _ hp i x hx)) fun v w' hp=>⟨d,bx,ρ,⟨rfl,rfl⟩,hS.Vi hp⟩).fy
def cn{α:Type}(f:FuncId)(caps:List D)(n0 k:Nat)(bx0:ae)(enc:α->D)(bO:α->Prop)(p:α->Bool):Prop:=
 ∀(bx:ae) (x:α),(∀s,s<n0->bx s=bx0 s)->bO x->bj prog f 0 (enc x::caps) bx (fun d bx'=>d= .bool (p x)/\∀s,s<k->bx' s=bx s) (fun _ _=>False)
theorem cn.agree{α:Type}{f:FuncId}{caps:List D}{n0 k:Nat}{bx0 bx1:ae}{enc:α->D}{bO:α->Prop}{p:α->Bool}(h:cn f caps n0 k bx0 enc bO p)(hb:∀s,s<n0->bx1 s=bx0 s):cn f caps n0 k bx1 enc bO p:=
 fun bx x hs hd=>h bx x (fun s dW=>(hs s dW).trans (hb s dW)) hd
theorem cn.of{α:Type}{f:FuncId}{enc:α->D}{bO:α->Prop}{p:α->Bool}(h:∀x,bO x->ao prog f [enc x] (.bool (p x)))(hp:∀x,(enc x).pure=true)(k:Nat)(bx0:ae):cn f [] 0 k bx0 enc bO p:=
 fun bx x _ hd=>(ud (h x hd) (by simp[D.aF,hp]) bx).mono (fun d bx' ⟨h1,h2⟩=>⟨h1,fun s _=>by rw[h2]⟩) (fun _ _ h=>h)
def fh{α:Type}(p:α->Bool)(l:List α):Int:=match l.findIdx? p with
 |some i=>i
 |none=> -1
theorem Jy{α:Type}(p:α->Bool):∀(l:List α) (j:Nat) (x:α),(l.take j).any p=false->l[j]? =some x->p x=true->l.findIdx? p=some j
 |[],j,x,_,h,_=>by simp at h
 |y::l,0,x,_,h,hp=>by simp at h;subst h;simp[List.findIdx?_cons,hp]
 |y::l,j+1,x,hn,h,hp=>by
  simp only[List.take_succ_cons,List.any_cons,Bool.or_eq_false_iff]at hn;have:=Jy p l j x hn.2 (by simpa using h) hp;simp[List.findIdx?_cons,hn.1,this]
def mu{α:Type}{p:α->Bool}{l:List α}{j:Nat}{x:α}(h:(l.take j).any p=false)(hx:l[j]? =some x)(hp:p x=true):fh p l=j:=by simp only[fh,Jy p l j x h hx hp]
def jP{α:Type}{p:α->Bool}{l:List α}(h:l.any p=false):fh p l= -1:=by
 have:l.findIdx? p=none:=by
  rw[List.findIdx?_eq_none_iff];intro x hx;rw[List.any_eq_false]at h;simpa using h x hx
 simp only[fh,this]
theorem jJ{α:Type}(p:α->Bool)(l:List α):decide (0<=fh p l)=l.any p:=by
 cases h:l.any p with
 |false=>rw[jP h];rfl
 |true=>
  unfold fh;cases hf:l.findIdx? p with
  |none=>
   rw[List.findIdx?_eq_none_iff]at hf;rw[List.any_eq_true]at h;obtain⟨x,hx,hp⟩:=h;rw[hf x hx]at hp;cases hp
  |some i=>simp
def kY{α:Type}{p:α->Bool}{l:List α}{j:Nat}{x:α}(h:(l.take j).any p=false)(hx:l[j]? =some x)(hp:p x=false):(l.take (j+1)).any p=false:=by
 rw[List.take_add_one,hx,List.any_append,h];simp[hp]
theorem my{α:Type}(p:α->Bool)(l:List α):(l.any fun x=> !p x)= !l.all p:=by
 induction l with
 |nil=>rfl
 |cons x l ih=>simp[List.any_cons,List.all_cons,ih,Bool.not_and]
section
variable {f:FuncId} {caps:List D} {n0 k:Nat} {bx0:ae}
def WM{bO:ah->Prop}{p:ah->Bool}(hf:cn f caps n0 k bx0 D.str bO p)(hn:n0<=k)(l:List ah)(hl:l.length<=140737488355328)(hd:∀x∈l,bO x)(bx:ae)(hb:∀s,s<n0->bx s=bx0 s):
 mf prog (cJ prog) [] f321 0 [.sl 1 (l.map D.str),.fn (.func f) caps] bx (fun d bx'=>d= .int .i64 (fh p l)/\∀s,s<k->bx' s=bx s) (fun _ _=>False):=by
 refine aJ _ [.tmp 4] 19 rfl rfl rfl aj ?_;simp(disch:=omega) only[go_sem];refine bo l.length (fun j σ bx'=>σ 0= .sl 1 (l.map D.str)/\σ 1= .fn (.func f) caps/\σ 7= .int .i64 l.length/\σ 8= .int .i64 j/\(l.take j).any p=false/\∀s,s<k->bx' s=bx s)
  ⟨by simp[go_sem,bB],by simp[go_sem,bB],by simp[go_sem],by simp[go_sem],by simp,fun _ _=>rfl⟩ ?_ ?_
 ·rintro j σ bx' hj ⟨h0,h1,h7,h8,hp,hk⟩;obtain⟨x,hx⟩:=ba hj;have ar:(j:Int)<(l.length:Int):=oM;simp(disch:=omega) only[go_sem,h0,h1,h7,h8,ar,hx];refine aC (hf bx' x (fun s hs=>(hk s oM).trans (hb s hs)) (hd x (mG hx))) rfl ?_;rintro d bK ⟨rfl,bV⟩;simp(disch:=omega) only[go_sem];refine aY (fun hc=>?_) (fun hc=>?_)
  ·simp(disch:=omega) only[go_sem];exact⟨by rw[mu hp hx hc],fun s hs=>(bV s hs).trans (hk s hs)⟩
  ·simp(disch:=omega) only[go_sem,h0,h1,h7,h8];rw[aD oM];exact⟨rfl,kY hp hx hc,fun s hs=>(bV s hs).trans (hk s hs)⟩
 ·rintro σ bx' ⟨h0,h1,h7,h8,hp,hk⟩;have ar:¬(l.length:Int)<(l.length:Int):=oM;simp(disch:=omega) only[go_sem,h7,h8,ar];rw[tL]at hp;exact⟨by rw[jP hp],hk⟩
def WK{bO:ah->Prop}{p:ah->Bool}(hf:cn f caps n0 k bx0 D.str bO p)(hn:n0<=k)(l:List ah)(hl:l.length<=140737488355328)(hd:∀x∈l,bO x)(bx:ae)(hb:∀s,s<n0->bx s=bx0 s):
 bj prog 321 0 [.sl 1 (l.map D.str),.fn (.func f) caps] bx (fun d bx'=>d= .int .i64 (fh p l)/\∀s,s<k->bx' s=bx s) (fun _ _=>False):=aI mixed (WM hf hn l hl hd bx hb) rfl aj rfl
def VM{bO:ah->Prop}{p:ah->Bool}(hf:cn f caps n0 k bx0 D.str bO p)(hn:n0<=k)(l:List ah)(hl:l.length<=140737488355328)(hd:∀x∈l,bO x)(bx:ae)(hb:∀s,s<n0->bx s=bx0 s):
 mf prog (cJ prog) [] f277 0 [.sl 1 (l.map D.str),.fn (.func f) caps] bx (fun d bx'=>d= .bool (l.any p)/\∀s,s<k->bx' s=bx s) (fun _ _=>False):=by
 refine aJ _ [.tmp 4] 9 rfl rfl rfl aj ?_;simp(disch:=omega) only[go_sem];refine aC (WK hf hn l hl hd bx hb) rfl ?_;rintro d bK ⟨rfl,bV⟩;simp(disch:=omega) only[go_sem];exact⟨by rw[jJ],bV⟩
def VL{bO:ah->Prop}{p:ah->Bool}(hf:cn f caps n0 k bx0 D.str bO p)(hn:n0<=k)(l:List ah)(hl:l.length<=140737488355328)(hd:∀x∈l,bO x)(bx:ae)(hb:∀s,s<n0->bx s=bx0 s):
 bj prog 277 0 [.sl 1 (l.map D.str),.fn (.func f) caps] bx (fun d bx'=>d= .bool (l.any p)/\∀s,s<k->bx' s=bx s) (fun _ _=>False):=aI mixed (VM hf hn l hl hd bx hb) rfl aj rfl
def Xa{q e ty:Nat}{bO:ah->Prop}{p:ah->Bool}(hf:cn f caps n0 k bx0 D.str bO p)(hq:bx0 q=⟨e,1,1,ty,[.fn (.func f) caps]⟩)(hn:n0<=q+1)(hk:q+3<=k):cn 312 [.loc q e 0 0] (q+1) (q+3) bx0 D.str bO fun x=> !p x:=by
 intro bx x hb hd;refine aI mixed (fn:=f312) (tab:=[]) (base:=q+1) ?_ rfl aj rfl;refine aJ _ [.tmp 3] 8 rfl rfl rfl aj ?_;have Cz:=(hb q oM).trans hq;simp(disch:=omega) only[go_sem,Cz];refine aC (hf _ x (fun s hs=>?_) hd) rfl ?_
 ·first|exact hb s oM|(rw[aB oM];exact hb s oM)
 rintro d bK ⟨rfl,bV⟩;simp(disch:=omega) only[go_sem];first
  |exact fun s hs=>bV s oM
  |exact fun s hs=>(bV s oM).trans (by rw[aB oM])
def UK(B:Nat){bO:ah->Prop}{p:ah->Bool}(hf:cn f caps n0 k bx0 D.str bO p)(hn:n0<=B)(hk:B+17<=k)(l:List ah)(hl:l.length<=140737488355328)(hd:∀x∈l,bO x)(bx:ae)(hb:∀s,s<n0->bx s=bx0 s):
 mf prog (cJ prog) [] f267 B [.fn (.func f) caps,.sl 1 [.sl 1 (l.map D.str)]] bx (fun d bx'=>d= .bool (l.all p)/\∀s,s<B->bx' s=bx s) (fun _ _=>False):=by
 refine aJ _ [.tmp 4] 17 rfl rfl rfl aj ?_;simp(disch:=omega) only[go_sem];obtain⟨e,he⟩:∃e,(bx (B+2)).ep+1=e:=⟨_,rfl⟩
 rw[he];refine bo 1 (fun j σ bx'=>σ 2= .loc (B+2) e 0 0/\σ 7= .sl 1 [.sl 1 (l.map D.str)]/\σ 8= .int .i64 1/\σ 9= .int .i64 j/\(0<j->l.all p=true)/\bx' (B+2)=⟨e,1,1,315,[.fn (.func f) caps]⟩/\∀s,s<B->bx' s=bx s)
  ⟨by simp[go_sem,bB],by simp[go_sem,bB],by simp[go_sem],by simp[go_sem],by simp,by simp[ak],fun s hs=>by simp[ak,Nat.ne_of_lt (Nat.lt_add_right 2 hs)]⟩ ?_ ?_
 ·rintro j σ bx' hj ⟨h2,h7,h8,h9,hp,hq,cT⟩;obtain rfl:j=0:=oM;simp(disch:=omega) only[go_sem,h2,h7,h8,h9,Int.natCast_zero,Int.reduceLT];refine aC (VL (Xa (hf.agree (bx1:=bx') fun s hs=>(cT s oM).trans (hb s hs)) hq oM oM) oM l hl hd bx' fun _ _=>rfl) rfl ?_;rintro d bK ⟨rfl,bV⟩;simp(disch:=omega) only[go_sem];refine aY (fun hc=>?_) (fun hc=>?_)
  ·simp(disch:=omega) only[go_sem];rw[my]at hc;refine⟨?_,fun s hs=>(bV s oM).trans (cT s hs)⟩;rw[show l.all p=false by simpa using hc]
  ·simp(disch:=omega) only[go_sem,h2,h7,h8,h9];rw[my]at hc;refine⟨rfl,fun _=>by simpa using hc,by rw[bV _ oM];exact hq,fun s hs=>(bV s oM).trans (cT s hs)⟩
 ·rintro σ bx' ⟨h2,h7,h8,h9,hp,hq,cT⟩;have h9:σ 9= .int .i64 (1:Int):=h9;simp(disch:=omega) only[go_sem,h8,h9,Int.reduceLT];exact⟨by rw[hp oM],cT⟩
def UJ(B:Nat){bO:ah->Prop}{p:ah->Bool}(hf:cn f caps n0 k bx0 D.str bO p)(hn:n0<=B)(hk:B+17<=k)(l:List ah)(hl:l.length<=140737488355328)(hd:∀x∈l,bO x)(bx:ae)(hb:∀s,s<n0->bx s=bx0 s):
 bj prog 267 0 [.fn (.func f) caps,.sl 1 [.sl 1 (l.map D.str)]] bx (fun d bx'=>d= .bool (l.all p)/\∀s,s<B->bx' s=bx s) (fun _ _=>False):=aI (base:=B) mixed (UK B hf hn hk l hl hd bx hb) rfl aj rfl
def WH{bO:Part->Prop}{p:Part->Bool}(hf:cn f caps n0 k bx0 Part.d bO p)(hn:n0<=k)(l:List Part)(hl:l.length<=140737488355328)(hd:∀x∈l,bO x)(bx:ae)(hb:∀s,s<n0->bx s=bx0 s):
 mf prog (cJ prog) [] f337 0 [.sl 3 (l.map Part.d),.fn (.func f) caps] bx (fun d bx'=>d= .int .i64 (fh p l)/\∀s,s<k->bx' s=bx s) (fun _ _=>False):=by
 refine aJ _ [.tmp 4] 19 rfl rfl rfl aj ?_;simp(disch:=omega) only[go_sem];refine bo l.length (fun j σ bx'=>σ 0= .sl 3 (l.map Part.d)/\σ 1= .fn (.func f) caps/\σ 7= .int .i64 l.length/\σ 8= .int .i64 j/\(l.take j).any p=false/\∀s,s<k->bx' s=bx s)
  ⟨by simp[go_sem,bB],by simp[go_sem,bB],by simp[go_sem],by simp[go_sem],by simp,fun _ _=>rfl⟩ ?_ ?_
 ·rintro j σ bx' hj ⟨h0,h1,h7,h8,hp,hk⟩;obtain⟨x,hx⟩:=ba hj;have ar:(j:Int)<(l.length:Int):=oM;simp(disch:=omega) only[go_sem,h0,h1,h7,h8,ar,hx,Part.d];refine aC (hf bx' x (fun s hs=>(hk s oM).trans (hb s hs)) (hd x (mG hx))) rfl ?_;rintro d bK ⟨rfl,bV⟩;simp(disch:=omega) only[go_sem];refine aY (fun hc=>?_) (fun hc=>?_)
  ·simp(disch:=omega) only[go_sem];exact⟨by rw[mu hp hx hc],fun s hs=>(bV s hs).trans (hk s hs)⟩
  ·simp(disch:=omega) only[go_sem,h0,h1,h7,h8];rw[aD oM];exact⟨rfl,kY hp hx hc,fun s hs=>(bV s hs).trans (hk s hs)⟩
 ·rintro σ bx' ⟨h0,h1,h7,h8,hp,hk⟩;have ar:¬(l.length:Int)<(l.length:Int):=oM;simp(disch:=omega) only[go_sem,h7,h8,ar];rw[tL]at hp;exact⟨by rw[jP hp],hk⟩
def WG{bO:Part->Prop}{p:Part->Bool}(hf:cn f caps n0 k bx0 Part.d bO p)(hn:n0<=k)(l:List Part)(hl:l.length<=140737488355328)(hd:∀x∈l,bO x)(bx:ae)(hb:∀s,s<n0->bx s=bx0 s):
 bj prog 337 0 [.sl 3 (l.map Part.d),.fn (.func f) caps] bx (fun d bx'=>d= .int .i64 (fh p l)/\∀s,s<k->bx' s=bx s) (fun _ _=>False):=aI mixed (WH hf hn l hl hd bx hb) rfl aj rfl
def VJ{bO:Part->Prop}{p:Part->Bool}(hf:cn f caps n0 k bx0 Part.d bO p)(hn:n0<=k)(l:List Part)(hl:l.length<=140737488355328)(hd:∀x∈l,bO x)(bx:ae)(hb:∀s,s<n0->bx s=bx0 s):
 mf prog (cJ prog) [] f313 0 [.sl 3 (l.map Part.d),.fn (.func f) caps] bx (fun d bx'=>d= .bool (l.any p)/\∀s,s<k->bx' s=bx s) (fun _ _=>False):=by
 refine aJ _ [.tmp 4] 9 rfl rfl rfl aj ?_;simp(disch:=omega) only[go_sem];refine aC (WG hf hn l hl hd bx hb) rfl ?_;rintro d bK ⟨rfl,bV⟩;simp(disch:=omega) only[go_sem];exact⟨by rw[jJ],bV⟩
def VI{bO:Part->Prop}{p:Part->Bool}(hf:cn f caps n0 k bx0 Part.d bO p)(hn:n0<=k)(l:List Part)(hl:l.length<=140737488355328)(hd:∀x∈l,bO x)(bx:ae)(hb:∀s,s<n0->bx s=bx0 s):
 bj prog 313 0 [.sl 3 (l.map Part.d),.fn (.func f) caps] bx (fun d bx'=>d= .bool (l.any p)/\∀s,s<k->bx' s=bx s) (fun _ _=>False):=aI mixed (VJ hf hn l hl hd bx hb) rfl aj rfl
def W9{q e ty:Nat}{bO:Part->Prop}{p:Part->Bool}(hf:cn f caps n0 k bx0 Part.d bO p)(hq:bx0 q=⟨e,1,1,ty,[.fn (.func f) caps]⟩)(hn:n0<=q+1)(hk:q+3<=k):cn 314 [.loc q e 0 0] (q+1) (q+3) bx0 Part.d bO fun x=> !p x:=by
 intro bx x hb hd;refine aI mixed (fn:=f314) (tab:=[]) (base:=q+1) ?_ rfl aj rfl;refine aJ _ [.tmp 3] 8 rfl rfl rfl aj ?_;have Cz:=(hb q oM).trans hq;simp(disch:=omega) only[go_sem,Cz,Part.d];refine aC (hf _ x (fun s hs=>?_) hd) rfl ?_
 ·first|exact hb s oM|(rw[aB oM];exact hb s oM)
 rintro d bK ⟨rfl,bV⟩;simp(disch:=omega) only[go_sem];first
  |exact fun s hs=>bV s oM
  |exact fun s hs=>(bV s oM).trans (by rw[aB oM])
def UG(B:Nat){bO:Part->Prop}{p:Part->Bool}(hf:cn f caps n0 k bx0 Part.d bO p)(hn:n0<=B)(hk:B+17<=k)(l:List Part)(hl:l.length<=140737488355328)(hd:∀x∈l,bO x)(bx:ae)(hb:∀s,s<n0->bx s=bx0 s):
 mf prog (cJ prog) [] f270 B [.fn (.func f) caps,.sl 1 [.sl 3 (l.map Part.d)]] bx (fun d bx'=>d= .bool (l.all p)/\∀s,s<B->bx' s=bx s) (fun _ _=>False):=by
 refine aJ _ [.tmp 4] 17 rfl rfl rfl aj ?_;simp(disch:=omega) only[go_sem];obtain⟨e,he⟩:∃e,(bx (B+2)).ep+1=e:=⟨_,rfl⟩
 rw[he];refine bo 1 (fun j σ bx'=>σ 2= .loc (B+2) e 0 0/\σ 7= .sl 1 [.sl 3 (l.map Part.d)]/\σ 8= .int .i64 1/\σ 9= .int .i64 j/\(0<j->l.all p=true)/\bx' (B+2)=⟨e,1,1,350,[.fn (.func f) caps]⟩/\∀s,s<B->bx' s=bx s)
  ⟨by simp[go_sem,bB],by simp[go_sem,bB],by simp[go_sem],by simp[go_sem],by simp,by simp[ak],fun s hs=>by simp[ak,Nat.ne_of_lt (Nat.lt_add_right 2 hs)]⟩ ?_ ?_
 ·rintro j σ bx' hj ⟨h2,h7,h8,h9,hp,hq,cT⟩;obtain rfl:j=0:=oM;simp(disch:=omega) only[go_sem,h2,h7,h8,h9,Int.natCast_zero,Int.reduceLT];refine aC (VI (W9 (hf.agree (bx1:=bx') fun s hs=>(cT s oM).trans (hb s hs)) hq oM oM) oM l hl hd bx' fun _ _=>rfl) rfl ?_;rintro d bK ⟨rfl,bV⟩;simp(disch:=omega) only[go_sem];refine aY (fun hc=>?_) (fun hc=>?_)
  ·simp(disch:=omega) only[go_sem];rw[my]at hc;refine⟨?_,fun s hs=>(bV s oM).trans (cT s hs)⟩;rw[show l.all p=false by simpa using hc]
  ·simp(disch:=omega) only[go_sem,h2,h7,h8,h9];rw[my]at hc;refine⟨rfl,fun _=>by simpa using hc,by rw[bV _ oM];exact hq,fun s hs=>(bV s oM).trans (cT s hs)⟩
 ·rintro σ bx' ⟨h2,h7,h8,h9,hp,hq,cT⟩;have h9:σ 9= .int .i64 (1:Int):=h9;simp(disch:=omega) only[go_sem,h8,h9,Int.reduceLT];exact⟨by rw[hp oM],cT⟩
def UF(B:Nat){bO:Part->Prop}{p:Part->Bool}(hf:cn f caps n0 k bx0 Part.d bO p)(hn:n0<=B)(hk:B+17<=k)(l:List Part)(hl:l.length<=140737488355328)(hd:∀x∈l,bO x)(bx:ae)(hb:∀s,s<n0->bx s=bx0 s):
 bj prog 270 0 [.fn (.func f) caps,.sl 1 [.sl 3 (l.map Part.d)]] bx (fun d bx'=>d= .bool (l.all p)/\∀s,s<B->bx' s=bx s) (fun _ _=>False):=aI (base:=B) mixed (UG B hf hn hk l hl hd bx hb) rfl aj rfl
def WB{bO:Entry->Prop}{p:Entry->Bool}(hf:cn f caps n0 k bx0 Entry.d bO p)(hn:n0<=k)(l:List Entry)(hl:l.length<=140737488355328)(hd:∀x∈l,bO x)(bx:ae)(hb:∀s,s<n0->bx s=bx0 s):
 mf prog (cJ prog) [] f338 0 [.sl 5 (l.map Entry.d),.fn (.func f) caps] bx (fun d bx'=>d= .int .i64 (fh p l)/\∀s,s<k->bx' s=bx s) (fun _ _=>False):=by
 refine aJ _ [.tmp 4] 19 rfl rfl rfl aj ?_;simp(disch:=omega) only[go_sem];refine bo l.length (fun j σ bx'=>σ 0= .sl 5 (l.map Entry.d)/\σ 1= .fn (.func f) caps/\σ 7= .int .i64 l.length/\σ 8= .int .i64 j/\(l.take j).any p=false/\∀s,s<k->bx' s=bx s)
  ⟨by simp[go_sem,bB],by simp[go_sem,bB],by simp[go_sem],by simp[go_sem],by simp,fun _ _=>rfl⟩ ?_ ?_
 ·rintro j σ bx' hj ⟨h0,h1,h7,h8,hp,hk⟩;obtain⟨x,hx⟩:=ba hj;have ar:(j:Int)<(l.length:Int):=oM;simp(disch:=omega) only[go_sem,h0,h1,h7,h8,ar,hx,Entry.d,strs];refine aC (hf bx' x (fun s hs=>(hk s oM).trans (hb s hs)) (hd x (mG hx))) rfl ?_;rintro d bK ⟨rfl,bV⟩;simp(disch:=omega) only[go_sem];refine aY (fun hc=>?_) (fun hc=>?_)
  ·simp(disch:=omega) only[go_sem];exact⟨by rw[mu hp hx hc],fun s hs=>(bV s hs).trans (hk s hs)⟩
  ·simp(disch:=omega) only[go_sem,h0,h1,h7,h8];rw[aD oM];exact⟨rfl,kY hp hx hc,fun s hs=>(bV s hs).trans (hk s hs)⟩
 ·rintro σ bx' ⟨h0,h1,h7,h8,hp,hk⟩;have ar:¬(l.length:Int)<(l.length:Int):=oM;simp(disch:=omega) only[go_sem,h7,h8,ar];rw[tL]at hp;exact⟨by rw[jP hp],hk⟩
def WA{bO:Entry->Prop}{p:Entry->Bool}(hf:cn f caps n0 k bx0 Entry.d bO p)(hn:n0<=k)(l:List Entry)(hl:l.length<=140737488355328)(hd:∀x∈l,bO x)(bx:ae)(hb:∀s,s<n0->bx s=bx0 s):
 bj prog 338 0 [.sl 5 (l.map Entry.d),.fn (.func f) caps] bx (fun d bx'=>d= .int .i64 (fh p l)/\∀s,s<k->bx' s=bx s) (fun _ _=>False):=aI mixed (WB hf hn l hl hd bx hb) rfl aj rfl
def VF{bO:Entry->Prop}{p:Entry->Bool}(hf:cn f caps n0 k bx0 Entry.d bO p)(hn:n0<=k)(l:List Entry)(hl:l.length<=140737488355328)(hd:∀x∈l,bO x)(bx:ae)(hb:∀s,s<n0->bx s=bx0 s):
 mf prog (cJ prog) [] f315 0 [.sl 5 (l.map Entry.d),.fn (.func f) caps] bx (fun d bx'=>d= .bool (l.any p)/\∀s,s<k->bx' s=bx s) (fun _ _=>False):=by
 refine aJ _ [.tmp 4] 9 rfl rfl rfl aj ?_;simp(disch:=omega) only[go_sem];refine aC (WA hf hn l hl hd bx hb) rfl ?_;rintro d bK ⟨rfl,bV⟩;simp(disch:=omega) only[go_sem];exact⟨by rw[jJ],bV⟩
def VE{bO:Entry->Prop}{p:Entry->Bool}(hf:cn f caps n0 k bx0 Entry.d bO p)(hn:n0<=k)(l:List Entry)(hl:l.length<=140737488355328)(hd:∀x∈l,bO x)(bx:ae)(hb:∀s,s<n0->bx s=bx0 s):
 bj prog 315 0 [.sl 5 (l.map Entry.d),.fn (.func f) caps] bx (fun d bx'=>d= .bool (l.any p)/\∀s,s<k->bx' s=bx s) (fun _ _=>False):=aI mixed (VF hf hn l hl hd bx hb) rfl aj rfl
def W7{q e ty:Nat}{bO:Entry->Prop}{p:Entry->Bool}(hf:cn f caps n0 k bx0 Entry.d bO p)(hq:bx0 q=⟨e,1,1,ty,[.fn (.func f) caps]⟩)(hn:n0<=q+1)(hk:q+3<=k):cn 316 [.loc q e 0 0] (q+1) (q+3) bx0 Entry.d bO fun x=> !p x:=by
 intro bx x hb hd;refine aI mixed (fn:=f316) (tab:=[]) (base:=q+1) ?_ rfl aj rfl;refine aJ _ [.tmp 3] 8 rfl rfl rfl aj ?_;have Cz:=(hb q oM).trans hq;simp(disch:=omega) only[go_sem,Cz,Entry.d,strs];refine aC (hf _ x (fun s hs=>?_) hd) rfl ?_
 ·first|exact hb s oM|(rw[aB oM];exact hb s oM)
 rintro d bK ⟨rfl,bV⟩;simp(disch:=omega) only[go_sem];first
  |exact fun s hs=>bV s oM
  |exact fun s hs=>(bV s oM).trans (by rw[aB oM])
def UC(B:Nat){bO:Entry->Prop}{p:Entry->Bool}(hf:cn f caps n0 k bx0 Entry.d bO p)(hn:n0<=B)(hk:B+17<=k)(l:List Entry)(hl:l.length<=140737488355328)(hd:∀x∈l,bO x)(bx:ae)(hb:∀s,s<n0->bx s=bx0 s):
 mf prog (cJ prog) [] f271 B [.fn (.func f) caps,.sl 1 [.sl 5 (l.map Entry.d)]] bx (fun d bx'=>d= .bool (l.all p)/\∀s,s<B->bx' s=bx s) (fun _ _=>False):=by
 refine aJ _ [.tmp 4] 17 rfl rfl rfl aj ?_;simp(disch:=omega) only[go_sem];obtain⟨e,he⟩:∃e,(bx (B+2)).ep+1=e:=⟨_,rfl⟩
 rw[he];refine bo 1 (fun j σ bx'=>σ 2= .loc (B+2) e 0 0/\σ 7= .sl 1 [.sl 5 (l.map Entry.d)]/\σ 8= .int .i64 1/\σ 9= .int .i64 j/\(0<j->l.all p=true)/\bx' (B+2)=⟨e,1,1,349,[.fn (.func f) caps]⟩/\∀s,s<B->bx' s=bx s)
  ⟨by simp[go_sem,bB],by simp[go_sem,bB],by simp[go_sem],by simp[go_sem],by simp,by simp[ak],fun s hs=>by simp[ak,Nat.ne_of_lt (Nat.lt_add_right 2 hs)]⟩ ?_ ?_
 ·rintro j σ bx' hj ⟨h2,h7,h8,h9,hp,hq,cT⟩;obtain rfl:j=0:=oM;simp(disch:=omega) only[go_sem,h2,h7,h8,h9,Int.natCast_zero,Int.reduceLT];refine aC (VE (W7 (hf.agree (bx1:=bx') fun s hs=>(cT s oM).trans (hb s hs)) hq oM oM) oM l hl hd bx' fun _ _=>rfl) rfl ?_;rintro d bK ⟨rfl,bV⟩;simp(disch:=omega) only[go_sem];refine aY (fun hc=>?_) (fun hc=>?_)
  ·simp(disch:=omega) only[go_sem];rw[my]at hc;refine⟨?_,fun s hs=>(bV s oM).trans (cT s hs)⟩;rw[show l.all p=false by simpa using hc]
  ·simp(disch:=omega) only[go_sem,h2,h7,h8,h9];rw[my]at hc;refine⟨rfl,fun _=>by simpa using hc,by rw[bV _ oM];exact hq,fun s hs=>(bV s oM).trans (cT s hs)⟩
 ·rintro σ bx' ⟨h2,h7,h8,h9,hp,hq,cT⟩;have h9:σ 9= .int .i64 (1:Int):=h9;simp(disch:=omega) only[go_sem,h8,h9,Int.reduceLT];exact⟨by rw[hp oM],cT⟩
def UB(B:Nat){bO:Entry->Prop}{p:Entry->Bool}(hf:cn f caps n0 k bx0 Entry.d bO p)(hn:n0<=B)(hk:B+17<=k)(l:List Entry)(hl:l.length<=140737488355328)(hd:∀x∈l,bO x)(bx:ae)(hb:∀s,s<n0->bx s=bx0 s):
 bj prog 271 0 [.fn (.func f) caps,.sl 1 [.sl 5 (l.map Entry.d)]] bx (fun d bx'=>d= .bool (l.all p)/\∀s,s<B->bx' s=bx s) (fun _ _=>False):=aI (base:=B) mixed (UC B hf hn hk l hl hd bx hb) rfl aj rfl
def WJ{bO:aE->Prop}{p:aE->Bool}(hf:cn f caps n0 k bx0 aE.d bO p)(hn:n0<=k)(l:List aE)(hl:l.length<=140737488355328)(hd:∀x∈l,bO x)(bx:ae)(hb:∀s,s<n0->bx s=bx0 s):
 mf prog (cJ prog) [] f318 0 [.sl 5 (l.map aE.d),.fn (.func f) caps] bx (fun d bx'=>d= .int .i64 (fh p l)/\∀s,s<k->bx' s=bx s) (fun _ _=>False):=by
 refine aJ _ [.tmp 4] 19 rfl rfl rfl aj ?_;simp(disch:=omega) only[go_sem];refine bo l.length (fun j σ bx'=>σ 0= .sl 5 (l.map aE.d)/\σ 1= .fn (.func f) caps/\σ 7= .int .i64 l.length/\σ 8= .int .i64 j/\(l.take j).any p=false/\∀s,s<k->bx' s=bx s)
  ⟨by simp[go_sem,bB],by simp[go_sem,bB],by simp[go_sem],by simp[go_sem],by simp,fun _ _=>rfl⟩ ?_ ?_
 ·rintro j σ bx' hj ⟨h0,h1,h7,h8,hp,hk⟩;obtain⟨x,hx⟩:=ba hj;have ar:(j:Int)<(l.length:Int):=oM;simp(disch:=omega) only[go_sem,h0,h1,h7,h8,ar,hx,aE.d];refine aC (hf bx' x (fun s hs=>(hk s oM).trans (hb s hs)) (hd x (mG hx))) rfl ?_;rintro d bK ⟨rfl,bV⟩;simp(disch:=omega) only[go_sem];refine aY (fun hc=>?_) (fun hc=>?_)
  ·simp(disch:=omega) only[go_sem];exact⟨by rw[mu hp hx hc],fun s hs=>(bV s hs).trans (hk s hs)⟩
  ·simp(disch:=omega) only[go_sem,h0,h1,h7,h8];rw[aD oM];exact⟨rfl,kY hp hx hc,fun s hs=>(bV s hs).trans (hk s hs)⟩
 ·rintro σ bx' ⟨h0,h1,h7,h8,hp,hk⟩;have ar:¬(l.length:Int)<(l.length:Int):=oM;simp(disch:=omega) only[go_sem,h7,h8,ar];rw[tL]at hp;exact⟨by rw[jP hp],hk⟩
def WI{bO:aE->Prop}{p:aE->Bool}(hf:cn f caps n0 k bx0 aE.d bO p)(hn:n0<=k)(l:List aE)(hl:l.length<=140737488355328)(hd:∀x∈l,bO x)(bx:ae)(hb:∀s,s<n0->bx s=bx0 s):
 bj prog 318 0 [.sl 5 (l.map aE.d),.fn (.func f) caps] bx (fun d bx'=>d= .int .i64 (fh p l)/\∀s,s<k->bx' s=bx s) (fun _ _=>False):=aI mixed (WJ hf hn l hl hd bx hb) rfl aj rfl
def VK{bO:aE->Prop}{p:aE->Bool}(hf:cn f caps n0 k bx0 aE.d bO p)(hn:n0<=k)(l:List aE)(hl:l.length<=140737488355328)(hd:∀x∈l,bO x)(bx:ae)(hb:∀s,s<n0->bx s=bx0 s):
 mf prog (cJ prog) [] f274 0 [.sl 5 (l.map aE.d),.fn (.func f) caps] bx (fun d bx'=>d= .bool (l.any p)/\∀s,s<k->bx' s=bx s) (fun _ _=>False):=by
 refine aJ _ [.tmp 4] 9 rfl rfl rfl aj ?_;simp(disch:=omega) only[go_sem];refine aC (WI hf hn l hl hd bx hb) rfl ?_;rintro d bK ⟨rfl,bV⟩;simp(disch:=omega) only[go_sem];exact⟨by rw[jJ],bV⟩
def Nq{bO:aE->Prop}{p:aE->Bool}(hf:cn f caps n0 k bx0 aE.d bO p)(hn:n0<=k)(l:List aE)(hl:l.length<=140737488355328)(hd:∀x∈l,bO x)(bx:ae)(hb:∀s,s<n0->bx s=bx0 s):
 bj prog 274 0 [.sl 5 (l.map aE.d),.fn (.func f) caps] bx (fun d bx'=>d= .bool (l.any p)/\∀s,s<k->bx' s=bx s) (fun _ _=>False):=aI mixed (VK hf hn l hl hd bx hb) rfl aj rfl
def W_{q e ty:Nat}{bO:aE->Prop}{p:aE->Bool}(hf:cn f caps n0 k bx0 aE.d bO p)(hq:bx0 q=⟨e,1,1,ty,[.fn (.func f) caps]⟩)(hn:n0<=q+1)(hk:q+3<=k):cn 317 [.loc q e 0 0] (q+1) (q+3) bx0 aE.d bO fun x=> !p x:=by
 intro bx x hb hd;refine aI mixed (fn:=f317) (tab:=[]) (base:=q+1) ?_ rfl aj rfl;refine aJ _ [.tmp 3] 8 rfl rfl rfl aj ?_;have Cz:=(hb q oM).trans hq;simp(disch:=omega) only[go_sem,Cz,aE.d];refine aC (hf _ x (fun s hs=>?_) hd) rfl ?_
 ·first|exact hb s oM|(rw[aB oM];exact hb s oM)
 rintro d bK ⟨rfl,bV⟩;simp(disch:=omega) only[go_sem];first
  |exact fun s hs=>bV s oM
  |exact fun s hs=>(bV s oM).trans (by rw[aB oM])
def UI(B:Nat){bO:aE->Prop}{p:aE->Bool}(hf:cn f caps n0 k bx0 aE.d bO p)(hn:n0<=B)(hk:B+17<=k)(l:List aE)(hl:l.length<=140737488355328)(hd:∀x∈l,bO x)(bx:ae)(hb:∀s,s<n0->bx s=bx0 s):
 mf prog (cJ prog) [] f272 B [.fn (.func f) caps,.sl 1 [.sl 5 (l.map aE.d)]] bx (fun d bx'=>d= .bool (l.all p)/\∀s,s<B->bx' s=bx s) (fun _ _=>False):=by
 refine aJ _ [.tmp 4] 17 rfl rfl rfl aj ?_;simp(disch:=omega) only[go_sem];obtain⟨e,he⟩:∃e,(bx (B+2)).ep+1=e:=⟨_,rfl⟩
 rw[he];refine bo 1 (fun j σ bx'=>σ 2= .loc (B+2) e 0 0/\σ 7= .sl 1 [.sl 5 (l.map aE.d)]/\σ 8= .int .i64 1/\σ 9= .int .i64 j/\(0<j->l.all p=true)/\bx' (B+2)=⟨e,1,1,352,[.fn (.func f) caps]⟩/\∀s,s<B->bx' s=bx s)
  ⟨by simp[go_sem,bB],by simp[go_sem,bB],by simp[go_sem],by simp[go_sem],by simp,by simp[ak],fun s hs=>by simp[ak,Nat.ne_of_lt (Nat.lt_add_right 2 hs)]⟩ ?_ ?_
 ·rintro j σ bx' hj ⟨h2,h7,h8,h9,hp,hq,cT⟩;obtain rfl:j=0:=oM;simp(disch:=omega) only[go_sem,h2,h7,h8,h9,Int.natCast_zero,Int.reduceLT];refine aC (Nq (W_ (hf.agree (bx1:=bx') fun s hs=>(cT s oM).trans (hb s hs)) hq oM oM) oM l hl hd bx' fun _ _=>rfl) rfl ?_;rintro d bK ⟨rfl,bV⟩;simp(disch:=omega) only[go_sem];refine aY (fun hc=>?_) (fun hc=>?_)
  ·simp(disch:=omega) only[go_sem];rw[my]at hc;refine⟨?_,fun s hs=>(bV s oM).trans (cT s hs)⟩;rw[show l.all p=false by simpa using hc]
  ·simp(disch:=omega) only[go_sem,h2,h7,h8,h9];rw[my]at hc;refine⟨rfl,fun _=>by simpa using hc,by rw[bV _ oM];exact hq,fun s hs=>(bV s oM).trans (cT s hs)⟩
 ·rintro σ bx' ⟨h2,h7,h8,h9,hp,hq,cT⟩;have h9:σ 9= .int .i64 (1:Int):=h9;simp(disch:=omega) only[go_sem,h8,h9,Int.reduceLT];exact⟨by rw[hp oM],cT⟩
def UH(B:Nat){bO:aE->Prop}{p:aE->Bool}(hf:cn f caps n0 k bx0 aE.d bO p)(hn:n0<=B)(hk:B+17<=k)(l:List aE)(hl:l.length<=140737488355328)(hd:∀x∈l,bO x)(bx:ae)(hb:∀s,s<n0->bx s=bx0 s):
 bj prog 272 0 [.fn (.func f) caps,.sl 1 [.sl 5 (l.map aE.d)]] bx (fun d bx'=>d= .bool (l.all p)/\∀s,s<B->bx' s=bx s) (fun _ _=>False):=aI (base:=B) mixed (UI B hf hn hk l hl hd bx hb) rfl aj rfl
def WD{bO:Int->Prop}{p:Int->Bool}(hf:cn f caps n0 k bx0 (D.int .i64) bO p)(hn:n0<=k)(l:List Int)(hl:l.length<=140737488355328)(hd:∀x∈l,bO x)(bx:ae)(hb:∀s,s<n0->bx s=bx0 s):
 mf prog (cJ prog) [] f286 0 [.sl 1 (l.map (D.int .i64)),.fn (.func f) caps] bx (fun d bx'=>d= .int .i64 (fh p l)/\∀s,s<k->bx' s=bx s) (fun _ _=>False):=by
 refine aJ _ [.tmp 4] 19 rfl rfl rfl aj ?_;simp(disch:=omega) only[go_sem];refine bo l.length (fun j σ bx'=>σ 0= .sl 1 (l.map (D.int .i64))/\σ 1= .fn (.func f) caps/\σ 7= .int .i64 l.length/\σ 8= .int .i64 j/\(l.take j).any p=false/\∀s,s<k->bx' s=bx s)
  ⟨by simp[go_sem,bB],by simp[go_sem,bB],by simp[go_sem],by simp[go_sem],by simp,fun _ _=>rfl⟩ ?_ ?_
 ·rintro j σ bx' hj ⟨h0,h1,h7,h8,hp,hk⟩;obtain⟨x,hx⟩:=ba hj;have ar:(j:Int)<(l.length:Int):=oM;simp(disch:=omega) only[go_sem,h0,h1,h7,h8,ar,hx];refine aC (hf bx' x (fun s hs=>(hk s oM).trans (hb s hs)) (hd x (mG hx))) rfl ?_;rintro d bK ⟨rfl,bV⟩;simp(disch:=omega) only[go_sem];refine aY (fun hc=>?_) (fun hc=>?_)
  ·simp(disch:=omega) only[go_sem];exact⟨by rw[mu hp hx hc],fun s hs=>(bV s hs).trans (hk s hs)⟩
  ·simp(disch:=omega) only[go_sem,h0,h1,h7,h8];rw[aD oM];exact⟨rfl,kY hp hx hc,fun s hs=>(bV s hs).trans (hk s hs)⟩
 ·rintro σ bx' ⟨h0,h1,h7,h8,hp,hk⟩;have ar:¬(l.length:Int)<(l.length:Int):=oM;simp(disch:=omega) only[go_sem,h7,h8,ar];rw[tL]at hp;exact⟨by rw[jP hp],hk⟩
def WC{bO:Int->Prop}{p:Int->Bool}(hf:cn f caps n0 k bx0 (D.int .i64) bO p)(hn:n0<=k)(l:List Int)(hl:l.length<=140737488355328)(hd:∀x∈l,bO x)(bx:ae)(hb:∀s,s<n0->bx s=bx0 s):
 bj prog 286 0 [.sl 1 (l.map (D.int .i64)),.fn (.func f) caps] bx (fun d bx'=>d= .int .i64 (fh p l)/\∀s,s<k->bx' s=bx s) (fun _ _=>False):=aI mixed (WD hf hn l hl hd bx hb) rfl aj rfl
def VH{bO:Int->Prop}{p:Int->Bool}(hf:cn f caps n0 k bx0 (D.int .i64) bO p)(hn:n0<=k)(l:List Int)(hl:l.length<=140737488355328)(hd:∀x∈l,bO x)(bx:ae)(hb:∀s,s<n0->bx s=bx0 s):
 mf prog (cJ prog) [] f236 0 [.sl 1 (l.map (D.int .i64)),.fn (.func f) caps] bx (fun d bx'=>d= .bool (l.any p)/\∀s,s<k->bx' s=bx s) (fun _ _=>False):=by
 refine aJ _ [.tmp 4] 9 rfl rfl rfl aj ?_;simp(disch:=omega) only[go_sem];refine aC (WC hf hn l hl hd bx hb) rfl ?_;rintro d bK ⟨rfl,bV⟩;simp(disch:=omega) only[go_sem];exact⟨by rw[jJ],bV⟩
def VG{bO:Int->Prop}{p:Int->Bool}(hf:cn f caps n0 k bx0 (D.int .i64) bO p)(hn:n0<=k)(l:List Int)(hl:l.length<=140737488355328)(hd:∀x∈l,bO x)(bx:ae)(hb:∀s,s<n0->bx s=bx0 s):
 bj prog 236 0 [.sl 1 (l.map (D.int .i64)),.fn (.func f) caps] bx (fun d bx'=>d= .bool (l.any p)/\∀s,s<k->bx' s=bx s) (fun _ _=>False):=aI mixed (VH hf hn l hl hd bx hb) rfl aj rfl
def W8{q e ty:Nat}{bO:Int->Prop}{p:Int->Bool}(hf:cn f caps n0 k bx0 (D.int .i64) bO p)(hq:bx0 q=⟨e,1,1,ty,[.fn (.func f) caps]⟩)(hn:n0<=q+1)(hk:q+3<=k):cn 336 [.loc q e 0 0] (q+1) (q+3) bx0 (D.int .i64) bO fun x=> !p x:=by
 intro bx x hb hd;refine aI mixed (fn:=f336) (tab:=[]) (base:=q+1) ?_ rfl aj rfl;refine aJ _ [.tmp 3] 8 rfl rfl rfl aj ?_;have Cz:=(hb q oM).trans hq;simp(disch:=omega) only[go_sem,Cz];refine aC (hf _ x (fun s hs=>?_) hd) rfl ?_
 ·first|exact hb s oM|(rw[aB oM];exact hb s oM)
 rintro d bK ⟨rfl,bV⟩;simp(disch:=omega) only[go_sem];first
  |exact fun s hs=>bV s oM
  |exact fun s hs=>(bV s oM).trans (by rw[aB oM])
def UE(B:Nat){bO:Int->Prop}{p:Int->Bool}(hf:cn f caps n0 k bx0 (D.int .i64) bO p)(hn:n0<=B)(hk:B+17<=k)(l:List Int)(hl:l.length<=140737488355328)(hd:∀x∈l,bO x)(bx:ae)(hb:∀s,s<n0->bx s=bx0 s):
 mf prog (cJ prog) [] f310 B [.fn (.func f) caps,.sl 1 [.sl 1 (l.map (D.int .i64))]] bx (fun d bx'=>d= .bool (l.all p)/\∀s,s<B->bx' s=bx s) (fun _ _=>False):=by
 refine aJ _ [.tmp 4] 17 rfl rfl rfl aj ?_;simp(disch:=omega) only[go_sem];obtain⟨e,he⟩:∃e,(bx (B+2)).ep+1=e:=⟨_,rfl⟩
 rw[he];refine bo 1 (fun j σ bx'=>σ 2= .loc (B+2) e 0 0/\σ 7= .sl 1 [.sl 1 (l.map (D.int .i64))]/\σ 8= .int .i64 1/\σ 9= .int .i64 j/\(0<j->l.all p=true)/\bx' (B+2)=⟨e,1,1,223,[.fn (.func f) caps]⟩/\∀s,s<B->bx' s=bx s)
  ⟨by simp[go_sem,bB],by simp[go_sem,bB],by simp[go_sem],by simp[go_sem],by simp,by simp[ak],fun s hs=>by simp[ak,Nat.ne_of_lt (Nat.lt_add_right 2 hs)]⟩ ?_ ?_
 ·rintro j σ bx' hj ⟨h2,h7,h8,h9,hp,hq,cT⟩;obtain rfl:j=0:=oM;simp(disch:=omega) only[go_sem,h2,h7,h8,h9,Int.natCast_zero,Int.reduceLT];refine aC (VG (W8 (hf.agree (bx1:=bx') fun s hs=>(cT s oM).trans (hb s hs)) hq oM oM) oM l hl hd bx' fun _ _=>rfl) rfl ?_;rintro d bK ⟨rfl,bV⟩;simp(disch:=omega) only[go_sem];refine aY (fun hc=>?_) (fun hc=>?_)
  ·simp(disch:=omega) only[go_sem];rw[my]at hc;refine⟨?_,fun s hs=>(bV s oM).trans (cT s hs)⟩;rw[show l.all p=false by simpa using hc]
  ·simp(disch:=omega) only[go_sem,h2,h7,h8,h9];rw[my]at hc;refine⟨rfl,fun _=>by simpa using hc,by rw[bV _ oM];exact hq,fun s hs=>(bV s oM).trans (cT s hs)⟩
 ·rintro σ bx' ⟨h2,h7,h8,h9,hp,hq,cT⟩;have h9:σ 9= .int .i64 (1:Int):=h9;simp(disch:=omega) only[go_sem,h8,h9,Int.reduceLT];exact⟨by rw[hp oM],cT⟩
def UD(B:Nat){bO:Int->Prop}{p:Int->Bool}(hf:cn f caps n0 k bx0 (D.int .i64) bO p)(hn:n0<=B)(hk:B+17<=k)(l:List Int)(hl:l.length<=140737488355328)(hd:∀x∈l,bO x)(bx:ae)(hb:∀s,s<n0->bx s=bx0 s):
 bj prog 310 0 [.fn (.func f) caps,.sl 1 [.sl 1 (l.map (D.int .i64))]] bx (fun d bx'=>d= .bool (l.all p)/\∀s,s<B->bx' s=bx s) (fun _ _=>False):=aI (base:=B) mixed (UE B hf hn hk l hl hd bx hb) rfl aj rfl
end
end Go.V.Ty
namespace Go.V.Ty
open Go.Proofs Go.Proofs.Tryz Go.RowKit Go.V.Lx Go.V.Gr
def dI(s:ah):Bool:=iG s&& !vR.contains s
def sentence:ah:=[103,114,97,109,109,97,114,32,99,97,116,101,103,111,114,121,32,115,116,97,114,116,32,119,111,114,100,32,105,115,32,103,105,118,101,115,32,99,111,115,116,32,114,117,108,101]
def Gy:Lib.fields sentence=vR:=by decide
def Rj:ao prog 309 [.str sentence] (strs vR):=by
 have:=fields_c sentence (by decide) (by decide);rw[Gy]at this;exact this
def Vf(s:ah)(hs:s.length<=140737488355328):qh prog (cJ prog) [] f265 [.str s] (.bool (dI s)):=by
 refine ax _ [.tmp 2] 11 rfl rfl rfl aj ?_;simp(disch:=omega) only[go_sem];refine av (N3 s hs) sG ?_;simp(disch:=omega) only[go_sem];refine aY (fun h1=>?_) (fun h1=>?_)
 ·simp(disch:=omega) only[go_sem];refine av Rj sG ?_;simp(disch:=omega) only[go_sem,h1];refine av (Gs vR s (by decide)) (by simp[go_sem,strs]) ?_;simp(disch:=omega) only[go_sem,h1];exact ab (by simp[dI,h1])
 ·simp(disch:=omega) only[go_sem,h1];exact ab (by simp[dI,h1])
def ym(s:ah)(hs:s.length<=140737488355328):ao prog 265 [.str s] (.bool (dI s)):=aw mixed (Vf s hs) rfl aj rfl
def fx(a b n:Int):Bool:=decide (a<=n)&&decide (n<=b)
def aex(a b:Int)(e e' t t':Nat)(bx0:ae)(h3:bx0 3=⟨e,1,1,t,[.int .i64 a]⟩)(h4:bx0 4=⟨e',1,1,t',[.int .i64 b]⟩):cn 311 [.loc 3 e 0 0,.loc 4 e' 0 0] 5 1000 bx0 (D.int .i64) (fun _=>True) (fx a b):=by
 intro bx x hb _;refine aI (fn:=f311) (tab:=[]) (base:=1000) mixed ?_ rfl aj rfl;refine aJ _ [.tmp 4] 13 rfl rfl rfl aj ?_;have g3:=(hb 3 oM).trans h3;have g4:=(hb 4 oM).trans h4;simp(disch:=omega) only[go_sem,g3];refine aY (fun h1=>?_) (fun h1=>?_)
 ·simp(disch:=omega) only[go_sem,g4,h1];refine⟨?_,fun _ _=>trivial⟩;simp[fx]at h1⊢;simp[h1]
 ·simp(disch:=omega) only[go_sem,h1];refine⟨?_,fun _ _=>trivial⟩;simp[fx]at h1⊢;omega
def MC(a b:Int)(l:List Int)(hl:l.length<=140737488355328):mf prog (cJ prog) [] f266 0 [.int .i64 a,.int .i64 b,.sl 1 (l.map (D.int .i64))] (fun _=> .none) (fun d _=>d= .bool (l.all (fx a b))) (fun _ _=>False):=by
 refine aJ _ [.tmp 6] 11 rfl rfl rfl aj ?_;simp(disch:=omega) only[go_sem];refine aC (UD 20 (aex a b 1 1 3 3 _ (by simp[ak,Bx.none]) (by simp[ak,Bx.none])) oM oM l hl (fun _ _=>trivial) _ (fun _ _=>rfl)) rfl ?_;rintro d bK ⟨rfl,_⟩;simp(disch:=omega) only[go_sem]
def MA(a b:Int)(l:List Int)(hl:l.length<=140737488355328):ao prog 266 [.int .i64 a,.int .i64 b,.sl 1 (l.map (D.int .i64))] (.bool (l.all (fx a b))):=
 (aI mixed (MC a b l hl) rfl aj rfl).to (fun _ _ h=>h) (fun d' bx' h=>⟨.bool (l.all (fx a b)),by rw[h];rfl,.refl _⟩)
def o9(a b n:Int):ao prog 266 [.int .i64 a,.int .i64 b,.sl 1 [.int .i64 n]] (.bool (fx a b n)):=by
 have:=MA a b [n] sI;simpa using this
def small(s:ah):Prop:=s.length<=140737488355328
def Vg(k:Nat)(bx0:ae):cn 265 [] 0 k bx0 D.str small dI:=cn.of (fun x h=>ym x h) (fun _=>rfl) k bx0
def En(l:List ah)(hl:l.length<=140737488355328)(hs:∀x∈l,small x):ao prog 267 [.fn (.func 265) [],.sl 1 [.sl 1 (l.map D.str)]] (.bool (l.all dI)):=
 (UJ 0 (Vg 1000 (fun _=> .none)) (Nat.le_refl _) oM l hl hs (fun _=> .none) (fun _ _=>rfl)).to (fun _ _ h=>h) (fun d' bx' h=>⟨.bool (l.all dI),by rw[h.1];rfl,.refl _⟩)
def FD(f:FuncId)(caps:List D)(n0:Nat)(bx0:ae)(p:ah->Bool):Prop:=
 ∀(bx:ae) (s:ah),(∀q,q<n0->bx q=bx0 q)->small s->bj prog f 0 (.str s::caps) bx (fun d bx'=>(∃n:Int,d= .aL [.int .i64 n,.bool (p s)])/\∀q,q<100000->bx' q=bx q) (fun _ _=>False)
section
variable {f:FuncId} {caps:List D} {n0:Nat} {bx0:ae} {p:ah->Bool}
def Y7{e t:Nat}(hf:FD f caps n0 bx0 p)(hn:n0<=200)(h3:bx0 203=⟨e,1,1,t,[.fn (.func f) caps]⟩):cn 263 [.loc 203 e 0 0] 204 100000 bx0 D.str small p:=by
 intro bx x hb hs;refine aI (fn:=f263) (tab:=[]) (base:=700) mixed ?_ rfl aj rfl;refine aJ _ [.tmp 3] 13 rfl rfl rfl aj ?_;have g3:=(hb 203 oM).trans h3;simp(disch:=omega) only[go_sem,g3];refine aC (hf bx x (fun s hs=>hb s oM) hs) rfl ?_;rintro d bK ⟨⟨n,rfl⟩,bV⟩;simp(disch:=omega) only[go_sem];exact bV
structure Mq(x:Entry):Prop where
 text:small x.text
 cat:small x.cat
 len:x.aM.length<=140737488355328
 aM:∀s∈x.aM,small s
structure Mr(x:Part):Prop where
 text:small x.text
 cat:small x.cat
structure Jk(x:aE):Prop where
 cat:small x.cat
 wV:x.parts.length<=140737488355328
 KY:x.aM.length<=140737488355328
 parts:∀y∈x.parts,Mr y
 aM:∀y∈x.aM,small y.text
structure mK(g:aS):Prop where
 name:small g.name
 start:small g.start
 A7:g.au.length<=140737488355328
 A_:g.entries.length<=140737488355328
 zq:g.rules.length<=140737488355328
 au:∀s∈g.au,small s
 en:∀x∈g.entries,Mq x
 rules:∀x∈g.rules,Jk x
def fD(p:ah->Bool)(x:Entry):Bool:=dI x.text&&(p x.cat&&(fx 1 4 x.aM.length&&(x.aM.all dI&&fx 0 1000 x.cost)))
def mR(p:ah->Bool)(x:Part):Bool:=(decide (x.text=[])&&p x.cat)||(!decide (x.text=[])&&(decide (x.cat=[])&&dI x.text))
def S7{e t:Nat}{cf:FuncId}{cc:List D}{m0:Nat}(hc:cn cf cc m0 100000 bx0 D.str small p)(hm:m0<=206)(h5:bx0 205=⟨e,1,1,t,[.fn (.func cf) cc]⟩):cn 264 [.loc 205 e 0 0] 206 400 bx0 Entry.d Mq (fD p):=by
 intro bx x hb hx;refine aI (fn:=f264) (tab:=[]) (base:=400) mixed ?_ rfl aj rfl;refine aJ _ [.tmp 3] 32 rfl rfl rfl aj ?_;have g5:=(hb 205 oM).trans h5;simp(disch:=omega) only[go_sem,Entry.d,strs];refine av (ym x.text hx.text) sG ?_;simp(disch:=omega) only[go_sem];refine aY (fun h1=>?_) (fun h1=>?_)
 ·simp(disch:=omega) only[go_sem,g5,h1];refine aC (hc _ x.cat (fun s hs=>by rw[aB oM];exact hb s oM) hx.cat) rfl ?_;rintro d bK ⟨rfl,bV⟩;have g2:=bV 402 oM;rw[eC]at g2;simp(disch:=omega) only[go_sem,h1];refine aY (fun h2=>?_) (fun h2=>?_)
  ·simp(disch:=omega) only[go_sem,h1,h2,g2];refine av (o9 1 4 x.aM.length) sG ?_;simp(disch:=omega) only[go_sem,h1,h2];refine aY (fun h3=>?_) (fun h3=>?_)
   ·simp(disch:=omega) only[go_sem,h1,h2,h3,g2];refine av (En x.aM hx.len hx.aM) sG ?_;simp(disch:=omega) only[go_sem,h1,h2,h3];refine aY (fun h4=>?_) (fun h4=>?_)
    ·simp(disch:=omega) only[go_sem,h1,h2,h3,h4,g2];refine av (o9 0 1000 x.cost) sG ?_;simp(disch:=omega) only[go_sem,h1,h2,h3,h4];exact⟨by simp[fD,h1,h2,h3,h4],fun s hs=>(bV s oM).trans (aB oM)⟩
    ·simp(disch:=omega) only[go_sem,h1,h2,h3,h4];exact⟨by simp[fD,h1,h2,h3,h4],fun s hs=>(bV s oM).trans (aB oM)⟩
   ·simp(disch:=omega) only[go_sem,h1,h2,h3];exact⟨by simp[fD,h1,h2,h3],fun s hs=>(bV s oM).trans (aB oM)⟩
  ·simp(disch:=omega) only[go_sem,h1,h2];exact⟨by simp[fD,h1,h2],fun s hs=>(bV s oM).trans (aB oM)⟩
 ·simp(disch:=omega) only[go_sem,h1];exact⟨by simp[fD,h1],fun s hs=>aB oM⟩
def Xl{e t:Nat}{cf:FuncId}{cc:List D}{m0:Nat}(hc:cn cf cc m0 100000 bx0 D.str small p)(hm:m0<=206)(h5:bx0 205=⟨e,1,1,t,[.fn (.func cf) cc]⟩):cn 268 [.loc 205 e 0 0] 206 650 bx0 Part.d Mr (mR p):=by
 intro bx x hb hx;refine aI (fn:=f268) (tab:=[]) (base:=650) mixed ?_ rfl aj rfl;refine aJ _ [.tmp 3] 28 rfl rfl rfl aj ?_;have g5:=(hb 205 oM).trans h5;simp(disch:=omega) only[go_sem,Part.d];refine bg (fun h1=>?_) (fun h1=>?_)
 ·simp(disch:=omega) only[go_sem,g5,h1];refine aC (hc _ x.cat (fun s hs=>by rw[aB oM];exact hb s oM) hx.cat) rfl ?_;rintro d bK ⟨rfl,bV⟩;have g2:=bV 652 oM;rw[eC]at g2;simp(disch:=omega) only[go_sem,h1];refine aY (fun h2=>?_) (fun h2=>?_)
  ·simp(disch:=omega) only[go_sem,h1,h2];exact⟨by simp[mR,h1,h2],fun s hs=>(bV s oM).trans (aB oM)⟩
  ·simp(disch:=omega) only[go_sem,h1,h2,g2];exact⟨by simp[mR,h1,h2],fun s hs=>(bV s oM).trans (aB oM)⟩
 ·simp(disch:=omega) only[go_sem,h1];refine bg (fun h2=>?_) (fun h2=>?_)
  ·simp(disch:=omega) only[go_sem,h1,h2];refine av (ym x.text hx.text) sG ?_;simp(disch:=omega) only[go_sem,h1,h2];exact⟨by simp[mR,h1,h2],fun s hs=>aB oM⟩
  ·simp(disch:=omega) only[go_sem,h1,h2];exact⟨by simp[mR,h1,h2],fun s hs=>aB oM⟩
end
end Go.V.Ty
