/- Lex: the contracts of the library's functions, on data. -/
import Derived.Test.YtkgloohlmogakaaGreatDoorVD
import Derived.Test.YtkgloohlmogakaaGreatDoorVt
import Derived.Test.YtkgloohlmogakaaGreatDoorSh
import Derived.Ground.NamesProg
import Derived.Shelf.Strings.Prefix
import Derived.Shelf.Strings.Fields
import Derived.Shelf.Small.Strs
import Derived.Shelf.Slices.Turned
import Derived.Shelf.Strconv.Itoa3
import Derived.Shelf.Strconv.AtoiAll
import Derived.Shelf.Strings.OnBuilder
set_option linter.unusedSimpArgs false
set_option linter.unusedVariables false
set_option maxRecDepth 100000
namespace Go.Proofs
open Go.Shelf
end Go.Proofs
namespace Go.V.Lx
open Go.Proofs Go.RowKit
theorem mixed:Tryz.prog.follows .mixedOrders=true:=aj
theorem arg2{w:World}{S:Nat->Prop}{vs:Array Value}{x y:D}(hl:vs.size=[x,y].length)(hv:∀(i:Nat) d v,[x,y][i]? =some d->vs[i]? =some v->ba w S d v):∃u v,vs= #[u,v]/\ba w S x u/\ba w S y v:=by
 obtain⟨l⟩:=vs
 match l,hl with
 |[u,v],_=>exact⟨u,v,rfl,hv 0 x u rfl rfl,hv 1 y v rfl rfl⟩
theorem arg1{w:World}{S:Nat->Prop}{vs:Array Value}{x:D}(hl:vs.size=[x].length)(hv:∀(i:Nat) d v,[x][i]? =some d->vs[i]? =some v->ba w S d v):∃u,vs= #[u]/\ba w S x u:=by
 obtain⟨l⟩:=vs
 match l,hl with
 |[u],_=>exact⟨u,rfl,hv 0 x u rfl rfl⟩
theorem fl{w:World}{S:Nat->Prop}{s:List UInt8}{v:Value}(h:ba w S (.str s) v):v= .string ⟨s.toArray⟩:=by cases h;rfl
theorem cy{w:World}{S:Nat->Prop}{k:IntKind}{n:Int}{v:Value}(h:ba w S (.int k n) v):v= .int k n:=by cases h;rfl
theorem of_same{P:Program}{f:FuncId}{w:World}{S:Nat->Prop}{vs:Array Value}{d:D}{r:Value}(he:(callFunc f vs).run P w= .ok (.enter f vs) w)(hd:∀w' S',ba w' S' d r)(h:Calls P f vs w fun e w'=>e= .returned r/\Below w.heap.size w w'):
 ((callFunc f vs).run P w= .ok (.enter f vs) w/\Calls P f vs w (fun e w'=>∃v,e= .returned v/\bG w S d v w'))\/(∃v w',(callFunc f vs).run P w= .ok (.value v) w'/\bG w S d v w'):=
 .inl ⟨he,Calls.mono h fun e w' ⟨h1,h2⟩=>⟨r,h1,hd _ _,h2⟩⟩
theorem same_below{w w':World}(h:w'=w):Below w.heap.size w w':=by rw[h];exact Below.refl _ _
theorem indexByte_c(s:List UInt8)(c:UInt8):aq Tryz.prog 322 [.str s,.int .u8 (c.toNat:Int)] (.int .i64 (Lib.indexByte s c)):=by
 intro w S vs hS hg hl hv;obtain⟨u,v,rfl,hu,hv⟩:=arg2 hl hv;rw[fl hu,cy hv];refine of_same (Go.MuLone.run_callFunc_enter (fn:=Tryz.f322) rfl aj rfl _ w) (fun _ _=> .int _ _) (Calls.mono (Any.strings_IndexByte Tryz.lays137 _ _ w) fun e w' ⟨h1,h2⟩=>⟨?_,same_below h2⟩);rw[h1];simp
theorem glo_at{w:World}{S:Nat->Prop}{v:Value}{b:Nat}{d:D}(h:ba w S .glo v)(hg:ue b=some d):ba w S (.cref d 0) (.pointer (some ⟨b,0,none⟩)):=by
 cases h with
 |glo _ h _=>exact h b d hg
theorem glo_cells{w:World}{S:Nat->Prop}{v:Value}{b:Nat}{cs:Array Value}(h:ba w S .glo v)(hg:Dr b=some cs):∃ty sp,w.heap[b]? =some (.cells cs ty sp):=by
 cases h with
 |glo _ _ h=>exact(h b cs hg).2
theorem fields_c(s:List UInt8)(hs:s.length<4294967281)(ha:∀b∈s,b.toNat<128):aq Tryz.prog 309 [.str s] (.sl 1 ((Lib.fields s).map D.str)):=by
 intro w S vs hS hg hl hv;obtain⟨u,rfl,hu⟩:=arg1 hl hv;rw[fl hu];obtain⟨ty,sp,hc⟩:=glo_cells (b:=0) hg rfl;have hn:Tryz.prog.globalNamed "strings.asciiSpace"=some 0:=by kernel_rfl
 have htab:Lib.TabIs Tryz.prog w "strings.asciiSpace" .u8 Lib.asciiSpaceTab:=by simp only[Lib.TabIs,World.var?,hn,Option.bind_some,hc]
 refine .inl ⟨Go.MuLone.run_callFunc_enter (fn:=Tryz.f309) rfl aj rfl _ w,Calls.mono (Any.strings_Fields Tryz.lays157 aj hn ⟨s.toArray⟩ w (by show s.toArray.size<_;simpa using hs) (fun j b hb=>ha b (List.mem_of_getElem? (by simpa using hb))) htab) ?_⟩;rintro e w' ⟨h1,h2⟩;refine⟨_,h1,?_,by rw[h2];exact(Below.refl _ _).alloc (Nat.le_refl _) _⟩;rw[h2];show ba _ _ (.sl 1 ((Lib.fields s).map D.str)) (.slice _ (Lib.fields s).length (Lib.fields s).length);have hmax:(Lib.fields s).length<=maxLen:=by
  have:=Lib.fields_length s;have h3:∀(l:List UInt8) (b:Bool),Lib.cntF b l<=l.length:=by
   intro l;induction l with
   |nil=>intro b;simp[Lib.cntF]
   |cons x l ih=>intro b;simp only[Lib.cntF,List.length_cons];have:=ih (Lib.isSp x);split<;>omega
  have:=h3 s true;simp only[maxLen];omega
 refine .sl (b:=w.heap.size) (off:=0) (us:=fun i _=> .string ⟨((Lib.fields s)[i]?.getD []).toArray⟩) sI (Nat.le_refl _) hmax (fun _=>⟨rfl,.inr ⟨Nat.le_refl _,by simp⟩⟩) (fun i d hd=>?_) (fun i d j c hd hj=>?_) (fun i d j c hd hj=>?_) (fun i d j c hd hj=>?_)
 ·rw[List.getElem?_map,Option.map_eq_some_iff]at hd;obtain⟨x,_,rfl⟩:=hd;rfl
 ·rw[List.getElem?_map,Option.map_eq_some_iff]at hd;obtain⟨x,hx,rfl⟩:=hd;have hj0:j=0:=by
   cases j with
   |zero=>rfl
   |succ j=>simp[D.cells]at hj
  subst hj0;have hlt:=(List.getElem?_eq_some_iff.1 hx).1;simp only[World.cell?,heap_alloc_new];simp[hx,hlt,List.getElem?_eq_getElem]
 ·rfl
 ·rw[List.getElem?_map,Option.map_eq_some_iff]at hd;obtain⟨x,hx,rfl⟩:=hd;have hj0:j=0:=by
   cases j with
   |zero=>rfl
   |succ j=>simp[D.cells]at hj
  subst hj0;simp only[D.cells,List.getElem?_cons_zero,Option.some.injEq]at hj;subst hj;simp only[hx,Option.getD_some];exact .str x
end Go.V.Lx
namespace Go.V.Lx
open Go.Proofs Go.RowKit
structure Tok where
 k:Int
 t:List UInt8
 n:Int
 a:Int
 deriving DecidableEq
def Tok.d(x:Tok):D:=.agg [.int .i64 x.k,.str x.t,.int .i64 x.n,.int .i64 x.a]
def fe:List UInt8:=[123,125,40,41,59,44,61,58,46,60,62,33,43,45,42,47]
def isLt(n:Int):Bool:=decide (97<=n)&&decide (n<=122)||decide (65<=n)&&decide (n<=90)
def r7(n:Int):Bool:=decide (48<=n)&&decide (n<=57)
def isSp(n:Int):Bool:=n==32||n==9||n==10||n==13
def Dz(c:UInt8):Bool:=decide (0<=Lib.indexByte fe c)
def cls(c:UInt8):Int:=if isLt c.toNat then 2 else if r7 c.toNat then 3 else if(c.toNat:Int)==95 then 5 else if isSp c.toNat then 1 else if Dz c then 4 else 0
def eO(c:UInt8):Bool:=isLt c.toNat||r7 c.toNat||(c.toNat:Int)==95
def fc(s:List UInt8):Bool:=match s with
 |[]=>false
 |c::_=>decide (s.length<=32)&&isLt c.toNat&&s.all eO
theorem ab{x y:D}(h:x=y):bk x y:=h▸ .refl _
theorem br{tab:List (Nat×List (Nat×Nat))}{base nxt lo:Nat}{yl:Option (List (List D)×Nat×Nat)}{pn df:Bool}{P:Program}{bx:ae}{f:Nat}{ds:List D}{K2:Cl->D->ae->Prop}{d:D}(h:aq P f ds d)(hp:D.aF ds=true)(hk:K2 .n d bx):dV ⟨bK P,tab,base,nxt,lo,yl,pn,df⟩ f ds bx K2:=au h hp hk
theorem bw{tab:List (Nat×List (Nat×Nat))}{base nxt lo:Nat}{yl:Option (List (List D)×Nat×Nat)}{pn df:Bool}{P:Program}{tb:FuncId->Nat->List D->ae->(D->ae->Prop)->(D->ae->Prop)->Prop}{it:FuncId->List D->List (List D)->Nat->Prop}{ib:FuncId->Bx->List (List D)->Option D->Nat->Prop}{bx:ae}{f:Nat}{ds:List D}{K2:Cl->D->ae->Prop}{d:D}(h:aq P f ds d)(hp:D.aF ds=true)(hk:K2 .n d bx):dV ⟨⟨(bK P).to,tb,it,ib⟩,tab,base,nxt,lo,yl,pn,df⟩ f ds bx K2:=au h hp hk
end Go.V.Lx
namespace Go.V.Lx
open Go.Proofs Go.RowKit
theorem Jt(c:UInt8):lI Tryz.prog (bK Tryz.prog) [] Tryz.f278 [.int .u8 (c.toNat:Int)] (.int .i64 (cls c)):=by
 refine aw _ [.tmp 2] _ rfl rfl rfl aj ?_;have hx:Int.toNat (c.toNat:Int)=c.toNat:=by simp
 repeat' (first
  |with_reducible refine ar (fun _=>?_) (fun _=>?_)
  |with_reducible refine an (fun _=>?_) (fun _=>?_)
  |(refine au (indexByte_c fe c) sG ?_)
  |simp(disch:=omega) only[go_sem, *])
 all_goals
  refine ab ?_;simp[cls,isLt,r7,isSp,Dz, *]
theorem s5(c:UInt8):aq Tryz.prog 278 [.int .u8 (c.toNat:Int)] (.int .i64 (cls c)):=av mixed (Jt c) rfl aj rfl
end Go.V.Lx
namespace Go.V.Lx
open Go.Proofs Go.RowKit
theorem aP{α:Type}{l:List α}{k:Nat}(h:k<l.length):∃x,l[k]? =some x:=⟨l[k],List.getElem?_eq_getElem h⟩
theorem iF{α:Type}(p:α->Bool){l:List α}{k:Nat}{x:α}(hx:l[k]? =some x)(h:(l.take k).all p=true)(hp:p x=true):(l.take (k+1)).all p=true:=by
 rw[List.take_add_one,hx,List.all_append,h];simp[hp]
theorem kW{α:Type}(p:α->Bool){l:List α}{k:Nat}{x:α}(hx:l[k]? =some x)(hp:p x=false):l.all p=false:=by
 rw[List.all_eq_false];exact⟨x,List.mem_of_getElem? hx,by simp[hp]⟩
theorem EV(c:UInt8):decide (cls c=2)=isLt c.toNat:=by
 unfold cls;cases isLt c.toNat<;>cases r7 c.toNat<;>cases((c.toNat:Int)==95)<;>cases isSp c.toNat<;>cases Dz c<;>rfl
theorem GU(c:UInt8):eO c=(decide (cls c=2)||decide (cls c=3)||decide (cls c=5)):=by
 unfold cls eO;cases isLt c.toNat<;>cases r7 c.toNat<;>cases((c.toNat:Int)==95)<;>cases isSp c.toNat<;>cases Dz c<;>rfl
theorem Mq(s:List UInt8)(hs:s.length<=140737488355328):lI Tryz.prog (bK Tryz.prog) [] Tryz.f232 [.str s] (.bool (fc s)):=by
 refine aw _ [.tmp 2] _ rfl rfl rfl aj ?_
 match s,hs with
 |[],hs=>
  simp(disch:=omega) only[go_sem, *];exact .refl _
 |c::r,hs=>
  have hx:(c::r)[0]? =some c:=rfl;repeat' (first|with_reducible refine ar (fun _=>?_) (fun _=>?_)|with_reducible refine an (fun _=>?_) (fun _=>?_)|with_reducible refine br (s5 c) sG ?_|with_reducible refine bw (s5 c) sG ?_|simp(disch:=omega) only[go_sem, *])
  ·exact ab (by simp_all)
  ·refine ab ?_;have:¬(c::r).length<=32:=by simp only[List.length_cons];omega
   simp only[fc,this,decide_false,Bool.false_and]
  ·rename_i _ hle hc;have hlt:isLt c.toNat=true:=by rw[<-EV,hc];rfl
   have hnb:fc (c::r)=(c::r).all eO:=by
    have:(c::r).length<=32:=by simp only[List.length_cons];omega
    simp only[fc,this,decide_true,hlt,Bool.true_and]
   rw[hnb];obtain⟨z,hz⟩:∃z,z=c::r:=⟨_,rfl⟩
   have hlen:z.length=r.length+1:=by rw[hz];rfl
   rw[<-hz];refine aX z.length (fun k σ _=>σ 0= .str z/\σ 19= .int .i64 ((r.length+1:Nat):Int)/\σ 20= .int .i64 k/\(z.take k).all eO=true)
    ⟨by simp[go_sem,aR,hz],by simp[go_sem],by simp[go_sem],by simp⟩ ?_ ?_
   ·clear hz hnb;rintro k σ bx hk ⟨h0,h19,h20,hb⟩;obtain⟨x,hx⟩:=aP hk;simp(disch:=omega) only[go_sem,h0,h19,h20];refine rN oM ?_;have hp:=GU x;have bad:eO x=false->bk (D.bool false) (.bool (z.all eO)):=fun h=>ab (by rw[kW eO hx h]);have good:eO x=true->(z.take (k+1)).all eO=true:=fun h=>iF eO hx hb h;repeat' (first|with_reducible refine ar (fun _=>?_) (fun _=>?_)|with_reducible refine an (fun _=>?_) (fun _=>?_)|with_reducible refine br (s5 x) sG ?_|with_reducible refine bw (s5 x) sG ?_|simp(disch:=omega) only[go_sem, *])
    all_goals first
     |(rw[aK oM];exact⟨rfl,good (by rw[hp];simp[*])⟩)
     |exact bad (by rw[hp];simp[*])
     |trace_state
   ·rintro σ bx ⟨h0,h19,h20,hb⟩;simp(disch:=omega) only[go_sem,h0,h19,h20];refine zx oM ?_;simp(disch:=omega) only[go_sem];rw[List.take_length]at hb;exact ab (by rw[hb])
  ·rename_i hc;refine ab ?_;have hlt:isLt c.toNat=false:=by rw[<-EV];simp[hc]
   simp only[fc,hlt,Bool.and_false,Bool.false_and]
theorem FK(s:List UInt8)(hs:s.length<=140737488355328):aq Tryz.prog 232 [.str s] (.bool (fc s)):=av mixed (Mq s hs) rfl aj rfl
end Go.V.Lx
namespace Go.V.Gr
open Go.Proofs Go.RowKit Go.V.Lx
abbrev ah:=List UInt8
structure Part where
 cat:ah
 no:Int
 text:ah
 deriving DecidableEq
structure ct where
 part:Int
 text:ah
 deriving DecidableEq
structure Entry where
 text:ah
 cat:ah
 no:Int
 gives:List ah
 cost:Int
 deriving DecidableEq
structure aC where
 cat:ah
 no:Int
 parts:List Part
 gives:List ct
 cost:Int
 deriving DecidableEq
structure aO where
 name:ah
 cats:List ah
 start:ah
 no:Int
 entries:List Entry
 rules:List aC
 deriving DecidableEq
def aO.zero:aO:=⟨[],[],[],0,[],[]⟩
@[reducible] def strs(l:List ah):D:=.sl 1 (l.map D.str)
def Part.d(x:Part):D:=.agg [.str x.cat,.int .i64 x.no,.str x.text]
def ct.d(x:ct):D:=.agg [.int .i64 x.part,.str x.text]
def Entry.d(x:Entry):D:=.agg [.str x.text,.str x.cat,.int .i64 x.no,strs x.gives,.int .i64 x.cost]
def aC.d(x:aC):D:=.agg [.str x.cat,.int .i64 x.no,.sl 3 (x.parts.map Part.d),.sl 2 (x.gives.map ct.d),.int .i64 x.cost]
def aO.d(x:aO):D:=.agg [.str x.name,strs x.cats,.str x.start,.int .i64 x.no,.sl 5 (x.entries.map Entry.d),.sl 5 (x.rules.map aC.d)]
def Bm:ah:=[103,114,97,109,109,97,114]
def yq:ah:=[99,97,116,101,103,111,114,121]
def Gu:ah:=[115,116,97,114,116]
def Jh:ah:=[119,111,114,100]
def Rp:ah:=[105,115]
def Gt:ah:=[103,105,118,101,115]
def Jf:ah:=[99,111,115,116]
def Jg:ah:=[114,117,108,101]
def p9:List ah:=[Bm,yq,Gu,Jh,Rp,Gt,Jf,Jg]
theorem rY:∀(l:List ah) (k:Nat) (x:ah),l[k]? =some x->x∉l.take k->l.idxOf x=k/\x∈l
 |[],k,x,h,_=>by simp at h
 |y::l,0,x,h,_=>by simp at h;subst h;simp
 |y::l,k+1,x,h,hn=>by
  simp only[List.take_succ_cons,List.mem_cons,not_or]at hn;obtain⟨h1,h2⟩:=rY l k x (by simpa using h) hn.2;exact⟨by
  have hb:(y==x)=false:=by simpa using Ne.symm hn.1
  rw[List.idxOf_cons,hb,h1];rfl,List.mem_cons_of_mem _ h2⟩
theorem JY(l:List ah)(t:ah)(hl:l.length<=140737488355328):lI Tryz.prog (bK Tryz.prog) [] Tryz.f333 [strs l,.str t] (.int .i64 (if l.contains t then(l.idxOf t:Int)else -1)):=by
 refine aw _ [.tmp 4] _ rfl rfl rfl aj ?_;simp(disch:=omega) only[go_sem,strs];refine aX l.length (fun k σ bx=>σ 0=strs l/\σ 1= .str t/\σ 7= .int .i64 l.length/\σ 8= .int .i64 k/\¬t∈l.take k) ?_ ?_ ?_
 ·simp[go_sem,aR,strs]
 ·rintro k σ bx hk ⟨h0,h1,h7,h8,hn⟩;obtain⟨x,hx⟩:=aP hk;have hlt:(k:Int)<(l.length:Int):=oM;repeat' (first|with_reducible refine ar (fun _=>?_) (fun _=>?_)|with_reducible refine an (fun _=>?_) (fun _=>?_)|simp(disch:=omega) only[go_sem, *,h0,h1,h7,h8,hlt,strs,hx])
  ·rename_i hx2;subst hx2;obtain⟨g1,g2⟩:=rY l k _ hx hn;exact ab (by rw[if_pos (by simpa using g2),g1])
  ·rename_i hne;rw[aK oM];refine⟨rfl,fun hm=>?_⟩;rw[List.take_add_one,hx]at hm;simp at hm;rcases hm with hm|hm
   ·exact hn hm
   ·exact hne hm
 ·rintro σ bx ⟨h0,h1,h7,h8,hn⟩;have hlt:¬(l.length:Int)<(l.length:Int):=oM;repeat' (first|with_reducible refine ar (fun _=>?_) (fun _=>?_)|with_reducible refine an (fun _=>?_) (fun _=>?_)|simp(disch:=omega) only[go_sem, *,h0,h1,h7,h8,hlt])
  rw[List.take_length]at hn;exact ab (by rw[if_neg (by simpa using hn)])
theorem cr(l:List ah):D.aF (l.map D.str)=true:=mI _ _ fun _=>by simp[D.pure]
theorem JX(l:List ah)(t:ah)(hl:l.length<=140737488355328):aq Tryz.prog 333 [strs l,.str t] (.int .i64 (if l.contains t then(l.idxOf t:Int)else -1)):=av mixed (JY l t hl) rfl aj rfl
theorem De(l:List ah)(t:ah)(hl:l.length<=140737488355328):lI Tryz.prog (bK Tryz.prog) [] Tryz.f308 [strs l,.str t] (.bool (l.contains t)):=by
 refine aw _ [.tmp 4] _ rfl rfl rfl aj ?_;simp(disch:=omega) only[go_sem];refine au (JX l t hl) (by simp[go_sem,strs,cr]) ?_;simp(disch:=omega) only[go_sem];refine ab (congrArg D.bool ?_);cases h:l.contains t
 ·simp
 ·simp
theorem zy(l:List ah)(t:ah)(hl:l.length<=140737488355328):aq Tryz.prog 308 [strs l,.str t] (.bool (l.contains t)):=av mixed (De l t hl) rfl aj rfl
structure Sz(g:aO):Prop where
 cats:g.cats.length<=140737488355328
 ents:g.entries.length<=140737488355328
 ruls:g.rules.length<=140737488355328
 ent:∀x∈g.entries,x.gives.length<=140737488355328
 rul:∀x∈g.rules,x.parts.length<=140737488355328/\x.gives.length<=140737488355328
theorem iw:∀l:List Part,D.aF (l.map Part.d)=true:=fun l=>mI _ _ fun _=>rfl
theorem kO:∀l:List ct,D.aF (l.map ct.d)=true:=fun l=>mI _ _ fun _=>rfl
theorem qN:∀l:List Entry,D.aF (l.map Entry.d)=true:=fun l=>mI _ _ fun x=>by simp[Entry.d,D.pure,D.aF,strs,cr]
theorem uu:∀l:List aC,D.aF (l.map aC.d)=true:=fun l=>mI _ _ fun x=>by simp[aC.d,D.pure,D.aF,iw,kO]
theorem gO(g:aO):g.d.pure=true:=by simp[aO.d,D.pure,D.aF,strs,cr,qN,uu]
theorem nP{α:Type}[DecidableEq α]{l m:List α}{k:Nat}{x y:α}(hx:l[k]? =some x)(hy:m[k]? =some y)(h:l.take k=m.take k)(e:x=y):l.take (k+1)=m.take (k+1):=by rw[List.take_add_one,List.take_add_one,h,hx,hy,e]
theorem G_(l m:List Part)(hl:l.length<=140737488355328)(hm:m.length<=140737488355328):lI Tryz.prog (bK Tryz.prog) [] Tryz.f177 [.sl 3 (l.map Part.d),.sl 3 (m.map Part.d)] (.bool (decide (l=m))):=by
 refine aw _ [.tmp 4] _ rfl rfl rfl aj ?_;simp(disch:=omega) only[go_sem];refine ar (fun h1=>?_) (fun h1=>?_)
 ·have h1:l.length=m.length:=oM;simp(disch:=omega) only[go_sem];refine aX l.length (fun k σ bx=>σ 0= .sl 3 (l.map Part.d)/\σ 1= .sl 3 (m.map Part.d)/\σ 12= .int .i64 l.length/\σ 13= .int .i64 k/\l.take k=m.take k) ?_ ?_ ?_
  ·simp[go_sem,aR]
  ·rintro k σ bx hk ⟨h0,h1',h7,h8,hn⟩;obtain⟨x,hx⟩:=aP hk;obtain⟨y,hy⟩:=aP (show k<m.length by omega);have hlt:(k:Int)<(l.length:Int):=oM;have hlt2:(k:Int)<(m.length:Int):=oM;obtain⟨a,b,c⟩:=x;obtain⟨a',b',c'⟩:=y;repeat' (first|with_reducible refine ar (fun _=>?_) (fun _=>?_)|with_reducible refine an (fun _=>?_) (fun _=>?_)|simp(disch:=omega) only[go_sem, *,h0,h1',h7,h8,hlt,hlt2,hx,hy,Part.d])
   all_goals first
    |(rename_i hxy;rw[aK oM];exact⟨rfl,nP hx hy hn (by simpa using hxy)⟩)
    |(
     rename_i hxy;refine ab (congrArg D.bool ?_);refine(decide_eq_false fun e=>?_).symm;rw[e,hy]at hx;injection hx with hx;injection hx
     subst_vars
     simp at hxy)
  ·rintro σ bx ⟨h0,h1',h7,h8,hn⟩;have hlt:¬(l.length:Int)<(l.length:Int):=oM;simp(disch:=omega) only[go_sem,h0,h1',h7,h8,hlt];rw[List.take_length,h1,List.take_length]at hn;exact ab (congrArg D.bool (decide_eq_true hn).symm)
 ·have:¬l=m:=fun e=>h1 (by rw[e]);exact ab (congrArg D.bool (decide_eq_false this).symm)
theorem G9(l m:List Part)(hl:l.length<=140737488355328)(hm:m.length<=140737488355328):aq Tryz.prog 177 [.sl 3 (l.map Part.d),.sl 3 (m.map Part.d)] (.bool (decide (l=m))):=av mixed (G_ l m hl hm) rfl aj rfl
end Go.V.Gr
