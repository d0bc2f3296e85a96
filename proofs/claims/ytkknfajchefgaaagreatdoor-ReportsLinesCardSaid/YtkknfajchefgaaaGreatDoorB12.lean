/- Lemmas on plain data and programs: part B12. -/
import Derived.Test.YtkknfajchefgaaaGreatDoorVD
import Derived.Test.YtkknfajchefgaaaGreatDoorSh
set_option linter.all false
set_option maxHeartbeats 8000000
set_option maxRecDepth 100000
namespace Go.Proofs
open Go.Shelf Go.V
theorem Tryz.u8_156:prog.underlying (Tryz.lays156_ren.t 5)=some (.int .u8):=ar
theorem Tryz.u8_size:V.cA prog (Tryz.lays156_ren.t 5)=1:=ar
theorem Tryz.u8_agg:V.p_ prog (Tryz.lays156_ren.t 5)=false:=ar
theorem Tryz.u8_zero:(prog.info? (Tryz.lays156_ren.t 5)).bind (·.zero)=some (.int .u8 0):=ar
theorem Tryz.MS:Builder.Extra prog Tryz.lays156_ren:={
 sizeBuilder:=ar
 liesBuilder:=ar
 t5:=Tryz.u8_156
 a5:=fun w=>by rw[V.rb Tryz.u8_156,Tryz.u8_agg]
 z5:=fun w=>by rw[V.cI (by rw[Tryz.u8_size];decide),Tryz.u8_size]
 v5:=fun w=>(by
  have h:=Tryz.u8_zero;cases hi:prog.info? (Tryz.lays156_ren.t 5)with
  |none=>rw[hi]at h;cases h
  |some i=>
   rw[hi]at h;simp only[akz]at h;simp[zeroValue,typeInfo,hi,h,go_sem])
 infoByte:=ar
 cellsByte:=ar
 sizeByte:=ar
 neB5:=awL}
end Go.Proofs
namespace Go.V.Lx
open Go.Proofs Go.Proofs.Tryz Go.RowKit
def mixed:prog.follows .mixedOrders=true:=ar
def fF{f:FuncId}{ds:List D}{d:D}{c:Code}{n:Nat}(fn:Func)(tab:List (Nat×List (Nat×Nat)))(rv:List ResultVar)
 (h:cD prog ⟨dD prog,tab,0,n,0,none,false,false⟩ c (Fx prog rv d) (aM 0 ds) (fun _=> .none))
 (hc:fn.body=some c:=by exact rfl) (hr:fn.results=rv.toArray:=by exact rfl) (hn:fn.ntmps=n:=by exact rfl) (bm:codeOk tab n c=true:=by kernel_rfl)
 (hf:prog.funcs[f]? =some fn:=by exact rfl) (dJ:(fn.name== "runtime.NumGoroutine")=false:=by exact rfl) (hlen:decide (ds.length<=fn.ntmps)=true:=by kernel_rfl):av prog f ds d:=
 E2 mixed (E3 c rv n hc hr hn bm h) hf dJ hlen
def fB{f:FuncId}{ds:List D}{bx:ab}{Q Qp:D->ab->Prop}{c:Code}(n base:Nat)(fn:Func)(tab:List (Nat×List (Nat×Nat)))(rv:List ResultVar)
 (h:cD prog ⟨dD prog,tab,base,base+n,0,none,true,false⟩ c (Df prog rv Q Qp) (aM 0 ds) bx)
 (hc:fn.body=some c:=by exact rfl) (hr:fn.results=rv.toArray:=by exact rfl) (hn:fn.ntmps=n:=by exact rfl) (bm:codeOk tab n c=true:=by kernel_rfl)
 (hf:prog.funcs[f]? =some fn:=by exact rfl) (dJ:(fn.name== "runtime.NumGoroutine")=false:=by exact rfl) (hlen:decide (ds.length<=fn.ntmps)=true:=by kernel_rfl):az prog f 0 ds bx Q Qp:=
 (dY mixed (eG c rv n hc hr hn bm h) hf dJ hlen:az _ _ base _ _ _ _)
theorem Ia{w:World}{S:Nat->Prop}{vs:Array Value}{x y:D}(hl:vs.size=[x,y].length)(hv:∀(i:Nat) d v,[x,y][i]? =some d->vs[i]? =some v->bc w S d v):∃u v,vs= #[u,v]/\bc w S x u/\bc w S y v:=by
 obtain⟨l⟩:=vs
 match l,hl with
 |[u,v],_=>exact⟨u,v,rfl,hv 0 x u rfl rfl,hv 1 y v rfl rfl⟩
theorem R9{w:World}{S:Nat->Prop}{vs:Array Value}{x:D}(hl:vs.size=[x].length)(hv:∀(i:Nat) d v,[x][i]? =some d->vs[i]? =some v->bc w S d v):∃u,vs= #[u]/\bc w S x u:=by
 obtain⟨l⟩:=vs
 match l,hl with
 |[u],_=>exact⟨u,rfl,hv 0 x u rfl rfl⟩
def fj{w:World}{S:Nat->Prop}{s:List UInt8}{v:Value}(h:bc w S (.str s) v):v= .string ⟨s.toArray⟩:=by cases h;rfl
theorem cV{w:World}{S:Nat->Prop}{k:IntKind}{n:Int}{v:Value}(h:bc w S (.int k n) v):v= .int k n:=by cases h;rfl
def of_same{P:Program}{f:FuncId}{w:World}{S:Nat->Prop}{vs:Array Value}{d:D}{r:Value}(he:(callFunc f vs).run P w= .ok (.enter f vs) w)(hd:∀w' S',bc w' S' d r)(h:Calls P f vs w fun e w'=>e= .returned r/\Below w.heap.size w w'):
 ((callFunc f vs).run P w= .ok (.enter f vs) w/\Calls P f vs w (fun e w'=>∃v,e= .returned v/\bP w S d v w'))\/(∃v w',(callFunc f vs).run P w= .ok (.value v) w'/\bP w S d v w'):=
 .inl ⟨he,Calls.mono h fun e w' ⟨h1,h2⟩=>⟨r,h1,hd _ _,h2⟩⟩
def same_below{w w':World}(h:w'=w):Below w.heap.size w w':=by grind [Below.refl]
def hasPrefix_c(s p:List UInt8):av prog 271 [.str s,.str p] (.bool (Lib.hasPrefix s p)):=by
 intro w S vs hS hg hl hv;obtain⟨u,v,rfl,hu,hv⟩:=Ia hl hv;rw[fj hu,fj hv];exact of_same (Go.MuLone.run_callFunc_enter (fn:=f271) rfl ar rfl _ w) (fun _ _=> .bool _) (Calls.mono (Any.strings_HasPrefix Tryz.afH _ _ w) fun e w' ⟨h1,h2⟩=>⟨h1,same_below h2⟩)
def indexByte_c(s:List UInt8)(c:UInt8):av prog 102 [.str s,.int .u8 (c.toNat:Int)] (.int .i64 (Lib.indexByte s c)):=by
 intro w S vs hS hg hl hv;obtain⟨u,v,rfl,hu,hv⟩:=Ia hl hv;rw[fj hu,cV hv];refine of_same (Go.MuLone.run_callFunc_enter (fn:=f102) rfl ar rfl _ w) (fun _ _=> .int _ _) (Calls.mono (Any.strings_IndexByte Tryz.acn _ _ w) fun e w' ⟨h1,h2⟩=>⟨?_,same_below h2⟩);simp_all
def contains_c(l:List Int)(x:Int)(hl:l.length<=9223372036854775807):av prog 305 [.sl 1 (l.map (D.int .i64)),.int .i64 x] (.bool (l.contains x)):=by
 intro w S vs hS hg hl hv;obtain⟨u,v,rfl,hu,hv⟩:=Ia hl hv;rw[cV hv];cases hu with
 |@sl _ _ A n cap b off us hn cU gQ hA bz hc h1 hr=>
  have he:∀v,(callFunc 305 v).run prog w= .ok (.enter 305 v) w:=fun v=>Go.MuLone.run_callFunc_enter (fn:=f305) rfl ar rfl _ w;by_cases bh:l=[]
  ·subst bh;simp only[aex,aeW]at hn;subst hn;exact of_same (he _) (fun _ _=> .bool _) (Calls.mono (Any.slices_Contains_int_empty Tryz.Q_ A cap x w) fun e w' ⟨h1,h2⟩=>⟨h1,same_below h2⟩)
  ·obtain⟨rfl,_⟩:=hA awN;rw[aa0]at hn;refine of_same (he _) (fun _ _=> .bool _) (Calls.mono (Any.slices_Contains_int Tryz.Q_ b off n cap l x w oM oM (fun j hj=>?_)) fun e w' ⟨h1,h2⟩=>⟨?_,same_below h2⟩)
   ·have hx:l[j]? =some l[j]:=aaS hj;have h0:=hc j (.int .i64 l[j]) 0 (.int .i64 l[j]) awD rfl;have h2:=cV (hr j (.int .i64 l[j]) 0 (.int .i64 l[j]) awD rfl)
    exact awN
   exact awN
def glo_at{w:World}{S:Nat->Prop}{v:Value}{b:Nat}{d:D}(h:bc w S .fN v)(hg:E5 b=some d):bc w S (.bR d 0) (.pointer (some ⟨b,0,none⟩)):=by cases h<;>grind
def glo_cells{w:World}{S:Nat->Prop}{v:Value}{b:Nat}{cs:Array Value}(h:bc w S .fN v)(hg:SH b=some cs):∃ty sp,w.heap[b]? =some (.cells cs ty sp):=by cases h<;>grind
theorem drewN_below(w:World)(k:Nat)(os:Array Obj):Below w.heap.size w (Sort.grow (w.drewN k) os):=by
 refine⟨rfl,rfl,rfl,awy,fun j hj=>?_⟩
 grind [Sort.grow,World.drewN]
def itoa_c(n:Int)(h0: -9223372036854775808<=n)(h1:n<=9223372036854775807):av prog 46 [.int .i64 n] (.str (Lib.itoa n)):=by
 intro w S vs hS hg hl hv;obtain⟨u,rfl,hu⟩:=R9 hl hv;rw[cV hu];obtain⟨ty,sp,hc⟩:=glo_cells (b:=3) hg rfl;have Y_:Lib.TabIs prog w "internal/strconv.uint64pow10" .u64 Lib.pow10Tab:=by
  have hn:prog.globalNamed "internal/strconv.uint64pow10"=some 3:=ar
  grind [Lib.TabIs,World.var?]
 exact of_same (Go.MuLone.run_callFunc_enter (fn:=f46) rfl ar rfl _ w) (fun _ _=> .str _) (Calls.mono (Any.strconv_Itoa Tryz.acp n h0 h1 w Y_) fun e w' ⟨h1,k,os,h2⟩=>⟨h1,by grind [drewN_below]⟩)
def atoiD(s:List UInt8):D:=match Lib.atoiAll s with
 | .ok v=> .aL [.int .i64 v,.raw .nilIface]
 | .range=> .aL [.int .i64 (Lib.atoiSat s),.bK (Tryz.lays172_ren.t 168) .undef]
 |_=> .aL [.int .i64 0,.bK (Tryz.lays172_ren.t 168) .undef]
def aai{w:World}{S:Nat->Prop}{u v:Value}{x y:D}(h1:bc w S x u)(h2:bc w S y v):bc w S (.aL [x,y]) (.tuple #[u,v]):=by
 refine .aL rfl fun i d v hd hv=>?_
 exact awN
theorem err_at{w:World}{S:Nat->Prop}{v:Value}{b:Nat}(h:bc w S .fN v)(hg:E5 b=some (.bK 426 .undef)):∃ev,w.cell? ⟨b,0,none⟩=some ev/\(ev= .nilIface\/∃te pe,ev= .iface te pe):=by
 have h:=glo_at h hg;cases h with
 |@bR _ _ _ off _ us hS hp hc h1 hr=>
  obtain rfl:off=0:=oM;have h2:=hc 0 (.bK 426 .undef) rfl;have h3:=hr 0 (.bK 426 .undef) rfl;refine⟨_,h2,.inr ?_⟩;generalize us 0=u at h3;cases h3<;>grind
def atoi_c(s:List UInt8)(hs:s.length<=281474976710656):av prog 175 [.str s] (atoiD s):=by
 intro w S vs hS hg hl hv;obtain⟨u,rfl,hu⟩:=R9 hl hv;rw[fj hu];have he:=Go.MuLone.run_callFunc_enter (fn:=f175) (f:=175) (P:=prog) rfl ar rfl #[.string ⟨s.toArray⟩] w;have bz:(⟨s.toArray⟩:ByteArray).size=s.length:=au3
 unfold atoiD;cases hr:Lib.atoiAll s with
 |ok v=>
  refine of_same he (fun _ _=>aai (.int _ _) (.raw _)) (Calls.mono (Any.strconv_Atoi_ok Tryz.IP ⟨s.toArray⟩ awN v hr w) fun e w' ⟨h1,h2⟩=>⟨h1,?_⟩);rcases h2 with rfl|⟨t,rfl⟩<;>grind [Below.refl,Lib.bytesWorld_below]
 |range=>
  obtain⟨ev,h1,h2⟩:=err_at (b:=6) hg rfl;refine .inl ⟨he,Calls.mono (Any.strconv_Atoi_range Tryz.IP ⟨s.toArray⟩ awN hr ev w h1 h2) fun e w' ⟨N,h1,_,_,h2⟩=>⟨_,h1,aai (.int _ _) (.bK (.undef _)),h2⟩⟩
 |_=>
  obtain⟨ev,h1,h2⟩:=err_at (b:=5) hg rfl;refine .inl ⟨he,Calls.mono (Any.strconv_Atoi_syntax Tryz.IP ⟨s.toArray⟩ awN hr ev w h1 h2) fun e w' ⟨N,h1,_,_,h2⟩=>⟨_,h1,aai (.int _ _) (.bK (.undef _)),h2⟩⟩
def map_ba(xs:List (List UInt8)):((xs.map fun x=>(⟨x.toArray⟩:ByteArray)).map (·.data.toList))=xs:=by induction xs<;>grind
theorem join_c(xs:List (List UInt8))(sep:List UInt8)(h1:xs.length<=140737488355328)(h2:(Lib.join xs sep).length<=140737488355328):av prog 14 [.sl 1 (xs.map D.str),.str sep] (.str (Lib.join xs sep)):=by
 intro w S vs hS hg hl hv;obtain⟨u,v,rfl,hu,hv⟩:=Ia hl hv;rw[fj hv];cases hu with
 |@sl _ _ A n cap b off us hn cU gQ hA bz hc h3 hr=>
  have he:∀v,(callFunc 14 v).run prog w= .ok (.enter 14 v) w:=fun v=>Go.MuLone.run_callFunc_enter (fn:=f14) rfl ar rfl _ w;by_cases bh:xs=[]
  ·subst bh;simp only[aex,aeW]at hn;subst hn;exact of_same (he _) (fun _ _=> .str _) (Calls.mono (Any.strings_Join_none Tryz.Ra Tryz.MS A cap ⟨sep.toArray⟩ w) fun e w' ⟨h1,h2⟩=>⟨h1,same_below h2⟩)
  ·obtain⟨rfl,hb⟩:=hA awN;rw[aa0]at hn;have sJ:=map_ba xs;have:=Any.strings_Join Tryz.Ra Tryz.MS b off cap (xs.map fun x=>(⟨x.toArray⟩:ByteArray)) ⟨sep.toArray⟩ w (fun j x hx=>by
    rw[aaZ,aav]at hx;obtain⟨y,hy,rfl⟩:=hx;have h0:=hc j (.str y) 0 (.str y) (by simp[hy]) rfl;have h2:=fj (hr j (.str y) 0 (.str y) (by simp[hy]) rfl)
    grind) (hS b hb) awN awe awN
   rw[sJ,aa0,<-hn]at this;exact of_same (he _) (fun _ _=> .str _) this
def fields_c(s:List UInt8)(hs:s.length<4294967281)(ha:∀b∈s,b.toNat<128):av prog 272 [.str s] (.sl 1 ((Lib.fields s).map D.str)):=by
 intro w S vs hS hg hl hv;obtain⟨u,rfl,hu⟩:=R9 hl hv;rw[fj hu];obtain⟨ty,sp,hc⟩:=glo_cells (b:=4) hg rfl;have hn:prog.globalNamed "strings.asciiSpace"=some 4:=ar
 have Y_:Lib.TabIs prog w "strings.asciiSpace" .u8 Lib.asciiSpaceTab:=by grind [Lib.TabIs,World.var?]
 refine .inl ⟨Go.MuLone.run_callFunc_enter (fn:=f272) rfl ar rfl _ w,Calls.mono (Any.strings_Fields Tryz.aco ar hn ⟨s.toArray⟩ w (by show s.toArray.size<_;grind) (fun j b hb=>ha b (aat (by simpa using hb))) Y_) ?_⟩;rintro e w' ⟨h1,h2⟩;refine⟨_,h1,?_,by rw[h2];exact(afY _ _).alloc (aaN _) _⟩;rw[h2];show bc _ _ (.sl 1 ((Lib.fields s).map D.str)) (.slice _ (Lib.fields s).length (Lib.fields s).length);have gQ:(Lib.fields s).length<=maxLen:=by
  have:=Lib.fields_length s;have h3:∀(l:List UInt8) (b:Bool),Lib.cntF b l<=l.length:=by
   intro l;induction l<;>grind [Lib.cntF]
  exact avL
 refine .sl (b:=w.heap.size) (off:=0) (us:=fun i _=> .string ⟨((Lib.fields s)[i]?.getD []).toArray⟩) sI (aaN _) gQ (fun _=>⟨rfl,.inr ⟨aaN _,sI⟩⟩) (fun i d hd=>?_) (fun i d j c hd hj=>?_) (fun i d j c hd hj=>?_) (fun i d j c hd hj=>?_)
 ·rw[aaZ,aav]at hd;obtain⟨x,_,rfl⟩:=hd;rfl
 ·rw[aaZ,aav]at hd;obtain⟨x,hx,rfl⟩:=hd
  grind [D.cells,World.cell?,heap_alloc_new]
 ·rfl
 ·rw[aaZ,aav]at hd;obtain⟨x,hx,rfl⟩:=hd;have hj0:j=0:=avE
  subst hj0;simp only[D.cells,aet,aaM]at hj;subst hj;simp only[hx,ajC];exact .str x
end Go.V.Lx
namespace Go.V.Lx
open Go.Proofs Go.Proofs.Tryz Go.RowKit
structure Tok where
 k:Int
 t:List UInt8
 n:Int
 a:Int
 deriving DecidableEq
def Tok.d(x:Tok):D:=.agg [.int .i64 x.k,.str x.t,.int .i64 x.n,.int .i64 x.a]
def bW(l:List Tok):D:=.sl 4 (l.map Tok.d)
def eT(s:List UInt8)(i:Int)(x:D):D:=.agg [.str s,.int .i64 i,x]
def cz:List UInt8:=[123,125,40,41,59,44,61,58,46,60,62,33,43,45,42,47]
def isLt(n:Int):Bool:=decide (97<=n)&&decide (n<=122)||decide (65<=n)&&decide (n<=90)
def sN(n:Int):Bool:=decide (48<=n)&&decide (n<=57)
def isSp(n:Int):Bool:=n==32||n==9||n==10||n==13
def afF(c:UInt8):Bool:=decide (0<=Lib.indexByte cz c)
def cls(c:UInt8):Int:=if isLt c.toNat then 2 else if sN c.toNat then 3 else if(c.toNat:Int)==95 then 5 else if isSp c.toNat then 1 else if afF c then 4 else 0
def kC(c:UInt8):Bool:=isLt c.toNat||sN c.toNat||(c.toNat:Int)==95
def iP(s:List UInt8):Bool:=match s with
 |[]=>false
 |c::_=>decide (s.length<=32)&&isLt c.toNat&&s.all kC
def pz:List UInt8->Bool
 |[c]=>decide (cls c=4)
 |_=>false
def cg(x:Tok):Bool:=
 if x.k=1 then iP x.t&&decide (x.n=0)
 else if x.k=2 then decide (x.t=[])&&decide (0<=x.n)&&decide (x.n<=1099511627776)
 else if x.k=3 then pz x.t&&decide (x.n=0)
 else false
theorem aq{x y:D}(h:x=y):bA x y:=h▸ .refl _
class IsO(P:Program)(o:ik):Prop where
 h:o.to=(dD P).to
instance{P:Program}:IsO P (dD P):=⟨rfl⟩
instance{P:Program}{tb:FuncId->Nat->List D->ab->(D->ab->Prop)->(D->ab->Prop)->Prop}{it:FuncId->List D->List (List D)->Nat->Prop}{ib:FuncId->Bx->List (List D)->Option D->Nat->Prop}:IsO P ⟨(dD P).to,tb,it,ib⟩:=⟨rfl⟩
def pX{tab:List (Nat×List (Nat×Nat))}{base aN lo:Nat}{yl:Option (List (List D)×Nat×Nat×Nat)}{pn df:Bool}{P:Program}{o:ik}[ho:IsO P o]{bx:ab}{f:Nat}{ds:List D}{K2:Cl->D->ab->Prop}{d:D}(h:av P f ds d)(hp:D.aH ds=true)(hk:K2 .n d bx):c_ ⟨o,tab,base,aN,lo,yl,pn,df⟩ f ds bx K2:=aI (show o.to f ds d by rw[ho.h];exact h) hp hk
def afC:D->Nat
 | .int _ n=>n.toNat
 |_=>0
end Go.V.Lx
namespace Go.V.Lx
open Go.Proofs Go.Proofs.Tryz Go.RowKit
def yX(c:UInt8):av prog 156 [.int .u8 (c.toNat:Int)] (.int .i64 (cls c)):=by
 refine fF f156 [] [.tmp 2] ?_;have hx:Int.toNat (c.toNat:Int)=c.toNat:=sI
 repeat' (first
  |with_reducible refine aW (fun _=>?_) (fun _=>?_)
  |with_reducible refine aO (fun _=>?_) (fun _=>?_)
  |(refine aI (indexByte_c cz c) sG ?_)
  |simp(disch:=omega) only[go_sem, *])
 all_goals
  refine aq ?_;simp[cls,isLt,sN,isSp,afF, *]
end Go.V.Lx
namespace Go.V.Lx
open Go.Proofs Go.Proofs.Tryz Go.RowKit
def bk{α:Type}{l:List α}{k:Nat}(h:k<l.length):∃x,l[k]? =some x:=by intros;simp_all
theorem xB{α:Type}(p:α->Bool){l:List α}{k:Nat}{x:α}(hx:l[k]? =some x)(h:(l.take k).all p=true)(hp:p x=true):(l.take (k+1)).all p=true:=auJ
def L8{α:Type}(p:α->Bool){l:List α}{k:Nat}{x:α}(hx:l[k]? =some x)(hp:p x=false):l.all p=false:=awN
theorem Mw(c:UInt8):decide (cls c=2)=isLt c.toNat:=by grind [cls]
def Mx(c:UInt8):kC c=(decide (cls c=2)||decide (cls c=3)||decide (cls c=5)):=by grind [cls,kC]
theorem N5(s:List UInt8)(hs:s.length<=140737488355328):av prog 155 [.str s] (.bool (iP s)):=by
 refine fF f155 [] [.tmp 2] ?_
 match s,hs with
 |[],hs=>
  simp(disch:=omega) only[go_sem, *];exact .refl _
 |c::r,hs=>
  have hx:(c::r)[0]? =some c:=rfl;repeat' first|with_reducible apply zJ<;>intro _|with_reducible refine pX (yX c) sG ?_|simp(disch:=omega) only[go_sem, *]
  ·exact awN
  ·refine aq ?_;have:¬(c::r).length<=32:=awN
   simp only[iP,this,adX,akN]
  ·rename_i _ hle hc;have au:isLt c.toNat=true:=by grind [Mw]
   have Kf:iP (c::r)=(c::r).all kC:=by
    have:(c::r).length<=32:=awN
    simp_all[iP]
   rw[Kf];obtain⟨z,hz⟩:∃z,z=c::r:=⟨_,rfl⟩
   have hlen:z.length=r.length+1:=awN
   rw[<-hz];refine bB z.length (fun k σ _=>σ 0= .str z/\σ 19= .int .i64 ((r.length+1:Nat):Int)/\σ 20= .int .i64 k/\(z.take k).all kC=true)
    ⟨by simp[go_sem,aM,hz],sG,sG,sI⟩ ?_ ?_
   ·clear hz Kf;rintro k σ bx hk ⟨h0,h19,h20,hb⟩;obtain⟨x,hx⟩:=bk hk;simp(disch:=omega) only[go_sem,h0,h19,h20];refine JF oM ?_;have hp:=Mx x;have bad:kC x=false->bA (D.bool false) (.bool (z.all kC)):=fun h=>aq (by rw[L8 kC hx h]);have good:kC x=true->(z.take (k+1)).all kC=true:=fun h=>xB kC hx hb h;repeat' first|with_reducible apply zJ<;>intro _|with_reducible refine pX (yX x) sG ?_|simp(disch:=omega) only[go_sem, *]
    all_goals first
     |(rw[aR oM];grind)
     |grind
     |trace_state
   ·rintro σ bx ⟨h0,h19,h20,hb⟩;simp(disch:=omega) only[go_sem,h0,h19,h20];refine ME oM ?_;simp(disch:=omega) only[go_sem]
    grind [aq]
  ·rename_i hc;refine aq ?_;have au:isLt c.toNat=false:=by grind [Mw]
   simp_all[iP]
set_option maxRecDepth 20000 in
def RO(x:Tok)(hs:x.t.length<=140737488355328):av prog 85 [x.d] (.bool (cg x)):=by
 refine fF f85 [] [.tmp 2] ?_;obtain⟨k,t,n,a⟩:=x;simp only[Tok.d];have hv:cg ⟨k,t,n,a⟩=if k=1 then iP t&&decide (n=0)else if k=2 then decide (t=[])&&decide (0<=n)&&decide (n<=1099511627776)else if k=3 then pz t&&decide (n=0)else false:=rfl
 rw[hv];clear hv;have ht:t=[]\/(∃c,t=[c])\/t.length≠1:=by
  match t with
  |[]=>grind
  |[c]=>grind
  |_::_::_=>grind
 have h1:t.length≠1->pz t=false:=fun h=>by
  match t with
  |[]=>rfl
  |[c]=>simp at h
  |_::_::_=>rfl
 by_cases k1:k=1
 ·subst k1;repeat' first|with_reducible apply zJ<;>intro _|with_reducible refine pX (N5 t hs) sG ?_|simp(disch:=omega) only[go_sem, *]
  all_goals grind [aq]
 by_cases k2:k=2
 ·subst k2;repeat' first|with_reducible apply zJ<;>intro _|simp(disch:=omega) only[go_sem, *]
  all_goals grind [aq]
 by_cases k3:k=3
 ·subst k3;rcases ht with rfl|⟨c,rfl⟩|ht
  ·repeat' first|with_reducible apply zJ<;>intro _|simp(disch:=omega) only[go_sem, *]
   grind [aq]
  ·repeat' first|with_reducible apply zJ<;>intro _|with_reducible refine pX (yX c) sG ?_|simp(disch:=omega) only[go_sem, *]
   all_goals grind [aq,pz]
  ·have rC:¬((t.length:Int)=1):=oM;repeat' first|with_reducible apply zJ<;>intro _|simp(disch:=omega) only[go_sem, *]
   grind [aq]
 ·repeat' first|with_reducible apply zJ<;>intro _|simp(disch:=omega) only[go_sem, *]
  grind [aq]
end Go.V.Lx
namespace Go.V.Gr
open Go.Proofs Go.Proofs.Tryz Go.RowKit Go.V.Lx
abbrev ae:=List UInt8
abbrev Tk:=Go.V.Lx.Tok
structure Part where
 cat:ae
 no:Int
 text:ae
 deriving DecidableEq
structure bt where
 part:Int
 text:ae
 deriving DecidableEq
structure Entry where
 text:ae
 cat:ae
 no:Int
 aE:List ae
 cost:Int
 deriving DecidableEq
structure aF where
 cat:ae
 no:Int
 parts:List Part
 aE:List bt
 cost:Int
 deriving DecidableEq
structure aA where
 name:ae
 aB:List ae
 start:ae
 no:Int
 entries:List Entry
 rules:List aF
 deriving DecidableEq
def aA.zero:aA:=⟨[],[],[],0,[],[]⟩
@[reducible] def strs(l:List ae):D:=.sl 1 (l.map D.str)
def Part.d(x:Part):D:=.agg [.str x.cat,.int .i64 x.no,.str x.text]
def bt.d(x:bt):D:=.agg [.int .i64 x.part,.str x.text]
def Entry.d(x:Entry):D:=.agg [.str x.text,.str x.cat,.int .i64 x.no,strs x.aE,.int .i64 x.cost]
def aF.d(x:aF):D:=.agg [.str x.cat,.int .i64 x.no,.sl 3 (x.parts.map Part.d),.sl 2 (x.aE.map bt.d),.int .i64 x.cost]
def aA.d(x:aA):D:=.agg [.str x.name,strs x.aB,.str x.start,.int .i64 x.no,.sl 5 (x.entries.map Entry.d),.sl 5 (x.rules.map aF.d)]
def kN:ae:=[103,114,97,109,109,97,114]
def h_:ae:=[99,97,116,101,103,111,114,121]
def qF:ae:=[115,116,97,114,116]
def gL:ae:=[119,111,114,100]
def EL:ae:=[105,115]
def iC:ae:=[103,105,118,101,115]
def tp:ae:=[99,111,115,116]
def gJ:ae:=[114,117,108,101]
def lP:List ae:=[kN,h_,qF,gL,EL,iC,tp,gJ]
theorem NJ:∀(l:List ae) (k:Nat) (x:ae),l[k]? =some x->x∉l.take k->l.idxOf x=k/\x∈l
 |[],k,x,h,_=>awv
 |y::l,0,x,h,_=>awN
 |y::l,k+1,x,h,hn=>by
  simp only[afv,aaQ,not_or]at hn;obtain⟨h1,h2⟩:=NJ l k x awN hn.2
  exact awN
def aci(l:List ae)(t:ae)(hl:l.length<=140737488355328):av prog 210 [strs l,.str t] (.int .i64 (if l.contains t then(l.idxOf t:Int)else -1)):=by
 refine fF f210 [] [.tmp 4] ?_;simp(disch:=omega) only[go_sem,strs];refine bB l.length (fun k σ bx=>σ 0=strs l/\σ 1= .str t/\σ 7= .int .i64 l.length/\σ 8= .int .i64 k/\¬t∈l.take k) ?_ ?_ ?_
 ·simp[go_sem,aM,strs]
 ·rintro k σ bx hk ⟨h0,h1,h7,h8,hn⟩;obtain⟨x,hx⟩:=bk hk;have au:(k:Int)<(l.length:Int):=oM;repeat' first|with_reducible apply zJ<;>intro _|simp(disch:=omega) only[go_sem, *,h0,h1,h7,h8,au,strs,hx]
  ·rename_i eA;subst eA;obtain⟨g1,g2⟩:=NJ l k _ hx hn;exact av3
  ·rename_i bh;rw[aR oM];simp_all[ae2]
 ·rintro σ bx ⟨h0,h1,h7,h8,hn⟩;have au:¬(l.length:Int)<(l.length:Int):=oM;repeat' first|with_reducible apply zJ<;>intro _|simp(disch:=omega) only[go_sem, *,h0,h1,h7,h8,au]
  exact av3
def ji(l:List ae):D.aH (l.map D.str)=true:=kg _ _ fun _=>av4
def wM(l:List ae)(t:ae)(hl:l.length<=140737488355328):av prog 153 [strs l,.str t] (.bool (l.contains t)):=by
 refine fF f153 [] [.tmp 4] ?_;simp(disch:=omega) only[go_sem];refine aI (aci l t hl) au9 ?_;simp(disch:=omega) only[go_sem];refine aq (aaR D.bool ?_)
 exact awN
structure Sz(g:aA):Prop where
 aB:g.aB.length<=140737488355328
 dw:g.entries.length<=140737488355328
 yL:g.rules.length<=140737488355328
 JR:∀x∈g.entries,x.aE.length<=140737488355328
 Hw:∀x∈g.rules,x.parts.length<=140737488355328/\x.aE.length<=140737488355328
def Db:∀l:List Part,D.aH (l.map Part.d)=true:=fun l=>kg _ _ fun _=>rfl
def Fq:∀l:List Entry,D.aH (l.map Entry.d)=true:=by intros;simp_all[kg,Entry.d,D.pure,D.aH]
def Fs:∀l:List aF,D.aH (l.map aF.d)=true:=by intros;simp_all[kg,aF.d,D.pure,D.aH]
def rL(g:aA):g.d.pure=true:=by simp_all[aA.d,D.pure,D.aH]
def nP{α:Type}[DecidableEq α]{l m:List α}{k:Nat}{x y:α}(hx:l[k]? =some x)(hy:m[k]? =some y)(h:l.take k=m.take k)(e:x=y):l.take (k+1)=m.take (k+1):=by rw[ae2,ae2,h,hx,hy,e]
def MO(l m:List Part)(hl:l.length<=140737488355328)(hm:m.length<=140737488355328):av prog 94 [.sl 3 (l.map Part.d),.sl 3 (m.map Part.d)] (.bool (decide (l=m))):=by
 refine fF f94 [] [.tmp 4] ?_;simp(disch:=omega) only[go_sem];refine aW (fun h1=>?_) (fun h1=>?_)
 ·have h1:l.length=m.length:=oM;simp(disch:=omega) only[go_sem];refine bB l.length (fun k σ bx=>σ 0= .sl 3 (l.map Part.d)/\σ 1= .sl 3 (m.map Part.d)/\σ 12= .int .i64 l.length/\σ 13= .int .i64 k/\l.take k=m.take k) ?_ ?_ ?_
  ·exact avB
  ·rintro k σ bx hk ⟨h0,mP,h7,h8,hn⟩;obtain⟨x,hx⟩:=bk hk;obtain⟨y,hy⟩:=bk (show k<m.length by omega);have au:(k:Int)<(l.length:Int):=oM;have sH:(k:Int)<(m.length:Int):=oM;obtain⟨a,b,c⟩:=x;obtain⟨a',b',c'⟩:=y;repeat' first|with_reducible apply zJ<;>intro _|simp(disch:=omega) only[go_sem, *,h0,mP,h7,h8,au,sH,hx,hy,Part.d]
   all_goals first
    |(rename_i sM;rw[aR oM];exact⟨rfl,nP hx hy hn awN⟩)
    |(
     rename_i sM;refine aq (aaR D.bool ?_)
     grind)
  ·exact IN
 ·exact aq0
end Go.V.Gr
namespace Go.V.Ty
open Go.Proofs Go.Proofs.Tryz Go.RowKit Go.V.Lx Go.V.Gr
def pT{f:FuncId}{ds:List D}{d:D}(h:av prog f ds d)(hp:D.aH ds=true)(bx:ab):az prog f 0 ds bx (fun d' bx'=>d'=d/\bx'=bx) (fun _ _=>False):=by
 intro X ρ σ a w vs hS vt hl hv;exact(h.carried (S:=ay X ρ bx w) (fun b hb=>hb.1) (hS.fN.fw rfl) hl (fun i x v hx cq=>(hv i x v hx cq).fw (ye _ hp i x hx)) fun v w' hp=>⟨d,bx,ρ,⟨rfl,rfl⟩,hS.got hp⟩).fw
def cT{α:Type}(f:FuncId)(caps:List D)(n0 k:Nat)(bx0:ab)(enc:α->D)(cX:α->Prop)(p:α->Bool):Prop:=
 ∀(bx:ab) (x:α),(∀s,s<n0->bx s=bx0 s)->cX x->az prog f 0 (enc x::caps) bx (fun d bx'=>d= .bool (p x)/\∀s,s<k->bx' s=bx s) (fun _ _=>False)
theorem cT.agree{α:Type}{f:FuncId}{caps:List D}{n0 k:Nat}{bx0 bx1:ab}{enc:α->D}{cX:α->Prop}{p:α->Bool}(h:cT f caps n0 k bx0 enc cX p)(hb:∀s,s<n0->bx1 s=bx0 s):cT f caps n0 k bx1 enc cX p:=
 fun bx x hs hd=>h bx x (fun s dq=>(hs s dq).trans (hb s dq)) hd
theorem cT.of{α:Type}{f:FuncId}{enc:α->D}{cX:α->Prop}{p:α->Bool}(h:∀x,cX x->av prog f [enc x] (.bool (p x)))(hp:∀x,(enc x).pure=true)(k:Nat)(bx0:ab):cT f [] 0 k bx0 enc cX p:=
 fun bx x _ hd=>(pT (h x hd) (by simp[D.aH,hp]) bx).mono (fun d bx' ⟨h1,h2⟩=>⟨h1,fun s _=>by rw[h2]⟩) (fun _ _ h=>h)
def j6{α:Type}(p:α->Bool)(l:List α):Int:=match l.findIdx? p with
 |some i=>i
 |none=> -1
theorem Qr{α:Type}(p:α->Bool):∀(l:List α) (j:Nat) (x:α),(l.take j).any p=false->l[j]? =some x->p x=true->l.findIdx? p=some j
 |[],j,x,_,h,_=>awv
 |y::l,0,x,_,h,hp=>awN
 |y::l,j+1,x,hn,h,hp=>by
  simp only[afv,List.any_cons,akm]at hn;have:=Qr p l j x hn.2 awN hp
  exact awN
theorem pv{α:Type}{p:α->Bool}{l:List α}{j:Nat}{x:α}(h:(l.take j).any p=false)(hx:l[j]? =some x)(hp:p x=true):j6 p l=j:=by simp only[j6,Qr p l j x h hx hp]
theorem m_{α:Type}{p:α->Bool}{l:List α}(h:l.any p=false):j6 p l= -1:=by grind [j6]
theorem lk{α:Type}(p:α->Bool)(l:List α):decide (0<=j6 p l)=l.any p:=by grind [j6]
def mU{α:Type}{p:α->Bool}{l:List α}{j:Nat}{x:α}(h:(l.take j).any p=false)(hx:l[j]? =some x)(hp:p x=false):(l.take (j+1)).any p=false:=auJ
def zH{α:Type}(p:α->Bool)(l:List α):(l.any fun x=> !p x)= !l.all p:=awN
section
variable {f:FuncId} {caps:List D} {n0 k:Nat} {bx0:ab}
def afB{cX:ae->Prop}{p:ae->Bool}(hf:cT f caps n0 k bx0 D.str cX p)(hn:n0<=k)(l:List ae)(hl:l.length<=140737488355328)(hd:∀x∈l,cX x)(bx:ab)(hb:∀s,s<n0->bx s=bx0 s):
 az prog 82 0 [.sl 1 (l.map D.str),.fn (.func f) caps] bx (fun d bx'=>d= .int .i64 (j6 p l)/\∀s,s<k->bx' s=bx s) (fun _ _=>False):=by
 refine fB 19 0 f82 [] [.tmp 4] ?_;simp(disch:=omega) only[go_sem];refine bB l.length (fun j σ bx'=>σ 0= .sl 1 (l.map D.str)/\σ 1= .fn (.func f) caps/\σ 7= .int .i64 l.length/\σ 8= .int .i64 j/\(l.take j).any p=false/\∀s,s<k->bx' s=bx s)
  ⟨avB,avB,sG,sG,sI,fun _ _=>rfl⟩ ?_ ?_
 ·rintro j σ bx' hj ⟨h0,h1,h7,h8,hp,hk⟩;obtain⟨x,hx⟩:=bk hj;have au:(j:Int)<(l.length:Int):=oM;simp(disch:=omega) only[go_sem,h0,h1,h7,h8,au,hx];refine ao (hf bx' x (fun s hs=>(hk s oM).trans (hb s hs)) (hd x (aat hx))) rfl ?_;rintro d aT ⟨rfl,eQ⟩;simp(disch:=omega) only[go_sem,h0,h1,h7,h8,au,hx];refine aO (fun hc=>?_) (fun hc=>?_)
  ·simp(disch:=omega) only[go_sem,h0,h1,h7,h8]
   grind [pv]
  ·exact aq3
 ·rintro σ bx' ⟨h0,h1,h7,h8,hp,hk⟩;have au:¬(l.length:Int)<(l.length:Int):=oM;simp(disch:=omega) only[go_sem,h0,h1,h7,h8,au]
  grind [m_]
def aeN{cX:ae->Prop}{p:ae->Bool}(hf:cT f caps n0 k bx0 D.str cX p)(hn:n0<=k)(l:List ae)(hl:l.length<=140737488355328)(hd:∀x∈l,cX x)(bx:ab)(hb:∀s,s<n0->bx s=bx0 s):
 az prog 44 0 [.sl 1 (l.map D.str),.fn (.func f) caps] bx (fun d bx'=>d= .bool (l.any p)/\∀s,s<k->bx' s=bx s) (fun _ _=>False):=by
 refine fB 9 0 f44 [] [.tmp 4] ?_;simp(disch:=omega) only[go_sem];refine ao (afB hf hn l hl hd bx hb) rfl ?_;rintro d aT ⟨rfl,eQ⟩;simp(disch:=omega) only[go_sem]
 grind [lk]
def afW{q e ty:Nat}{cX:ae->Prop}{p:ae->Bool}(hf:cT f caps n0 k bx0 D.str cX p)(hq:bx0 q=⟨e,1,1,ty,[.fn (.func f) caps]⟩)(hn:n0<=q+1)(hk:q+3<=k):cT 275 [.loc q e 0 0] (q+1) (q+3) bx0 D.str cX fun x=> !p x:=by
 intro bx x hb hd;refine fB 8 (q+1) f275 [] [.tmp 3] ?_;have Gy:=(hb q oM).trans hq;simp(disch:=omega) only[go_sem,Gy];refine ao (hf _ x (fun s hs=>?_) hd) rfl ?_
 ·exact awN
 rintro d aT ⟨rfl,eQ⟩;simp(disch:=omega) only[go_sem]
 exact awN
def adM(B:Nat){cX:ae->Prop}{p:ae->Bool}(hf:cT f caps n0 k bx0 D.str cX p)(hn:n0<=B)(hk:B+17<=k)(l:List ae)(hl:l.length<=140737488355328)(hd:∀x∈l,cX x)(bx:ab)(hb:∀s,s<n0->bx s=bx0 s):
 az prog 236 0 [.fn (.func f) caps,.sl 1 [.sl 1 (l.map D.str)]] bx (fun d bx'=>d= .bool (l.all p)/\∀s,s<B->bx' s=bx s) (fun _ _=>False):=by
 refine fB 17 B f236 [] [.tmp 4] ?_;simp(disch:=omega) only[go_sem];obtain⟨e,he⟩:∃e,(bx (B+2)).ep+1=e:=⟨_,rfl⟩
 rw[he];refine bB 1 (fun j σ bx'=>σ 2= .loc (B+2) e 0 0/\σ 7= .sl 1 [.sl 1 (l.map D.str)]/\σ 8= .int .i64 1/\σ 9= .int .i64 j/\(0<j->l.all p=true)/\bx' (B+2)=⟨e,1,1,114,[.fn (.func f) caps]⟩/\∀s,s<B->bx' s=bx s)
  ⟨avB,avB,sG,sG,sI,awx,fun s hs=>awg⟩ ?_ ?_
 ·rintro j σ bx' hj ⟨h2,h7,h8,h9,hp,hq,dZ⟩;obtain rfl:j=0:=oM;simp(disch:=omega) only[go_sem,h2,h7,h8,h9,akn,Int.reduceLT];refine ao (aeN (afW (hf.agree (bx1:=bx') fun s hs=>(dZ s oM).trans (hb s hs)) hq oM oM) oM l hl hd bx' fun _ _=>rfl) rfl ?_;rintro d aT ⟨rfl,eQ⟩;simp(disch:=omega) only[go_sem];refine aO (fun hc=>?_) (fun hc=>?_)
  ·simp(disch:=omega) only[go_sem]
   exact awN
  ·exact abi
 ·rintro σ bx' ⟨h2,h7,h8,h9,hp,hq,dZ⟩;have h9:σ 9= .int .i64 (1:Int):=h9;simp(disch:=omega) only[go_sem,h2,h7,h8,h9,Int.reduceLT]
  exact awN
def afz{cX:Part->Prop}{p:Part->Bool}(hf:cT f caps n0 k bx0 Part.d cX p)(hn:n0<=k)(l:List Part)(hl:l.length<=140737488355328)(hd:∀x∈l,cX x)(bx:ab)(hb:∀s,s<n0->bx s=bx0 s):
 az prog 310 0 [.sl 3 (l.map Part.d),.fn (.func f) caps] bx (fun d bx'=>d= .int .i64 (j6 p l)/\∀s,s<k->bx' s=bx s) (fun _ _=>False):=by
 refine fB 19 0 f310 [] [.tmp 4] ?_;simp(disch:=omega) only[go_sem];refine bB l.length (fun j σ bx'=>σ 0= .sl 3 (l.map Part.d)/\σ 1= .fn (.func f) caps/\σ 7= .int .i64 l.length/\σ 8= .int .i64 j/\(l.take j).any p=false/\∀s,s<k->bx' s=bx s)
  ⟨avB,avB,sG,sG,sI,fun _ _=>rfl⟩ ?_ ?_
 ·rintro j σ bx' hj ⟨h0,h1,h7,h8,hp,hk⟩;obtain⟨x,hx⟩:=bk hj;have au:(j:Int)<(l.length:Int):=oM;simp(disch:=omega) only[go_sem,h0,h1,h7,h8,au,hx,Part.d];refine ao (hf bx' x (fun s hs=>(hk s oM).trans (hb s hs)) (hd x (aat hx))) rfl ?_;rintro d aT ⟨rfl,eQ⟩;simp(disch:=omega) only[go_sem,h0,h1,h7,h8,au,hx,Part.d];refine aO (fun hc=>?_) (fun hc=>?_)
  ·simp(disch:=omega) only[go_sem,h0,h1,h7,h8]
   grind [pv]
  ·exact aq3
 ·rintro σ bx' ⟨h0,h1,h7,h8,hp,hk⟩;have au:¬(l.length:Int)<(l.length:Int):=oM;simp(disch:=omega) only[go_sem,h0,h1,h7,h8,au]
  grind [m_]
def aeM{cX:Part->Prop}{p:Part->Bool}(hf:cT f caps n0 k bx0 Part.d cX p)(hn:n0<=k)(l:List Part)(hl:l.length<=140737488355328)(hd:∀x∈l,cX x)(bx:ab)(hb:∀s,s<n0->bx s=bx0 s):
 az prog 276 0 [.sl 3 (l.map Part.d),.fn (.func f) caps] bx (fun d bx'=>d= .bool (l.any p)/\∀s,s<k->bx' s=bx s) (fun _ _=>False):=by
 refine fB 9 0 f276 [] [.tmp 4] ?_;simp(disch:=omega) only[go_sem];refine ao (afz hf hn l hl hd bx hb) rfl ?_;rintro d aT ⟨rfl,eQ⟩;simp(disch:=omega) only[go_sem]
 grind [lk]
def afU{q e ty:Nat}{cX:Part->Prop}{p:Part->Bool}(hf:cT f caps n0 k bx0 Part.d cX p)(hq:bx0 q=⟨e,1,1,ty,[.fn (.func f) caps]⟩)(hn:n0<=q+1)(hk:q+3<=k):cT 277 [.loc q e 0 0] (q+1) (q+3) bx0 Part.d cX fun x=> !p x:=by
 intro bx x hb hd;refine fB 8 (q+1) f277 [] [.tmp 3] ?_;have Gy:=(hb q oM).trans hq;simp(disch:=omega) only[go_sem,Gy,Part.d];refine ao (hf _ x (fun s hs=>?_) hd) rfl ?_
 ·exact awh
 rintro d aT ⟨rfl,eQ⟩;simp(disch:=omega) only[go_sem]
 exact awh
def adK(B:Nat){cX:Part->Prop}{p:Part->Bool}(hf:cT f caps n0 k bx0 Part.d cX p)(hn:n0<=B)(hk:B+17<=k)(l:List Part)(hl:l.length<=140737488355328)(hd:∀x∈l,cX x)(bx:ab)(hb:∀s,s<n0->bx s=bx0 s):
 az prog 239 0 [.fn (.func f) caps,.sl 1 [.sl 3 (l.map Part.d)]] bx (fun d bx'=>d= .bool (l.all p)/\∀s,s<B->bx' s=bx s) (fun _ _=>False):=by
 refine fB 17 B f239 [] [.tmp 4] ?_;simp(disch:=omega) only[go_sem];obtain⟨e,he⟩:∃e,(bx (B+2)).ep+1=e:=⟨_,rfl⟩
 rw[he];refine bB 1 (fun j σ bx'=>σ 2= .loc (B+2) e 0 0/\σ 7= .sl 1 [.sl 3 (l.map Part.d)]/\σ 8= .int .i64 1/\σ 9= .int .i64 j/\(0<j->l.all p=true)/\bx' (B+2)=⟨e,1,1,340,[.fn (.func f) caps]⟩/\∀s,s<B->bx' s=bx s)
  ⟨avB,avB,sG,sG,sI,awx,fun s hs=>awg⟩ ?_ ?_
 ·rintro j σ bx' hj ⟨h2,h7,h8,h9,hp,hq,dZ⟩;obtain rfl:j=0:=oM;simp(disch:=omega) only[go_sem,h2,h7,h8,h9,akn,Int.reduceLT];refine ao (aeM (afU (hf.agree (bx1:=bx') fun s hs=>(dZ s oM).trans (hb s hs)) hq oM oM) oM l hl hd bx' fun _ _=>rfl) rfl ?_;rintro d aT ⟨rfl,eQ⟩;simp(disch:=omega) only[go_sem];refine aO (fun hc=>?_) (fun hc=>?_)
  ·simp(disch:=omega) only[go_sem]
   exact awN
  ·exact abi
 ·rintro σ bx' ⟨h2,h7,h8,h9,hp,hq,dZ⟩;have h9:σ 9= .int .i64 (1:Int):=h9;simp(disch:=omega) only[go_sem,h2,h7,h8,h9,Int.reduceLT]
  exact awN
def afw{cX:Entry->Prop}{p:Entry->Bool}(hf:cT f caps n0 k bx0 Entry.d cX p)(hn:n0<=k)(l:List Entry)(hl:l.length<=140737488355328)(hd:∀x∈l,cX x)(bx:ab)(hb:∀s,s<n0->bx s=bx0 s):
 az prog 311 0 [.sl 5 (l.map Entry.d),.fn (.func f) caps] bx (fun d bx'=>d= .int .i64 (j6 p l)/\∀s,s<k->bx' s=bx s) (fun _ _=>False):=by
 refine fB 19 0 f311 [] [.tmp 4] ?_;simp(disch:=omega) only[go_sem];refine bB l.length (fun j σ bx'=>σ 0= .sl 5 (l.map Entry.d)/\σ 1= .fn (.func f) caps/\σ 7= .int .i64 l.length/\σ 8= .int .i64 j/\(l.take j).any p=false/\∀s,s<k->bx' s=bx s)
  ⟨avB,avB,sG,sG,sI,fun _ _=>rfl⟩ ?_ ?_
 ·rintro j σ bx' hj ⟨h0,h1,h7,h8,hp,hk⟩;obtain⟨x,hx⟩:=bk hj;have au:(j:Int)<(l.length:Int):=oM;simp(disch:=omega) only[go_sem,h0,h1,h7,h8,au,hx,Entry.d,strs];refine ao (hf bx' x (fun s hs=>(hk s oM).trans (hb s hs)) (hd x (aat hx))) rfl ?_;rintro d aT ⟨rfl,eQ⟩;simp(disch:=omega) only[go_sem,h0,h1,h7,h8,au,hx,Entry.d,strs];refine aO (fun hc=>?_) (fun hc=>?_)
  ·simp(disch:=omega) only[go_sem,h0,h1,h7,h8]
   grind [pv]
  ·exact aq3
 ·rintro σ bx' ⟨h0,h1,h7,h8,hp,hk⟩;have au:¬(l.length:Int)<(l.length:Int):=oM;simp(disch:=omega) only[go_sem,h0,h1,h7,h8,au]
  grind [m_]
def aeK{cX:Entry->Prop}{p:Entry->Bool}(hf:cT f caps n0 k bx0 Entry.d cX p)(hn:n0<=k)(l:List Entry)(hl:l.length<=140737488355328)(hd:∀x∈l,cX x)(bx:ab)(hb:∀s,s<n0->bx s=bx0 s):
 az prog 278 0 [.sl 5 (l.map Entry.d),.fn (.func f) caps] bx (fun d bx'=>d= .bool (l.any p)/\∀s,s<k->bx' s=bx s) (fun _ _=>False):=by
 refine fB 9 0 f278 [] [.tmp 4] ?_;simp(disch:=omega) only[go_sem];refine ao (afw hf hn l hl hd bx hb) rfl ?_;rintro d aT ⟨rfl,eQ⟩;simp(disch:=omega) only[go_sem]
 grind [lk]
def afS{q e ty:Nat}{cX:Entry->Prop}{p:Entry->Bool}(hf:cT f caps n0 k bx0 Entry.d cX p)(hq:bx0 q=⟨e,1,1,ty,[.fn (.func f) caps]⟩)(hn:n0<=q+1)(hk:q+3<=k):cT 279 [.loc q e 0 0] (q+1) (q+3) bx0 Entry.d cX fun x=> !p x:=by
 intro bx x hb hd;refine fB 8 (q+1) f279 [] [.tmp 3] ?_;have Gy:=(hb q oM).trans hq;simp(disch:=omega) only[go_sem,Gy,Entry.d,strs];refine ao (hf _ x (fun s hs=>?_) hd) rfl ?_
 ·exact awh
 rintro d aT ⟨rfl,eQ⟩;simp(disch:=omega) only[go_sem]
 exact awh
def adI(B:Nat){cX:Entry->Prop}{p:Entry->Bool}(hf:cT f caps n0 k bx0 Entry.d cX p)(hn:n0<=B)(hk:B+17<=k)(l:List Entry)(hl:l.length<=140737488355328)(hd:∀x∈l,cX x)(bx:ab)(hb:∀s,s<n0->bx s=bx0 s):
 az prog 240 0 [.fn (.func f) caps,.sl 1 [.sl 5 (l.map Entry.d)]] bx (fun d bx'=>d= .bool (l.all p)/\∀s,s<B->bx' s=bx s) (fun _ _=>False):=by
 refine fB 17 B f240 [] [.tmp 4] ?_;simp(disch:=omega) only[go_sem];obtain⟨e,he⟩:∃e,(bx (B+2)).ep+1=e:=⟨_,rfl⟩
 rw[he];refine bB 1 (fun j σ bx'=>σ 2= .loc (B+2) e 0 0/\σ 7= .sl 1 [.sl 5 (l.map Entry.d)]/\σ 8= .int .i64 1/\σ 9= .int .i64 j/\(0<j->l.all p=true)/\bx' (B+2)=⟨e,1,1,339,[.fn (.func f) caps]⟩/\∀s,s<B->bx' s=bx s)
  ⟨avB,avB,sG,sG,sI,awx,fun s hs=>awg⟩ ?_ ?_
 ·rintro j σ bx' hj ⟨h2,h7,h8,h9,hp,hq,dZ⟩;obtain rfl:j=0:=oM;simp(disch:=omega) only[go_sem,h2,h7,h8,h9,akn,Int.reduceLT];refine ao (aeK (afS (hf.agree (bx1:=bx') fun s hs=>(dZ s oM).trans (hb s hs)) hq oM oM) oM l hl hd bx' fun _ _=>rfl) rfl ?_;rintro d aT ⟨rfl,eQ⟩;simp(disch:=omega) only[go_sem];refine aO (fun hc=>?_) (fun hc=>?_)
  ·simp(disch:=omega) only[go_sem]
   exact awN
  ·exact abi
 ·rintro σ bx' ⟨h2,h7,h8,h9,hp,hq,dZ⟩;have h9:σ 9= .int .i64 (1:Int):=h9;simp(disch:=omega) only[go_sem,h2,h7,h8,h9,Int.reduceLT]
  exact awN
def afA{cX:aF->Prop}{p:aF->Bool}(hf:cT f caps n0 k bx0 aF.d cX p)(hn:n0<=k)(l:List aF)(hl:l.length<=140737488355328)(hd:∀x∈l,cX x)(bx:ab)(hb:∀s,s<n0->bx s=bx0 s):
 az prog 281 0 [.sl 5 (l.map aF.d),.fn (.func f) caps] bx (fun d bx'=>d= .int .i64 (j6 p l)/\∀s,s<k->bx' s=bx s) (fun _ _=>False):=by
 refine fB 19 0 f281 [] [.tmp 4] ?_;simp(disch:=omega) only[go_sem];refine bB l.length (fun j σ bx'=>σ 0= .sl 5 (l.map aF.d)/\σ 1= .fn (.func f) caps/\σ 7= .int .i64 l.length/\σ 8= .int .i64 j/\(l.take j).any p=false/\∀s,s<k->bx' s=bx s)
  ⟨avB,avB,sG,sG,sI,fun _ _=>rfl⟩ ?_ ?_
 ·rintro j σ bx' hj ⟨h0,h1,h7,h8,hp,hk⟩;obtain⟨x,hx⟩:=bk hj;have au:(j:Int)<(l.length:Int):=oM;simp(disch:=omega) only[go_sem,h0,h1,h7,h8,au,hx,aF.d];refine ao (hf bx' x (fun s hs=>(hk s oM).trans (hb s hs)) (hd x (aat hx))) rfl ?_;rintro d aT ⟨rfl,eQ⟩;simp(disch:=omega) only[go_sem,h0,h1,h7,h8,au,hx,aF.d];refine aO (fun hc=>?_) (fun hc=>?_)
  ·simp(disch:=omega) only[go_sem,h0,h1,h7,h8]
   grind [pv]
  ·exact aq3
 ·rintro σ bx' ⟨h0,h1,h7,h8,hp,hk⟩;have au:¬(l.length:Int)<(l.length:Int):=oM;simp(disch:=omega) only[go_sem,h0,h1,h7,h8,au]
  grind [m_]
def Vq{cX:aF->Prop}{p:aF->Bool}(hf:cT f caps n0 k bx0 aF.d cX p)(hn:n0<=k)(l:List aF)(hl:l.length<=140737488355328)(hd:∀x∈l,cX x)(bx:ab)(hb:∀s,s<n0->bx s=bx0 s):
 az prog 243 0 [.sl 5 (l.map aF.d),.fn (.func f) caps] bx (fun d bx'=>d= .bool (l.any p)/\∀s,s<k->bx' s=bx s) (fun _ _=>False):=by
 refine fB 9 0 f243 [] [.tmp 4] ?_;simp(disch:=omega) only[go_sem];refine ao (afA hf hn l hl hd bx hb) rfl ?_;rintro d aT ⟨rfl,eQ⟩;simp(disch:=omega) only[go_sem]
 grind [lk]
def afV{q e ty:Nat}{cX:aF->Prop}{p:aF->Bool}(hf:cT f caps n0 k bx0 aF.d cX p)(hq:bx0 q=⟨e,1,1,ty,[.fn (.func f) caps]⟩)(hn:n0<=q+1)(hk:q+3<=k):cT 280 [.loc q e 0 0] (q+1) (q+3) bx0 aF.d cX fun x=> !p x:=by
 intro bx x hb hd;refine fB 8 (q+1) f280 [] [.tmp 3] ?_;have Gy:=(hb q oM).trans hq;simp(disch:=omega) only[go_sem,Gy,aF.d];refine ao (hf _ x (fun s hs=>?_) hd) rfl ?_
 ·exact awh
 rintro d aT ⟨rfl,eQ⟩;simp(disch:=omega) only[go_sem]
 exact awh
def adL(B:Nat){cX:aF->Prop}{p:aF->Bool}(hf:cT f caps n0 k bx0 aF.d cX p)(hn:n0<=B)(hk:B+17<=k)(l:List aF)(hl:l.length<=140737488355328)(hd:∀x∈l,cX x)(bx:ab)(hb:∀s,s<n0->bx s=bx0 s):
 az prog 241 0 [.fn (.func f) caps,.sl 1 [.sl 5 (l.map aF.d)]] bx (fun d bx'=>d= .bool (l.all p)/\∀s,s<B->bx' s=bx s) (fun _ _=>False):=by
 refine fB 17 B f241 [] [.tmp 4] ?_;simp(disch:=omega) only[go_sem];obtain⟨e,he⟩:∃e,(bx (B+2)).ep+1=e:=⟨_,rfl⟩
 rw[he];refine bB 1 (fun j σ bx'=>σ 2= .loc (B+2) e 0 0/\σ 7= .sl 1 [.sl 5 (l.map aF.d)]/\σ 8= .int .i64 1/\σ 9= .int .i64 j/\(0<j->l.all p=true)/\bx' (B+2)=⟨e,1,1,342,[.fn (.func f) caps]⟩/\∀s,s<B->bx' s=bx s)
  ⟨avB,avB,sG,sG,sI,awx,fun s hs=>awg⟩ ?_ ?_
 ·rintro j σ bx' hj ⟨h2,h7,h8,h9,hp,hq,dZ⟩;obtain rfl:j=0:=oM;simp(disch:=omega) only[go_sem,h2,h7,h8,h9,akn,Int.reduceLT];refine ao (Vq (afV (hf.agree (bx1:=bx') fun s hs=>(dZ s oM).trans (hb s hs)) hq oM oM) oM l hl hd bx' fun _ _=>rfl) rfl ?_;rintro d aT ⟨rfl,eQ⟩;simp(disch:=omega) only[go_sem];refine aO (fun hc=>?_) (fun hc=>?_)
  ·simp(disch:=omega) only[go_sem]
   exact awN
  ·exact abi
 ·rintro σ bx' ⟨h2,h7,h8,h9,hp,hq,dZ⟩;have h9:σ 9= .int .i64 (1:Int):=h9;simp(disch:=omega) only[go_sem,h2,h7,h8,h9,Int.reduceLT]
  exact awN
def afx{cX:Int->Prop}{p:Int->Bool}(hf:cT f caps n0 k bx0 (D.int .i64) cX p)(hn:n0<=k)(l:List Int)(hl:l.length<=140737488355328)(hd:∀x∈l,cX x)(bx:ab)(hb:∀s,s<n0->bx s=bx0 s):
 az prog 149 0 [.sl 1 (l.map (D.int .i64)),.fn (.func f) caps] bx (fun d bx'=>d= .int .i64 (j6 p l)/\∀s,s<k->bx' s=bx s) (fun _ _=>False):=by
 refine fB 19 0 f149 [] [.tmp 4] ?_;simp(disch:=omega) only[go_sem];refine bB l.length (fun j σ bx'=>σ 0= .sl 1 (l.map (D.int .i64))/\σ 1= .fn (.func f) caps/\σ 7= .int .i64 l.length/\σ 8= .int .i64 j/\(l.take j).any p=false/\∀s,s<k->bx' s=bx s)
  ⟨avB,avB,sG,sG,sI,fun _ _=>rfl⟩ ?_ ?_
 ·rintro j σ bx' hj ⟨h0,h1,h7,h8,hp,hk⟩;obtain⟨x,hx⟩:=bk hj;have au:(j:Int)<(l.length:Int):=oM;simp(disch:=omega) only[go_sem,h0,h1,h7,h8,au,hx];refine ao (hf bx' x (fun s hs=>(hk s oM).trans (hb s hs)) (hd x (aat hx))) rfl ?_;rintro d aT ⟨rfl,eQ⟩;simp(disch:=omega) only[go_sem,h0,h1,h7,h8,au,hx];refine aO (fun hc=>?_) (fun hc=>?_)
  ·simp(disch:=omega) only[go_sem,h0,h1,h7,h8]
   grind [pv]
  ·exact aq3
 ·rintro σ bx' ⟨h0,h1,h7,h8,hp,hk⟩;have au:¬(l.length:Int)<(l.length:Int):=oM;simp(disch:=omega) only[go_sem,h0,h1,h7,h8,au]
  grind [m_]
def aeL{cX:Int->Prop}{p:Int->Bool}(hf:cT f caps n0 k bx0 (D.int .i64) cX p)(hn:n0<=k)(l:List Int)(hl:l.length<=140737488355328)(hd:∀x∈l,cX x)(bx:ab)(hb:∀s,s<n0->bx s=bx0 s):
 az prog 80 0 [.sl 1 (l.map (D.int .i64)),.fn (.func f) caps] bx (fun d bx'=>d= .bool (l.any p)/\∀s,s<k->bx' s=bx s) (fun _ _=>False):=by
 refine fB 9 0 f80 [] [.tmp 4] ?_;simp(disch:=omega) only[go_sem];refine ao (afx hf hn l hl hd bx hb) rfl ?_;rintro d aT ⟨rfl,eQ⟩;simp(disch:=omega) only[go_sem]
 grind [lk]
def afT{q e ty:Nat}{cX:Int->Prop}{p:Int->Bool}(hf:cT f caps n0 k bx0 (D.int .i64) cX p)(hq:bx0 q=⟨e,1,1,ty,[.fn (.func f) caps]⟩)(hn:n0<=q+1)(hk:q+3<=k):cT 309 [.loc q e 0 0] (q+1) (q+3) bx0 (D.int .i64) cX fun x=> !p x:=by
 intro bx x hb hd;refine fB 8 (q+1) f309 [] [.tmp 3] ?_;have Gy:=(hb q oM).trans hq;simp(disch:=omega) only[go_sem,Gy];refine ao (hf _ x (fun s hs=>?_) hd) rfl ?_
 ·exact awN
 rintro d aT ⟨rfl,eQ⟩;simp(disch:=omega) only[go_sem]
 exact awN
def adJ(B:Nat){cX:Int->Prop}{p:Int->Bool}(hf:cT f caps n0 k bx0 (D.int .i64) cX p)(hn:n0<=B)(hk:B+17<=k)(l:List Int)(hl:l.length<=140737488355328)(hd:∀x∈l,cX x)(bx:ab)(hb:∀s,s<n0->bx s=bx0 s):
 az prog 273 0 [.fn (.func f) caps,.sl 1 [.sl 1 (l.map (D.int .i64))]] bx (fun d bx'=>d= .bool (l.all p)/\∀s,s<B->bx' s=bx s) (fun _ _=>False):=by
 refine fB 17 B f273 [] [.tmp 4] ?_;simp(disch:=omega) only[go_sem];obtain⟨e,he⟩:∃e,(bx (B+2)).ep+1=e:=⟨_,rfl⟩
 rw[he];refine bB 1 (fun j σ bx'=>σ 2= .loc (B+2) e 0 0/\σ 7= .sl 1 [.sl 1 (l.map (D.int .i64))]/\σ 8= .int .i64 1/\σ 9= .int .i64 j/\(0<j->l.all p=true)/\bx' (B+2)=⟨e,1,1,136,[.fn (.func f) caps]⟩/\∀s,s<B->bx' s=bx s)
  ⟨avB,avB,sG,sG,sI,awx,fun s hs=>awg⟩ ?_ ?_
 ·rintro j σ bx' hj ⟨h2,h7,h8,h9,hp,hq,dZ⟩;obtain rfl:j=0:=oM;simp(disch:=omega) only[go_sem,h2,h7,h8,h9,akn,Int.reduceLT];refine ao (aeL (afT (hf.agree (bx1:=bx') fun s hs=>(dZ s oM).trans (hb s hs)) hq oM oM) oM l hl hd bx' fun _ _=>rfl) rfl ?_;rintro d aT ⟨rfl,eQ⟩;simp(disch:=omega) only[go_sem];refine aO (fun hc=>?_) (fun hc=>?_)
  ·simp(disch:=omega) only[go_sem]
   exact awN
  ·exact abi
 ·rintro σ bx' ⟨h2,h7,h8,h9,hp,hq,dZ⟩;have h9:σ 9= .int .i64 (1:Int):=h9;simp(disch:=omega) only[go_sem,h2,h7,h8,h9,Int.reduceLT]
  exact awN
end
end Go.V.Ty
