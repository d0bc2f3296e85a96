/- Lemmas on plain data and programs: part Zp. -/
import Derived.Test.YtkknfajchefgaaaGreatDoorB12
import Derived.Test.YtkknfajchefgaaaGreatDoorVE
import Derived.LaidHandle
import Derived.Stop.LaidErr
import Derived.Stop.Joined
import Derived.Deep.DeepLaidRun
set_option linter.all false
set_option maxHeartbeats 8000000
set_option maxRecDepth 100000
namespace Go.V.Jl
open Go.Proofs Go.Proofs.Tryz Go.RowKit
abbrev G7:List (String×DataW Unit):=Go.Proofs.YtkknfajchefgaaaGreatDoor.Rows.reportsBackRow.laid
theorem g5:prog.globalNamed "strconv.ErrSyntax"=some 5:=ar
theorem g6:prog.globalNamed "strconv.ErrRange"=some 6:=ar
def g2:prog.globalNamed "unicode/utf8.acceptRanges"=some 2:=ar
def g2t:(prog.globals[2]?).map (·.type)=some 376:=ar
def g5t:(prog.globals[5]?).map (·.type)=some 123:=ar
def g6t:(prog.globals[6]?).map (·.type)=some 123:=ar
def Mp:prog.cellsOf 5=1:=ar
def ad2:prog.cellsOf 375=2:=ar
def star: "*"++ "errors.errorString"= "*errors.errorString":=awL
def nY (u:TypeId) (h:prog.typeName? 3 u=some "*errors.errorString"):u=426:=
 typeName_ptr_named (nm:= "errors.errorString") (by rw[star];kernel_rfl) ar awL u (by rw[star];exact h)
def Uz:prog.cellsOf 428=1:=ar
def UA:prog.cellsOf 9=1:=ar
theorem PV{H:Type}{enc:TypeId×Value->H}{P:Program}{w:World}{base:Nat}{sp:Nat->Bool}{held:Bool}{fuel n:Nat}{t e:TypeId}{k:IntKind}{cs:List Value}{zs:List Int}{p:List MemPlace}
 (ht:P.underlying t=some (.array n e)) (he:P.underlying e=some (.int k)) (hc:P.cellsOf e=1) (hn:cs.length=n) (hz:zs.length=n)
 (h:DataW.trod enc P w base sp held fuel t cs=some (.agg (zs.map fun z=> .lit (.int k z)),p)):cs=zs.map (Value.int k):=by
 obtain⟨xs,m,_,hx,_,rF,iu⟩:=DataW.trod_array ht h;injection hx with hx _;injection hx with hx;apply agO;intro i;by_cases hi:i<n
 ·have h1:=iu i hi;rw[hc,agU]at h1;have NF:xs[i]? =some xs[i]:=aaS oM;rw[NF]at h1;obtain⟨v,h2,h3,_⟩:=akR he h1;have h4:=aaR (·[i]?) hx;simp only[aaZ,NF,aec,h3]at h4;have h5:zs[i]? =some zs[i]:=aaS oM;rw[h5]at h4;simp only[aec,aaM,DataW.lit.injEq,Lit.int.injEq,true_and]at h4;have h6:(cs.drop i)[0]? =some (.int k v):=by
   have:=aaR (·[0]?) h2
   exact awN
  exact awN
 exact awN
theorem KK:∀(zs:List (Int×Int)) (i:Nat),(zs.flatMap fun z=>[z.1,z.2])[2 * i]? =zs[i]?.map Prod.fst/\(zs.flatMap fun z=>[z.1,z.2])[2 * i+1]? =zs[i]?.map Prod.snd
 |[],i=>sI
 |z::zs,0=>sI
 |z::zs,i+1=>by
  have:=KK zs i
  exact awN
def OX{H:Type}{enc:TypeId×Value->H}{P:Program}{w:World}{base:Nat}{sp:Nat->Bool}{held:Bool}{fuel n:Nat}{t e u:TypeId}{f0 f1:Field}{k:IntKind}{cs:List Value}{zs:List (Int×Int)}{p:List MemPlace}
 (ht:P.underlying t=some (.array n e)) (he:P.underlying e=some (.struct #[f0,f1])) (hu:P.underlying u=some (.int k)) (hc:P.cellsOf e=2) (hcu:P.cellsOf u=1) (h0:f0.type=u/\f0.offset=0) (h1:f1.type=u/\f1.offset=1) (hn:cs.length=2 * n) (hz:zs.length=n)
 (h:DataW.trod enc P w base sp held fuel t cs=some (.agg (zs.map fun z=> .agg [.lit (.int k z.1),.lit (.int k z.2)]),p)):cs=(zs.flatMap fun z=>[z.1,z.2]).map (Value.int k):=by
 obtain⟨xs,m,_,hx,_,rF,iu⟩:=DataW.trod_array ht h;injection hx with hx _;injection hx with hx;have key:∀i,i<n->∃z,zs[i]? =some z/\cs[2 * i]? =some (.int k z.1)/\cs[2 * i+1]? =some (.int k z.2):=by
  intro i hi;have mP:=iu i hi;have NF:xs[i]? =some xs[i]:=aaS oM;rw[NF,hc]at mP;obtain⟨y0,y1,m',e1,_,e2,e3⟩:=ChangeShapes.trod_struct2 he mP;rw[h0.1,h0.2,hcu]at e2;rw[h1.1,h1.2,hcu]at e3;obtain⟨v0,a1,a2,_⟩:=akR hu e2;obtain⟨v1,b1,b2,_⟩:=akR hu e3;have h4:=aaR (·[i]?) hx;have h5:zs[i]? =some zs[i]:=aaS oM;simp only[aaZ,NF,aec,e1,h5,a2,b2,aaM,DataW.agg.injEq,afc,DataW.lit.injEq,Lit.int.injEq,true_and,akQ]at h4;refine⟨zs[i],h5,?_,?_⟩
  ·have:=aaR (·[0]?) a1
   exact awN
  ·have:=aaR (·[0]?) b1
   exact awN
 apply agO;intro j;obtain⟨g1,g2⟩:=KK zs (j / 2)
 exact awN
def SZ{W:World}(h:laidMetH prog G7 W):laidMet prog G7 W:=by
 unfold laidMetH at h;have e:G7.filter (fun x=>x.2.handleName?.isSome)=[]:=ar
 exact awN
def intOf:DataW Unit->Int
 | .lit (.int _ n)=>n
 |_=>0
def afD:DataW Unit->List Int
 | .agg l=>l.map intOf
 |_=>[]
def U2:List Int:=afD Go.Pinned.utf8First
def H_:List (Int×Int):=[(128,191),(160,191),(128,159),(144,191),(128,143),(0,0),(0,0),(0,0),(0,0),(0,0),(0,0),(0,0),(0,0),(0,0),(0,0),(0,0)]
def X8:Go.Proofs.YtkknfajchefgaaaGreatDoor.Rows.laid_unicode_utf8_acceptRanges (H:=Unit)= .agg (H_.map fun z=> .agg [.lit (.int .u8 z.1),.lit (.int .u8 z.2)]):=ar
theorem ahH:H9= .agg ((H_.flatMap fun z=>[z.1,z.2]).map (D.int .u8)):=ar
def abW:MW= .agg (U2.map (D.int .u8)):=ar
def si{W:World}{n:String}{g:Nat}{cs:Array Value}(hg:prog.globalNamed n=some g)(h:W.var? prog n=some cs):g<W.heap.size/\∃ty sp,W.heap[g]? =some (.cells cs ty sp):=by
 unfold World.var? at h
 exact awN
theorem Qf{W:World}{n:String}{g:Nat}{cs:Array Value}{zs:List Int}(hg:prog.globalNamed n=some g)(h:W.var? prog n=some cs)(gz:cs.toList=zs.map (Value.int .u8)):bc W (fun b=>b<W.heap.size) (.bR (.agg (zs.map (D.int .u8))) 0) (.pointer (some ⟨g,0,none⟩)):=by
 obtain⟨h1,ty,sp,h2⟩:=si hg h;have hd:∀(m:Nat) (c:D),(zs.map (D.int .u8))[m]? =some c->∃z,zs[m]? =some z/\c=D.int .u8 z:=fun m c hm=>awN
 refine .bR (off:=0) (us:=fun m=> .int .u8 (zs[m]?.getD 0)) h1 rfl (fun m c hm=>?_) (fun m c hm=>rfl) (fun m c hm=>?_)
 ·obtain⟨z,hz,rfl⟩:=hd m c hm;have hc:cs[m]? =some (.int .u8 z):=by rw[<-aba,gz,aaZ,hz];rfl
  grind [World.var?_cell]
 ·obtain⟨z,hz,rfl⟩:=hd m c hm;rw[hz,ajC];exact .int .u8 z
theorem abU{W:World}{n:String}{g:Nat}{a:Addr}(hg:prog.globalNamed n=some g)(h:W.var? prog n=some #[.iface 426 (.pointer (some a))]):bc W (fun b=>b<W.heap.size) (.bR (.bK 426 .undef) 0) (.pointer (some ⟨g,0,none⟩)):=by
 obtain⟨h1,ty,sp,h2⟩:=si hg h;refine .bR (off:=0) (us:=fun _=> .iface 426 (.pointer (some a))) h1 rfl (fun m c hm=>?_) (fun m c hm=>rfl) (fun m c hm=>?_)
 ·have:m=0:=avE
  subst this;simpa using World.var?_cell hg h 0
 ·rcases m with _|m
  ·simp[D.cells]at hm;subst hm;exact .bK (.undef _)
  ·simp[D.cells]at hm
def aaa{W:World}{n:String}{l:List (String×DataW Unit)}{dt:DataW Unit}{zs:List Int}{k:IntKind}{g:Nat}{t e:TypeId}{m:Nat}(h:laidMet prog ((n,dt)::l) W)(hz:dt= .agg (zs.map fun z=> .lit (.int k z)))(hg:prog.globalNamed n=some g)(VI:(prog.globals[g]?).map (·.type)=some t)(ht:prog.underlying t=some (.array m e))(he:prog.underlying e=some (.int k))(hc:prog.cellsOf e=1)(hct:prog.cellsOf t=m)(hm:zs.length=m):
 ∃cs,W.var? prog n=some cs/\cs.toList=zs.map (Value.int k):=by
 obtain⟨ps,⟨g',t',cs,fuel,p,q,vO,rC,hvar,hd,_,_⟩,_⟩:=h;obtain rfl:=akH (hg.symm.trans vO);obtain rfl:=akH (VI.symm.trans rC);rw[hz]at hd;have hlen:cs.toList.length=m:=by
  obtain⟨xs,m',_,_,hl,_⟩:=DataW.trod_array ht hd
  exact awN
 grind [PV]
def yu{W:World}(hL:laidMetH prog G7 W):bc W (fun b=>b<W.heap.size) .fN undef:=by
 have h3:=(SZ hL).tail.tail;have h2:=h3.tail;have h6:=h2.tail;have h5:=h6.tail;have h4:=h5.tail.tail;have h1:=h4.tail;obtain⟨c3,v3,e3⟩:=aaa (g:=3) (t:=382) (e:=319) (zs:=Lib.pow10Tab) h3 ar ar ar underlying382 underlying319 ar ar ar;obtain⟨c4,v4,e4⟩:=aaa (g:=4) (t:=373) (e:=5) (zs:=Lib.asciiSpaceTab) h4 ar ar ar underlying373 underlying5 Mp ar ar;obtain⟨c1,v1,e1⟩:=aaa (g:=1) (t:=373) (e:=5) (zs:=U2) h1 ar ar ar underlying373 underlying5 Mp ar ar;obtain⟨a6,s6,v6,_⟩:=laid_sentinel h6 g6 g6t underlying123 nY underlying426 underlying428 rfl rfl underlying9 Uz UA;obtain⟨a5,s5,v5,_⟩:=laid_sentinel h5 g5 g5t underlying123 nY underlying426 underlying428 rfl rfl underlying9 Uz UA;obtain⟨ps,⟨g,t,c2,fuel,p,q,hg,ht,v2,hd,_,_⟩,_⟩:=h2;obtain rfl:=akH (g2.symm.trans hg);obtain rfl:=akH (g2t.symm.trans ht);rw[X8]at hd;have hlen:c2.toList.length=2 * 16:=by
  obtain⟨xs,m,_,_,hl,_⟩:=DataW.trod_array underlying376 hd;exact hl.trans ar
 have e2:=OX underlying376 underlying375 underlying5 ad2 Mp ⟨rfl,rfl⟩ ⟨rfl,rfl⟩ hlen ar hd;obtain⟨l4,y4,p4,q4⟩:=si (g:=4) ar v4;obtain⟨l3,y3,p3,q3⟩:=si (g:=3) ar v3;refine .fN _ (fun b d hb=>?_) (fun b vK hb=>?_)
 ·unfold E5 at hb;split at hb
  ·rename_i h;subst h;injection hb with hb;subst hb;rw[abW];exact Qf (g:=1) ar v1 e1
  grind [ahH,Qf,abU,g5,g6]
 ·unfold SH at hb;split at hb
  ·rename_i h;subst h;injection hb with hb;subst hb;refine⟨l4,y4,p4,?_⟩;rw[q4]
   congr 2
   exact awN
  split at hb
  ·rename_i h;subst h;injection hb with hb;subst hb;refine⟨l3,y3,p3,?_⟩;rw[q3]
   congr 2
   exact awN
  ·cases hb
abbrev agi:ByteArray:={data:= #[118,97,108,117,101,32,111,117,116,32,111,102,32,114,97,110,103,101]}
abbrev ac_:ByteArray:={data:= #[105,110,118,97,108,105,100,32,115,121,110,116,97,120]}
noncomputable def low:Nat:=(World.holding prog default ⟨#[],#[],[]⟩).heap.size
def CW:DataW Unit->Array Value
 | .agg l=>(l.map fun| .lit (.int k n)=>Value.int k n|_=>undef).toArray
 |_=> #[]
def putRow(cs:Array Value):Obj->Obj
 | .cells _ t frozen=> .cells cs t frozen
 |o=>o
def agX:Array Value:= #[.int .u16 9,.int .u16 13,.int .u16 1,.int .u16 32,.int .u16 133,.int .u16 101,.int .u16 160,.int .u16 5760,.int .u16 5600,.int .u16 8192,.int .u16 8202,.int .u16 1,.int .u16 8232,.int .u16 8233,.int .u16 1,.int .u16 8239,.int .u16 8287,.int .u16 48,.int .u16 12288,.int .u16 12288,.int .u16 1]
noncomputable def oS(os:Os):World:=
 let w0:=World.holding prog os ⟨#[.cells #[.string agi] 428,.cells #[.string ac_] 428,.cells agX 434,.cells #[.slice (some ⟨low+2,0,none⟩) 7 7,.slice none 0 0,.int .i64 2] 432],#[],[]⟩
 {w0 with heap:=(((((((((w0.heap).modify 1 (putRow (CW Go.Proofs.YtkknfajchefgaaaGreatDoor.Rows.laid_unicode_utf8_first))).modify 2 (putRow (((H_.flatMap fun z=>[z.1,z.2]).map (Value.int .u8)).toArray))).modify 3 (putRow (CW Go.Proofs.YtkknfajchefgaaaGreatDoor.Rows.laid_internal_strconv_uint64pow10))).modify 4 (putRow (CW Go.Proofs.YtkknfajchefgaaaGreatDoor.Rows.laid_strings_asciiSpace))).modify 5 (putRow (#[.iface 426 (.pointer (some ⟨low+1,0,none⟩))]))).modify 6 (putRow (#[.iface 426 (.pointer (some ⟨low,0,none⟩))]))).modify 7 (putRow (CW Go.Proofs.YtkknfajchefgaaaGreatDoor.Rows.laid_math_bits_deBruijn32tab))).modify 8 (putRow (CW Go.Proofs.YtkknfajchefgaaaGreatDoor.Rows.laid_math_bits_deBruijn64tab))).modify 9 (putRow (#[.pointer (some ⟨low+3,0,none⟩)]))}
def E_(os:Os)(args:Array Value):laidMetH prog G7 ((oS os).forCall (fun _ _=>0) ⟨#[],args,[]⟩).memory:=
 laidMetH_of_parts (laidMet_of_run3 8 ar ar ar) ar
open Go.Proofs.YtkknfajchefgaaaGreatDoor.Rows in
theorem Jf{H:Type}:∀l:List (DataW H),(l.map uptoBulk).sum=uptoBulkAll l
 |[]=>rfl
 |x::l=>by rw[abk,aqf,Jf l,uptoBulkAll]
open Go.Proofs.YtkknfajchefgaaaGreatDoor.Rows in
theorem Sc{H:Type}:FP (uptoBulk (H:=H)):=by
 refine⟨fun d=>?_,fun s=>?_,fun es sp=>?_,fun ps=>?_⟩
 ·cases d with
  |lit l=>cases l<;>simp[uptoBulk]
  |_=>simp[uptoBulk]
 ·simp[uptoBulk]
 ·rw[Jf,uptoBulk];exact oM
 grind [Jf,uptoBulk]
end Go.V.Jl
