/- Plain laws: Qf. -/
import Derived.Test.YtkgloohlmogakaaGreatDoorVD
import Derived.Test.YtkgloohlmogakaaGreatDoorVE
import Derived.LaidHandle
import Derived.Stop.LaidErr
import Derived.Stop.Joined
set_option linter.all false
set_option maxHeartbeats 8000000
set_option maxRecDepth 100000
namespace Go.V.Jl
open Go.Proofs Go.Proofs.Tryz Go.RowKit
abbrev C6:List (String×DataW Unit):=Go.Proofs.YtkgloohlmogakaaGreatDoor.Rows.plantSpecRow.laid
def g0:prog.globalNamed "strings.asciiSpace"=some 0:=ak
def g3:prog.globalNamed "unicode/utf8.first"=some 3:=ak
def g4:prog.globalNamed "unicode/utf8.acceptRanges"=some 4:=ak
def g0t:(prog.globals[0]?).map (·.type)=some 392:=ak
def g3t:(prog.globals[3]?).map (·.type)=some 392:=ak
def g4t:(prog.globals[4]?).map (·.type)=some 437:=ak
def Gz:prog.cellsOf 5=1:=ak
def Vv:prog.cellsOf 436=2:=ak
def Bb{H:Type}{enc:TypeId×Value->H}{P:Program}{w:World}{base:Nat}{sp:Nat->Bool}{held:Bool}{fuel n:Nat}{t e:TypeId}{k:IntKind}{cs:List Value}{zs:List Int}{p:List MemPlace}
 (ht:P.underlying t=some (.array n e)) (he:P.underlying e=some (.int k)) (hc:P.cellsOf e=1) (hn:cs.length=n) (hz:zs.length=n)
 (h:DataW.trod enc P w base sp held fuel t cs=some (.agg (zs.map fun z=> .lit (.int k z)),p)):cs=zs.map (Value.int k):=by
 obtain⟨xs,m,_,hx,_,lA,fS⟩:=DataW.trod_array ht h;injection hx with hx _;injection hx with hx;apply List.ext_getElem?;intro i;by_cases hi:i<n
 ·have h1:=fS i hi;rw[hc,Nat.mul_one]at h1;have y5:xs[i]? =some xs[i]:=gE oM;rw[y5]at h1;obtain⟨v,h2,h3,_⟩:=DataW.trod_int he h1;have h4:=congrArg (·[i]?) hx;simp only[gM,y5,Option.map_some,h3]at h4;have h5:zs[i]? =some zs[i]:=gE oM;rw[h5]at h4;simp only[Option.map_some,sJ,DataW.lit.injEq,Lit.int.injEq,true_and]at h4;have h6:(cs.drop i)[0]? =some (.int k v):=by
   have:=congrArg (·[0]?) h2;simpa using this
  rw[List.getElem?_drop]at h6;rw[gM,h5,Option.map_some,h4];simpa using h6
 ·rw[List.getElem?_eq_none oM,List.getElem?_eq_none (by simp;omega)]
theorem Fz:∀(zs:List (Int×Int)) (i:Nat),(zs.flatMap fun z=>[z.1,z.2])[2 * i]? =zs[i]?.map Prod.fst/\(zs.flatMap fun z=>[z.1,z.2])[2 * i+1]? =zs[i]?.map Prod.snd
 |[],i=>by simp
 |z::zs,0=>by simp
 |z::zs,i+1=>by
  have:=Fz zs i;rw[show 2 * (i+1)=2 * i+2 by omega];simpa[List.flatMap_cons]using this
def IW{H:Type}{enc:TypeId×Value->H}{P:Program}{w:World}{base:Nat}{sp:Nat->Bool}{held:Bool}{fuel n:Nat}{t e u:TypeId}{f0 f1:Field}{k:IntKind}{cs:List Value}{zs:List (Int×Int)}{p:List MemPlace}
 (ht:P.underlying t=some (.array n e)) (he:P.underlying e=some (.struct #[f0,f1])) (hu:P.underlying u=some (.int k)) (hc:P.cellsOf e=2) (hcu:P.cellsOf u=1) (h0:f0.type=u/\f0.offset=0) (h1:f1.type=u/\f1.offset=1) (hn:cs.length=2 * n) (hz:zs.length=n)
 (h:DataW.trod enc P w base sp held fuel t cs=some (.agg (zs.map fun z=> .agg [.lit (.int k z.1),.lit (.int k z.2)]),p)):cs=(zs.flatMap fun z=>[z.1,z.2]).map (Value.int k):=by
 obtain⟨xs,m,_,hx,_,lA,fS⟩:=DataW.trod_array ht h;injection hx with hx _;injection hx with hx;have key:∀i,i<n->∃z,zs[i]? =some z/\cs[2 * i]? =some (.int k z.1)/\cs[2 * i+1]? =some (.int k z.2):=by
  intro i hi;have ly:=fS i hi;have y5:xs[i]? =some xs[i]:=gE oM;rw[y5,hc]at ly;obtain⟨y0,y1,m',e1,_,e2,e3⟩:=ChangeShapes.trod_struct2 he ly;rw[h0.1,h0.2,hcu]at e2;rw[h1.1,h1.2,hcu]at e3;obtain⟨v0,a1,a2,_⟩:=DataW.trod_int hu e2;obtain⟨v1,b1,b2,_⟩:=DataW.trod_int hu e3;have h4:=congrArg (·[i]?) hx;have h5:zs[i]? =some zs[i]:=gE oM;simp only[gM,y5,Option.map_some,e1,h5,a2,b2,sJ,DataW.agg.injEq,List.cons.injEq,DataW.lit.injEq,Lit.int.injEq,true_and,and_true]at h4;refine⟨zs[i],h5,?_,?_⟩
  ·have:=congrArg (·[0]?) a1;simp[List.getElem?_take,List.getElem?_drop]at this;rw[h4.1,Nat.mul_comm];exact this
  ·have:=congrArg (·[0]?) b1;simp[List.getElem?_take,List.getElem?_drop]at this;rw[h4.2,Nat.mul_comm];exact this
 apply List.ext_getElem?;intro j;obtain⟨g1,g2⟩:=Fz zs (j / 2);rw[gM];by_cases hj:j / 2<n
 ·obtain⟨z,k1,k2,k3⟩:=key (j / 2) hj;rw[k1]at g1 g2;rcases Nat.mod_two_eq_zero_or_one j with hm|hm
  ·rw[show 2 * (j / 2)=j by omega]at g1 k2;rw[g1,k2];rfl
  ·rw[show 2 * (j / 2)+1=j by omega]at g2 k3;rw[g2,k3];rfl
 ·rw[List.getElem?_eq_none (l:=zs) oM]at g1 g2;rw[List.getElem?_eq_none oM];rcases Nat.mod_two_eq_zero_or_one j with hm|hm
  ·rw[show 2 * (j / 2)=j by omega]at g1;rw[g1];rfl
  ·rw[show 2 * (j / 2)+1=j by omega]at g2;rw[g2];rfl
def LP{W:World}(h:laidMetH prog C6 W):laidMet prog C6 W:=by
 unfold laidMetH at h;have e:C6.filter (fun x=>x.2.handleName?.isSome)=[]:=by kernel_rfl
 rw[e]at h;exact h
def intOf:DataW Unit->Int
 | .lit (.int _ n)=>n
 |_=>0
def Xl:DataW Unit->List Int
 | .agg l=>l.map intOf
 |_=>[]
def CD:List Int:=Xl Go.Pinned.utf8First
def DW:List (Int×Int):=[(128,191),(160,191),(128,159),(144,191),(128,143),(0,0),(0,0),(0,0),(0,0),(0,0),(0,0),(0,0),(0,0),(0,0),(0,0),(0,0)]
def Ru:Go.Proofs.YtkgloohlmogakaaGreatDoor.Rows.laid_strings_asciiSpace (H:=Unit)= .agg (Lib.asciiSpaceTab.map fun z=> .lit (.int .u8 z)):=ak
def Uv:Lib.asciiSpaceTab.length=256:=ak
def Ln:Go.Proofs.YtkgloohlmogakaaGreatDoor.Rows.laid_unicode_utf8_first= .agg (CD.map fun z=> .lit (.int .u8 z)):=ak
def TD:GS= .agg (CD.map (D.int .u8)):=ak
def Ny:CD.length=256:=ak
def Pp:Go.Proofs.YtkgloohlmogakaaGreatDoor.Rows.laid_unicode_utf8_acceptRanges (H:=Unit)= .agg (DW.map fun z=> .agg [.lit (.int .u8 z.1),.lit (.int .u8 z.2)]):=ak
def Zk:DV= .agg ((DW.flatMap fun z=>[z.1,z.2]).map (D.int .u8)):=ak
def yu{W:World}{n:String}{g:Nat}{cs:Array Value}(hg:prog.globalNamed n=some g)(h:W.var? prog n=some cs):g<W.heap.size/\∃ty sp,W.heap[g]? =some (.cells cs ty sp):=by
 unfold World.var? at h;rw[hg]at h;simp only[Option.bind_some]at h;split at h
 ·rename_i c t f hh;injection h with h;subst h;refine⟨?_,_,_,hh⟩;apply Classical.byContradiction;intro hn;rw[Array.getElem?_eq_none oM]at hh;cases hh
 ·cases h
def JP{W:World}{n:String}{g:Nat}{cs:Array Value}{zs:List Int}(hg:prog.globalNamed n=some g)(h:W.var? prog n=some cs)(eW:cs.toList=zs.map (Value.int .u8)):bB W (fun b=>b<W.heap.size) (.cG (.agg (zs.map (D.int .u8))) 0) (.pointer (some ⟨g,0,none⟩)):=by
 obtain⟨h1,ty,sp,h2⟩:=yu hg h;have hd:∀(m:Nat) (c:D),(zs.map (D.int .u8))[m]? =some c->∃z,zs[m]? =some z/\c=D.int .u8 z:=fun m c hm=>by
  rw[gM,mS]at hm;obtain⟨z,hz,rfl⟩:=hm;exact⟨z,hz,rfl⟩
 refine .cG (off:=0) (us:=fun m=> .int .u8 (zs[m]?.getD 0)) h1 rfl (fun m c hm=>?_) (fun m c hm=>rfl) (fun m c hm=>?_)
 ·obtain⟨z,hz,rfl⟩:=hd m c hm;have hc:cs[m]? =some (.int .u8 z):=by rw[<-aG,eW,gM,hz];rfl
  rw[hz,Option.getD_some,<-hc];have:=World.var?_cell hg h m;simpa using this
 ·obtain⟨z,hz,rfl⟩:=hd m c hm;rw[hz,Option.getD_some];exact .int .u8 z
def Ji{W:World}(hL:laidMetH prog C6 W):bB W (fun b=>b<W.heap.size) .fK undef:=by
 have h4:=LP hL;have h0:=h4.tail.tail;have h3:=h0.tail;obtain⟨ps,⟨g,t,cs,fuel,p,q,hg,ht,ae5,hd,_,_⟩,_⟩:=h0;obtain rfl:=Option.some.inj (g0.symm.trans hg);obtain rfl:=Option.some.inj (g0t.symm.trans ht);rw[Ru]at hd;have hlen:cs.toList.length=256:=by
  obtain⟨xs,m,_,_,hl,_⟩:=DataW.trod_array underlying392 hd;exact hl.trans ak
 have eW:=Bb underlying392 underlying5 Gz hlen Uv hd;obtain⟨ar,ty,sp,hh⟩:=yu g0 ae5;obtain⟨ps3,⟨g,t,cs3,fuel3,p3,q3,hg,ht,Z8,J4,_,_⟩,_⟩:=h3;obtain rfl:=Option.some.inj (g3.symm.trans hg);obtain rfl:=Option.some.inj (g3t.symm.trans ht);rw[Ln]at J4;have ZX:cs3.toList.length=256:=by
  obtain⟨xs,m,_,_,hl,_⟩:=DataW.trod_array underlying392 J4;exact hl.trans ak
 have aeN:=Bb underlying392 underlying5 Gz ZX Ny J4;obtain⟨ps4,⟨g,t,cs4,fuel4,p4,q4,hg,ht,Z9,He,_,_⟩,_⟩:=h4;obtain rfl:=Option.some.inj (g4.symm.trans hg);obtain rfl:=Option.some.inj (g4t.symm.trans ht);rw[Pp]at He;have ZY:cs4.toList.length=2 * 16:=by
  obtain⟨xs,m,_,_,hl,_⟩:=DataW.trod_array underlying437 He;exact hl.trans ak
 have aeO:=IW underlying437 underlying436 underlying5 Vv Gz ⟨rfl,rfl⟩ ⟨rfl,rfl⟩ ZY ak He;refine .fK _ (fun b d hb=>?_) (fun b oK hb=>?_)
 ·unfold Bt at hb;split at hb
  ·rename_i h;subst h;injection hb with hb;subst hb;rw[TD];exact JP g3 Z8 aeN
  ·split at hb
   ·rename_i h;subst h;injection hb with hb;subst hb;rw[Zk];exact JP g4 Z9 aeO
   ·cases hb
 ·unfold Ls at hb;split at hb
  ·rename_i E2;subst E2;injection hb with hb;subst hb;refine⟨ar,ty,sp,?_⟩;rw[hh]
   congr 2
   rw[<-Array.toArray_toList (xs:=cs),eW]
  ·cases hb
noncomputable def low:Nat:=(World.holding prog default ⟨#[],#[],[]⟩).heap.size
def rowOf(l:List Int):Array Value:=(l.map (Value.int .u8)).toArray
def putRow(cs:Array Value):Obj->Obj
 | .cells _ t frozen=> .cells cs t frozen
 |o=>o
def Yy:Array Value:= #[.int .u16 9,.int .u16 13,.int .u16 1,.int .u16 32,.int .u16 133,.int .u16 101,.int .u16 160,.int .u16 5760,.int .u16 5600,.int .u16 8192,.int .u16 8202,.int .u16 1,.int .u16 8232,.int .u16 8233,.int .u16 1,.int .u16 8239,.int .u16 8287,.int .u16 48,.int .u16 12288,.int .u16 12288,.int .u16 1]
noncomputable def za(os:Os):World:=
 let w0:=World.holding prog os ⟨#[.cells Yy 427,.cells #[.slice (some ⟨low,0,none⟩) 7 7,.slice none 0 0,.int .i64 2] 425],#[],[]⟩
 {w0 with heap:=(((w0.heap.modify 1 (putRow #[.pointer (some ⟨low+1,0,none⟩)])).modify 0 (putRow (rowOf Lib.asciiSpaceTab))).modify 3 (putRow (rowOf CD))).modify 4 (putRow (rowOf (DW.flatMap fun z=>[z.1,z.2])))}
def QT(os:Os)(args:Array Value):laidMetH prog C6 ((za os).forCall (fun _ _=>0) ⟨#[],args,[]⟩).memory:=
 laidMetH_of_parts (laidMet_of_run' 8 ak ak) ak
open Go.Proofs.YtkgloohlmogakaaGreatDoor.Rows in
theorem Ax{H:Type}:∀l:List (DataW H),(l.map uptoBulk).sum=uptoBulkAll l
 |[]=>rfl
 |x::l=>by rw[mC,List.sum_cons,Ax l,uptoBulkAll]
open Go.Proofs.YtkgloohlmogakaaGreatDoor.Rows in
theorem Zx{H:Type}:Cb (uptoBulk (H:=H)):=by
 refine⟨fun d=>?_,fun s=>?_,fun es sp=>?_,fun ps=>?_⟩
 ·cases d with
  |lit l=>cases l<;>simp[uptoBulk]
  |_=>simp[uptoBulk]
 ·simp[uptoBulk]
 ·rw[Ax,uptoBulk];omega
 ·rw[Ax,uptoBulk];omega
open Go.Proofs.YtkgloohlmogakaaGreatDoor.Rows in
def O3{H:Type}{l:List (DataW H)}(h:uptoSmall H l=true):(l.map uptoBulk).sum<=1048576:=by rw[Ax];exact of_decide_eq_true h
end Go.V.Jl
