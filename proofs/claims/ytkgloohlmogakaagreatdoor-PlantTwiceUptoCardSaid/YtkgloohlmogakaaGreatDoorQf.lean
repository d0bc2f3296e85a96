/- Plants: what the laid variables of packages hold when a law is called; a world in which they do; how much the arguments hold. -/
import Derived.Test.YtkgloohlmogakaaGreatDoorVD
import Derived.Test.YtkgloohlmogakaaGreatDoorVt
import Derived.Test.YtkgloohlmogakaaGreatDoorVE
import Derived.Test.YtkgloohlmogakaaGreatDoorRows
import Derived.LaidHandle
import Derived.Stop.LaidErr
import Derived.Stop.Joined
import Derived.OpenShut
set_option linter.unusedSimpArgs false
set_option linter.unusedVariables false
set_option maxRecDepth 100000
namespace Go.V.Jl
open Go.Proofs Go.RowKit
abbrev vz:List (String×DataW Unit):=Go.Proofs.YtkgloohlmogakaaGreatDoor.Rows.plantSpecRow.laid
theorem g0:Tryz.prog.globalNamed "strings.asciiSpace"=some 0:=aj
theorem g3:Tryz.prog.globalNamed "unicode/utf8.first"=some 3:=aj
theorem g4:Tryz.prog.globalNamed "unicode/utf8.acceptRanges"=some 4:=aj
theorem Vf:(Tryz.prog.globals[0]?).map (·.type)=some 392:=aj
theorem Vg:(Tryz.prog.globals[3]?).map (·.type)=some 392:=aj
theorem Vh:(Tryz.prog.globals[4]?).map (·.type)=some 437:=aj
theorem zp:Tryz.prog.cellsOf 5=1:=aj
theorem Ln:Tryz.prog.cellsOf 436=2:=aj
theorem tS{H:Type}{enc:TypeId×Value->H}{P:Program}{w:World}{base:Nat}{sp:Nat->Bool}{held:Bool}{fuel n:Nat}{t e:TypeId}{k:IntKind}{cs:List Value}{zs:List Int}{p:List MemPlace}
 (ht:P.underlying t=some (.array n e)) (he:P.underlying e=some (.int k)) (hc:P.cellsOf e=1) (hn:cs.length=n) (hz:zs.length=n)
 (h:DataW.trod enc P w base sp held fuel t cs=some (.agg (zs.map fun z=> .lit (.int k z)),p)):cs=zs.map (Value.int k):=by
 obtain⟨xs,m,_,hx,_,hxl,hat⟩:=DataW.trod_array ht h;injection hx with hx _;injection hx with hx;apply List.ext_getElem?;intro i;by_cases hi:i<n
 ·have h1:=hat i hi;rw[hc,Nat.mul_one]at h1;have hx1:xs[i]? =some xs[i]:=List.getElem?_eq_getElem oM;rw[hx1]at h1;obtain⟨v,h2,h3,_⟩:=DataW.trod_int he h1;have h4:=congrArg (·[i]?) hx;simp only[List.getElem?_map,hx1,Option.map_some,h3]at h4;have h5:zs[i]? =some zs[i]:=List.getElem?_eq_getElem oM;rw[h5]at h4;simp only[Option.map_some,Option.some.injEq,DataW.lit.injEq,Lit.int.injEq,true_and]at h4;have h6:(cs.drop i)[0]? =some (.int k v):=by
   have:=congrArg (·[0]?) h2;simpa using this
  rw[List.getElem?_drop]at h6;rw[List.getElem?_map,h5,Option.map_some,h4];simpa using h6
 ·rw[List.getElem?_eq_none oM,List.getElem?_eq_none (by simp;omega)]
theorem xW:∀(zs:List (Int×Int)) (i:Nat),(zs.flatMap fun z=>[z.1,z.2])[2 * i]? =zs[i]?.map Prod.fst/\(zs.flatMap fun z=>[z.1,z.2])[2 * i+1]? =zs[i]?.map Prod.snd
 |[],i=>by simp
 |z::zs,0=>by simp
 |z::zs,i+1=>by
  have:=xW zs i;rw[show 2 * (i+1)=2 * i+2 by omega];simpa[List.flatMap_cons]using this
theorem Be{H:Type}{enc:TypeId×Value->H}{P:Program}{w:World}{base:Nat}{sp:Nat->Bool}{held:Bool}{fuel n:Nat}{t e u:TypeId}{f0 f1:Field}{k:IntKind}{cs:List Value}{zs:List (Int×Int)}{p:List MemPlace}
 (ht:P.underlying t=some (.array n e)) (he:P.underlying e=some (.struct #[f0,f1])) (hu:P.underlying u=some (.int k)) (hc:P.cellsOf e=2) (hcu:P.cellsOf u=1) (h0:f0.type=u/\f0.offset=0) (h1:f1.type=u/\f1.offset=1) (hn:cs.length=2 * n) (hz:zs.length=n)
 (h:DataW.trod enc P w base sp held fuel t cs=some (.agg (zs.map fun z=> .agg [.lit (.int k z.1),.lit (.int k z.2)]),p)):cs=(zs.flatMap fun z=>[z.1,z.2]).map (Value.int k):=by
 obtain⟨xs,m,_,hx,_,hxl,hat⟩:=DataW.trod_array ht h;injection hx with hx _;injection hx with hx;have key:∀i,i<n->∃z,zs[i]? =some z/\cs[2 * i]? =some (.int k z.1)/\cs[2 * i+1]? =some (.int k z.2):=by
  intro i hi;have h1':=hat i hi;have hx1:xs[i]? =some xs[i]:=List.getElem?_eq_getElem oM;rw[hx1,hc]at h1';obtain⟨y0,y1,m',e1,_,e2,e3⟩:=ChangeShapes.trod_struct2 he h1';rw[h0.1,h0.2,hcu]at e2;rw[h1.1,h1.2,hcu]at e3;obtain⟨v0,a1,a2,_⟩:=DataW.trod_int hu e2;obtain⟨v1,b1,b2,_⟩:=DataW.trod_int hu e3;have h4:=congrArg (·[i]?) hx;have h5:zs[i]? =some zs[i]:=List.getElem?_eq_getElem oM;simp only[List.getElem?_map,hx1,Option.map_some,e1,h5,a2,b2,Option.some.injEq,DataW.agg.injEq,List.cons.injEq,DataW.lit.injEq,Lit.int.injEq,true_and,and_true]at h4;refine⟨zs[i],h5,?_,?_⟩
  ·have:=congrArg (·[0]?) a1;simp[List.getElem?_take,List.getElem?_drop]at this;rw[h4.1,Nat.mul_comm];exact this
  ·have:=congrArg (·[0]?) b1;simp[List.getElem?_take,List.getElem?_drop]at this;rw[h4.2,Nat.mul_comm];exact this
 apply List.ext_getElem?;intro j;obtain⟨g1,g2⟩:=xW zs (j / 2);rw[List.getElem?_map];by_cases hj:j / 2<n
 ·obtain⟨z,k1,k2,k3⟩:=key (j / 2) hj;rw[k1]at g1 g2;rcases Nat.mod_two_eq_zero_or_one j with hm|hm
  ·rw[show 2 * (j / 2)=j by omega]at g1 k2;rw[g1,k2];rfl
  ·rw[show 2 * (j / 2)+1=j by omega]at g2 k3;rw[g2,k3];rfl
 ·rw[List.getElem?_eq_none (l:=zs) oM]at g1 g2;rw[List.getElem?_eq_none oM];rcases Nat.mod_two_eq_zero_or_one j with hm|hm
  ·rw[show 2 * (j / 2)=j by omega]at g1;rw[g1];rfl
  ·rw[show 2 * (j / 2)+1=j by omega]at g2;rw[g2];rfl
theorem DA{W:World}(h:laidMetH Tryz.prog vz W):laidMet Tryz.prog vz W:=by
 unfold laidMetH at h;have e:vz.filter (fun x=>x.2.handleName?.isSome)=[]:=by kernel_rfl
 rw[e]at h;exact h
def intOf:DataW Unit->Int
 | .lit (.int _ n)=>n
 |_=>0
def Me:DataW Unit->List Int
 | .agg l=>l.map intOf
 |_=>[]
def vk:List Int:=Me Go.Pinned.utf8First
def wH:List (Int×Int):=[(128,191),(160,191),(128,159),(144,191),(128,143),(0,0),(0,0),(0,0),(0,0),(0,0),(0,0),(0,0),(0,0),(0,0),(0,0),(0,0)]
theorem Iq:Go.Proofs.YtkgloohlmogakaaGreatDoor.Rows.laid_strings_asciiSpace (H:=Unit)= .agg (Lib.asciiSpaceTab.map fun z=> .lit (.int .u8 z)):=aj
theorem Ks:Lib.asciiSpaceTab.length=256:=aj
theorem Dl:Go.Proofs.YtkgloohlmogakaaGreatDoor.Rows.laid_unicode_utf8_first= .agg (vk.map fun z=> .lit (.int .u8 z)):=aj
theorem JD:zN= .agg (vk.map (D.int .u8)):=aj
theorem Fa:vk.length=256:=aj
theorem GA:Go.Proofs.YtkgloohlmogakaaGreatDoor.Rows.laid_unicode_utf8_acceptRanges (H:=Unit)= .agg (wH.map fun z=> .agg [.lit (.int .u8 z.1),.lit (.int .u8 z.2)]):=aj
theorem N7:wG= .agg ((wH.flatMap fun z=>[z.1,z.2]).map (D.int .u8)):=aj
theorem rM{W:World}{n:String}{g:Nat}{cs:Array Value}(hg:Tryz.prog.globalNamed n=some g)(h:W.var? Tryz.prog n=some cs):g<W.heap.size/\∃ty sp,W.heap[g]? =some (.cells cs ty sp):=by
 unfold World.var? at h;rw[hg]at h;simp only[Option.bind_some]at h;split at h
 ·rename_i c t f hh;injection h with h;subst h;refine⟨?_,_,_,hh⟩;apply Classical.byContradiction;intro hn;rw[Array.getElem?_eq_none oM]at hh;cases hh
 ·cases h
theorem Cd{W:World}{n:String}{g:Nat}{cs:Array Value}{zs:List Int}(hg:Tryz.prog.globalNamed n=some g)(h:W.var? Tryz.prog n=some cs)(hcs:cs.toList=zs.map (Value.int .u8)):ba W (fun b=>b<W.heap.size) (.cref (.agg (zs.map (D.int .u8))) 0) (.pointer (some ⟨g,0,none⟩)):=by
 obtain⟨h1,ty,sp,h2⟩:=rM hg h;have hd:∀(m:Nat) (c:D),(zs.map (D.int .u8))[m]? =some c->∃z,zs[m]? =some z/\c=D.int .u8 z:=fun m c hm=>by
  rw[List.getElem?_map,Option.map_eq_some_iff]at hm;obtain⟨z,hz,rfl⟩:=hm;exact⟨z,hz,rfl⟩
 refine .cref (off:=0) (us:=fun m=> .int .u8 (zs[m]?.getD 0)) h1 rfl (fun m c hm=>?_) (fun m c hm=>rfl) (fun m c hm=>?_)
 ·obtain⟨z,hz,rfl⟩:=hd m c hm;have hc:cs[m]? =some (.int .u8 z):=by rw[<-Array.getElem?_toList,hcs,List.getElem?_map,hz];rfl
  rw[hz,Option.getD_some,<-hc];have:=World.var?_cell hg h m;simpa using this
 ·obtain⟨z,hz,rfl⟩:=hd m c hm;rw[hz,Option.getD_some];exact .int .u8 z
theorem tI{W:World}(hL:laidMetH Tryz.prog vz W):ba W (fun b=>b<W.heap.size) .glo undef:=by
 have h4:=DA hL;have h0:=h4.tail.tail;have h3:=h0.tail;obtain⟨ps,⟨g,t,cs,fuel,p,q,hg,ht,hvar,hd,_,_⟩,_⟩:=h0;obtain rfl:=Option.some.inj (g0.symm.trans hg);obtain rfl:=Option.some.inj (Vf.symm.trans ht);rw[Iq]at hd;have hlen:cs.toList.length=256:=by
  obtain⟨xs,m,_,_,hl,_⟩:=DataW.trod_array Tryz.underlying392 hd;exact hl.trans aj
 have hcs:=tS Tryz.underlying392 Tryz.underlying5 zp hlen Ks hd;obtain⟨hlt,ty,sp,hh⟩:=rM g0 hvar;obtain⟨ps3,⟨g,t,cs3,fuel3,p3,q3,hg,ht,hvar3,hd3,_,_⟩,_⟩:=h3;obtain rfl:=Option.some.inj (g3.symm.trans hg);obtain rfl:=Option.some.inj (Vg.symm.trans ht);rw[Dl]at hd3;have hlen3:cs3.toList.length=256:=by
  obtain⟨xs,m,_,_,hl,_⟩:=DataW.trod_array Tryz.underlying392 hd3;exact hl.trans aj
 have hcs3:=tS Tryz.underlying392 Tryz.underlying5 zp hlen3 Fa hd3;obtain⟨ps4,⟨g,t,cs4,fuel4,p4,q4,hg,ht,hvar4,hd4,_,_⟩,_⟩:=h4;obtain rfl:=Option.some.inj (g4.symm.trans hg);obtain rfl:=Option.some.inj (Vh.symm.trans ht);rw[GA]at hd4;have hlen4:cs4.toList.length=2 * 16:=by
  obtain⟨xs,m,_,_,hl,_⟩:=DataW.trod_array Tryz.underlying437 hd4;exact hl.trans aj
 have hcs4:=Be Tryz.underlying437 Tryz.underlying436 Tryz.underlying5 Ln zp ⟨rfl,rfl⟩ ⟨rfl,rfl⟩ hlen4 aj hd4;refine .glo _ (fun b d hb=>?_) (fun b cs' hb=>?_)
 ·unfold ue at hb;split at hb
  ·rename_i h;subst h;injection hb with hb;subst hb;rw[JD];exact Cd g3 hvar3 hcs3
  ·split at hb
   ·rename_i h;subst h;injection hb with hb;subst hb;rw[N7];exact Cd g4 hvar4 hcs4
   ·cases hb
 ·unfold Dr at hb;split at hb
  ·rename_i hb3;subst hb3;injection hb with hb;subst hb;refine⟨hlt,ty,sp,?_⟩;rw[hh]
   congr 2
   rw[<-Array.toArray_toList (xs:=cs),hcs]
  ·cases hb
noncomputable def low:Nat:=(World.holding Tryz.prog default ⟨#[],#[],[]⟩).heap.size
def rowOf(l:List Int):Array Value:=(l.map (Value.int .u8)).toArray
def putRow(cs:Array Value):Obj->Obj
 | .cells _ t frozen=> .cells cs t frozen
 |o=>o
def Nd:Array Value:= #[.int .u16 9,.int .u16 13,.int .u16 1,.int .u16 32,.int .u16 133,.int .u16 101,.int .u16 160,.int .u16 5760,.int .u16 5600,.int .u16 8192,.int .u16 8202,.int .u16 1,.int .u16 8232,.int .u16 8233,.int .u16 1,.int .u16 8239,.int .u16 8287,.int .u16 48,.int .u16 12288,.int .u16 12288,.int .u16 1]
noncomputable def mC(os:Os):World:=
 let w0:=World.holding Tryz.prog os ⟨#[.cells Nd 427,.cells #[.slice (some ⟨low,0,none⟩) 7 7,.slice none 0 0,.int .i64 2] 425],#[],[]⟩
 {w0 with heap:=(((w0.heap.modify 1 (putRow #[.pointer (some ⟨low+1,0,none⟩)])).modify 0 (putRow (rowOf Lib.asciiSpaceTab))).modify 3 (putRow (rowOf vk))).modify 4 (putRow (rowOf (wH.flatMap fun z=>[z.1,z.2])))}
theorem Af(os:Os)(args:Array Value):laidMetH Tryz.prog vz ((mC os).forCall (fun _ _=>0) ⟨#[],args,[]⟩).memory:=
 laidMetH_of_parts (laidMet_of_run' 8 aj aj) aj
open Go.Proofs.YtkgloohlmogakaaGreatDoor.Rows in
theorem tt{H:Type}:∀l:List (DataW H),(l.map uptoBulk).sum=uptoBulkAll l
 |[]=>rfl
 |x::l=>by rw[List.map_cons,List.sum_cons,tt l,uptoBulkAll]
open Go.Proofs.YtkgloohlmogakaaGreatDoor.Rows in
theorem II{H:Type}:uK (uptoBulk (H:=H)):=by
 refine⟨fun d=>?_,fun s=>?_,fun es sp=>?_,fun ps=>?_⟩
 ·cases d with
  |lit l=>cases l<;>simp[uptoBulk]
  |_=>simp[uptoBulk]
 ·simp[uptoBulk]
 ·rw[tt,uptoBulk];omega
 ·rw[tt,uptoBulk];omega
open Go.Proofs.YtkgloohlmogakaaGreatDoor.Rows in
theorem yj{H:Type}{l:List (DataW H)}(h:uptoSmall H l=true):(l.map uptoBulk).sum<=1048576:=by rw[tt];exact of_decide_eq_true h
end Go.V.Jl
