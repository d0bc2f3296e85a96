/- Lemmas on plain data and programs: part B43. -/
import Derived.Laws.Externs
import Derived.Lib.Bytealg
import Derived.Test.YtkknfajchefgaaaGreatDoorB41
import Derived.Test.YtkknfajchefgaaaGreatDoorB42
set_option linter.all false
set_option maxHeartbeats 8000000
set_option maxRecDepth 100000
namespace Go.V.Rp
open Go.Proofs Go.Proofs.Tryz Go.RowKit Go.V.Lx Go.V.Gr Go.V.Ty Go.V.St
def bJ(c:UInt8):ae->ae×ae×Bool
 |[]=>([],[],false)
 |x::s=>if x=c then([],s,true)else(x::(bJ c s).1,(bJ c s).2.1,(bJ c s).2.2)
theorem ph(c:UInt8):∀s,s=if(bJ c s).2.2=true then(bJ c s).1++c::(bJ c s).2.1 else(bJ c s).1
 |[]=>rfl
 |x::s=>by
  have ih:=ph c s;rw[bJ]
  exact awN
theorem Ik(c:UInt8):∀s,c∉(bJ c s).1
 |[]=>by simp[bJ]
 |x::s=>by
  have ih:=Ik c s;rw[bJ]
  exact awN
theorem JN{c:UInt8}{s:ae}(h:(bJ c s).2.2=false):(bJ c s).2.1=[]:=by
 induction s with
 |nil=>rfl
 |cons x s ih=>
  rw[bJ]at h⊢
  exact awN
theorem DP(c:UInt8):∀s,Lib.indexByte s c=if(bJ c s).2.2=true then((bJ c s).1.length:Int)else -1
 |[]=>rfl
 |x::s=>by
  have ih:=DP c s;rw[bJ,Lib.indexByte]
  exact awN
def RB(s:ae):fL s=if(bJ 32 s).2.2=true then(bJ 32 s).1::fL (bJ 32 s).2.1 else[s]:=by
 have he:=ph 32 s;have hn:=Ik 32 s;cases hb:(bJ 32 s).2.2 with
 |true=>
  rw[hb,aaO rfl]at he
  conv=>lhs;rw[he]
  rw[RA _ hn,aaO rfl]
 |false=>
  rw[hb,aaw sI]at he;rw[<-he]at hn;rw[RC hn,aaw sI]
def DU{c:UInt8}{s:ae}(h:(bJ c s).2.2=true):s.length=(bJ c s).1.length+(bJ c s).2.1.length+1:=by
 have he:=ph c s
 exact awN
def aab{c:UInt8}{s:ae}(h:(bJ c s).2.2=true):s.take (bJ c s).1.length=(bJ c s).1:=by
 have he:=ph c s
 exact awN
def EX{c:UInt8}{s:ae}(h:(bJ c s).2.2=true):s.drop ((bJ c s).1.length+1)=(bJ c s).2.1:=by
 have he:=ph c s;rw[aaO h]at he;clear h;generalize(bJ c s).1=a at he⊢;generalize(bJ c s).2.1=b at he⊢;exact awy
def Xq{c:UInt8}{s:ae}(h:(bJ c s).2.2=true):s.take ((bJ c s).1.length+1)=(bJ c s).1++[c]:=by
 have he:=ph c s
 exact awN
instance(s:ae)(c:UInt8):Ct 225 [.str s,.int .u8 (c.toNat:Int)] True (I (Lib.indexByte s c)):=⟨fun _=>by
 intro w S vs hS hg hl hv;obtain⟨u,v,rfl,hu,hv⟩:=Ia hl hv;rw[fj hu,cV hv];refine .inr ⟨.int .i64 (Lib.indexByte s c),w,?_,.int _ _,afY _ _⟩;rw[akL (fn:=f225) rfl ar ar ar (e:=Extern.BytealgIndexByte.indexByte) ar,Lib.run_indexByteString];simp_all⟩
instance(s:ae)(c:UInt8):Ct 145 [.str s,.int .u8 (c.toNat:Int)] True (I (s.count c)):=⟨fun _=>by
 intro w S vs hS hg hl hv;obtain⟨u,v,rfl,hu,hv⟩:=Ia hl hv;rw[fj hu,cV hv];refine .inr ⟨.int .i64 (s.count c:Nat),w,?_,.int _ _,afY _ _⟩;rw[akL (fn:=f145) rfl ar ar ar (e:=Extern.BytealgCount.count) ar,Lib.run_countString];simp_all[Lib.countByte]⟩
instance(s:ae)(c:UInt8):Ct 168 [.str s,.int .u8 (c.toNat:Int)] True (I (Lib.indexByte s c)):=by
 refine dp f168 [] [.tmp 4] fun pre=>?_;exact zE
instance(s:ae)(c:UInt8):Ct 102 [.str s,.int .u8 (c.toNat:Int)] True (I (Lib.indexByte s c)):=by
 refine dp f102 [] [.tmp 4] fun pre=>?_;exact zE
instance(s:ae)(c:UInt8):Ct 146 [.str s,.str [c]] True (I (Lib.indexByte s c)):=by
 refine dp f146 [] [.tmp 4] fun pre=>?_;have h:[c]=s->Lib.indexByte s c=0:=fun h=>by subst h;simp[Lib.indexByte]
 replace h:Hid _:=h;have x1:((1:Nat):Int)=1:=rfl;repeat' first|exact zQ|with_reducible apply zJ<;>intro _|refine zK ?_
 all_goals (rw[h.out awy];exact .refl _)
instance(s:ae)(c:UInt8):Ct 76 [.str s,.str [c]] True (I (Lib.indexByte s c)):=by
 refine dp f76 [] [.tmp 4] fun pre=>?_;exact zE
instance(s:ae)(c:UInt8):Ct 75 [.str s,.str [c]] True (I (s.count c)):=by
 refine dp f75 [] [.tmp 4] fun pre=>?_;have x1:((1:Nat):Int)=1:=rfl;exact zE
def Dm(e:ae):List ae->List ae
 |[]=>[]
 |[x]=>[x]
 |x::y::l=>(x++e)::Dm e (y::l)
def zU(c:UInt8):ae->List ae
 |[]=>[[]]
 |x::s=>if x=c then[]::zU c s else match zU c s with
  |[]=>[[x]]
  |y::l=>(x::y)::l
theorem Jd(c:UInt8):∀s,zU c s=if(bJ c s).2.2=true then(bJ c s).1::zU c (bJ c s).2.1 else[s]
 |[]=>rfl
 |x::s=>by
  have ih:=Jd c s;rw[zU,bJ]
  exact awN
theorem Xj(c:UInt8)(s:ae):zU c s≠[]:=by grind [Jd]
def zb(c:UInt8)(e s:ae):List ae:=Dm e (zU c s)
def ab1(c:UInt8)(e s:ae):zb c e s=if(bJ c s).2.2=true then((bJ c s).1++e)::zb c e (bJ c s).2.1 else[s]:=by
 unfold zb
 conv=>lhs;rw[Jd]
 cases hb:(bJ c s).2.2 with
 |true=>
  simp only[abo];cases hs:zU c (bJ c s).2.1 with
  |nil=>grind [Xj]
  |cons y l=>rfl
 |false=>simp[Dm]
theorem OM:∀l,Dm [] l=l
 |[]=>rfl
 |[x]=>rfl
 |x::y::l=>by rw[Dm,OM (y::l),aez]
theorem RD:∀s,fL s=zU 32 s
 |[]=>rfl
 |x::s=>by rw[fL,zU,RD s];rfl
def ab2(s:ae):zb 32 [] s=fL s:=by rw[zb,OM,RD]
theorem Qg:∀ {s:ae},(10:UInt8)∉s->du s=([],s)
 |[],_=>rfl
 |x::s,h=>by
  have h1:¬x=10:=fun e=>h (by simp[e]);have h2:(10:UInt8)∉s:=fun e=>h (aa2 _ e);rw[du,Qg h2,aaw h1]
theorem JM(c:UInt8):∀s,s.count c=if(bJ c s).2.2=true then(bJ c s).2.1.count c+1 else 0
 |[]=>rfl
 |x::s=>by
  have ih:=JM c s;rw[bJ,List.count_cons]
  exact awN
def Got(t:Nat)(R:List ae)(bx:ab)(d:D)(bx':ab):Prop:=∃e,d= .ba t e 1 0 R.length/\bx' t=⟨e,1,1,9,R.map D.str⟩/\cO [(76,1000)] bx' bx
def U8(bx:ab)(s:ae)(c:UInt8)(sv:Nat)(E:ae)(hv:sv<=1)(hE:∀a b:ae,(a++c::b).take (a.length+sv)=a++E)(hl:s.length<=1099511627776):az prog 34 0 [.str s,.str [c],I sv,I (-1)] bx (Got 107 (zb c E s) bx) (fun _ _=>False):=by
 refine fB 66 76 f34 [] [.tmp 8] ?_;have hc:s.count c<=s.length:=List.count_le_length;have anj:min ((s.count c:Int)+1) ((s.length:Int)+1)=((s.count c+1:Nat):Int):=oM;have bh:¬[c]=[]:=sI
 have hrt:(((s.count c+1:Nat):Int)).toNat=s.count c+1:=oM;have x1:((1:Nat):Int)=1:=rfl;have k1:(0:Int)<=((s.count c+1:Nat):Int):=oM;have k2:((s.count c+1:Nat):Int)<=((s.count c+1:Nat):Int):=oM;have k3:((s.count c+1:Nat):Int) * ((16:Nat):Int)<=140737488355328:=oM;have hlr:(List.replicate (s.count c+1) (D.str [])).length=s.count c+1:=sI
 generalize hR:zb c E s=R;replace hE:Hid _:=hE;refine zW ?_;intros;refine fresh (fun σ B=>σ 0= .str s/\σ 1= .str [c]/\σ 2=I sv/\σ 3=I (s.count c)/\σ 9= .ba 107 ((bx 107).ep+1) 1 0 (s.count c+1)/\σ 10=I 0/\B 107=⟨(bx 107).ep+1,1,1,9,List.replicate (s.count c+1) (.str [])⟩/\cO [(76,1000)] B bx) ⟨sG,sG,sG,sG,sG,sG,awx,ag⟩ ?_;rintro σ B ⟨s0,s1,s2,s3,s9,s10,hB,hA⟩;generalize(bx 107).ep+1=e at *;clear hlr k3 k2 k1 hrt anj;refine adZ (([]:List ae),s) (fun g=>g.2.count c) [(0,0),(10,11),(34,57)] [(107,107)] (fun g τ β=>τ 0= .str g.2/\τ 10=I g.1.length/\β 107=⟨e,1,1,9,g.1.map D.str++List.replicate (g.2.count c+1) (.str [])⟩/\Hid (g.1++zb c E g.2=R/\g.1.length+g.2.count c=s.count c/\g.2.length<=s.length)) ⟨s0,s10,awN,hR,sI,aaN _⟩ ?_;rintro⟨acc,t⟩ τ β ⟨h0,jF,hb,hh⟩;simp only at h0 jF hb hh;obtain⟨h1,h2,h3⟩:=hh.out;clear hh hR;have hg:=ab1 c E t;have hx:=DP c t;have iR:=JM c t;have a1:(acc.length:Int)<((s.count c+1:Nat):Int):=oM;cases hf:(bJ c t).2.2 with
 |true=>
  have zr:=DU hf;have rD:t.take ((bJ c t).1.length+sv)=(bJ c t).1++E:=by
   have:=hE.out (bJ c t).1 (bJ c t).2.1;have he:=ph c t
   exact awN
  have hdr:=EX hf;rw[hf,aaO rfl]at hg hx iR;generalize(bJ c t).1=a at *;generalize(bJ c t).2.1=b at *;have i1:¬(a.length:Int)<0:=oM;have i0:(acc.length:Int)<(s.count c:Int):=oM;have jG:(acc.map D.str++List.replicate (t.count c+1) (D.str []))[acc.length]? =some (.str []):=awN
  have bI:(acc.map D.str++List.replicate (t.count c+1) (D.str [])).set acc.length (.str (a++E))=(acc++[a++E]).map D.str++List.replicate (b.count c+1) (.str []):=awN
  generalize acc.map D.str++List.replicate (t.count c+1) (D.str [])=es at *;have w3:IntKind.i64.wrap ((a.length:Int)+(sv:Int))=((a.length+sv:Nat):Int):=awm
  have w4:IntKind.i64.wrap ((a.length:Int)+1)=((a.length+1:Nat):Int):=awm
  have w5:IntKind.i64.wrap ((acc.length:Int)+1)=((acc.length+1:Nat):Int):=awm
  have k4:((a.length+sv:Nat):Int)<=(t.length:Int):=oM;have k5:((a.length+1:Nat):Int)<=(t.length:Int):=oM;have fin:Hid (b.count c<t.count c/\(acc++[a++E])++zb c E b=R/\(acc++[a++E]).length+b.count c=s.count c/\b.length<=s.length):=by
   show _/\_
   exact awN
  have htb:b.take (t.length - (a.length+1))=b:=aeu oM;clear hE hg h1 h2 h3 iR zr hc;refine zW ?_;intros;exact⟨(acc++[a++E],b),fin.out.1,rfl,sI,rfl,fin.out.2⟩
 |false=>
  rw[hf,aaw sI]at hg hx iR;have i1:¬(acc.length:Int)<(s.count c:Int):=oM;rw[hg]at h1;rw[iR]at hb;have jG:(acc.map D.str++List.replicate (0+1) (D.str []))[acc.length]? =some (.str []):=awN
  have bI:(acc.map D.str++List.replicate (0+1) (D.str [])).set acc.length (.str t)=R.map D.str:=awN
  generalize acc.map D.str++List.replicate (0+1) (D.str [])=es at *;have w5:IntKind.i64.wrap ((acc.length:Int)+1)=((acc.length+1:Nat):Int):=awm
  have hRl:R.length=acc.length+1:=awN
  have k6:((acc.length+1:Nat):Int)<=((s.count c+1:Nat):Int):=oM;clear hE hg h1 h2 h3 iR hc;refine zW ?_;intros;exact⟨e,by rw[hRl],awx,ag⟩
theorem aaJ{f:Nat}{ds:List D}{R:List ae}(h:az prog f 0 ds (fun _=> .none) (Got 107 R (fun _=> .none)) fun _ _=>False):Ct f ds True (strs R):=⟨fun _=>h.to (fun _ _ h=>h) fun d bx' ⟨e,h1,h2,_⟩=>⟨strs R,by rw[h1,jQ,h2];exact ja _ _ _ _ _ _ awL sI avK,.refl _⟩⟩
def OS(bx:ab)(s:ae)(hl:s.length<=1099511627776):az prog 12 0 [.str s,.str [10]] bx (Got 107 (zb 10 [10] s) bx) (fun _ _=>False):=by
 refine fB 10 66 f12 [] [.tmp 4] ?_;have x1:((1:Nat):Int)=1:=rfl;refine zW ?_;intros;refine ao (U8 _ s 10 1 [10] oM (fun a b=>awN) hl) rfl ?_;rintro d bx' ⟨e,rfl,h2,h3⟩;refine zW ?_;intros;exact⟨e,rfl,h2,h3⟩
instance(s:ae)(c:UInt8):Ct 34 [.str s,.str [c],I 0,I (-1)] (s.length<=1099511627776) (strs (zb c [] s)):=⟨fun h=>(aaJ (U8 _ s c 0 [] oM (fun a b=>sI) h)).h trivial⟩
instance(s:ae):Ct 63 [.str s,.str [32]] (s.length<=1099511627776) (strs (fL s)):=by
 refine dp f63 [] [.tmp 4] fun pre=>?_;rw[<-ab2];exact zE
instance(s:ae):Ct 104 [.str s,.str [32]] (s.length<=1099511627776) (.aL [.str (if(bJ 32 s).2.2 then(bJ 32 s).1 else s),.str (bJ 32 s).2.1,.bool (bJ 32 s).2.2]):=by
 refine dp f104 [] [.tmp 4,.tmp 5,.tmp 6] fun pre=>?_;have x1:((1:Nat):Int)=1:=rfl;have hx:=DP 32 s;have hb:=JN (c:=32) (s:=s);cases hf:(bJ 32 s).2.2 with
 |true=>
  have zr:=DU hf;have rD:=aab hf;have hdr:=EX hf;rw[hf,aaO rfl]at hx;clear hb;generalize(bJ 32 s).1=a at *;generalize(bJ 32 s).2.1=b at *;have w4:IntKind.i64.wrap ((a.length:Int)+1)=((a.length+1:Nat):Int):=au_
  have k5:((a.length+1:Nat):Int)<=(s.length:Int):=oM;have k6:((a.length:Nat):Int)<=(s.length:Int):=oM;have k7:(0:Int)<=(a.length:Int):=oM;have htb:b.take (s.length - (a.length+1))=b:=aeu oM;clear zr;exact zE
 |false=>
  rw[hf,aaw sI]at hx;rw[hb hf];exact zE
instance(s:ae):Ct 59 [.str s,.str [32]] (s.length<=1099511627776) (.aL [.str (if(bJ 32 s).2.2 then(bJ 32 s).1 else s),.str (bJ 32 s).2.1,.bool (bJ 32 s).2.2]):=by
 refine dp f59 [] [.tmp 4,.tmp 5,.tmp 6] fun pre=>?_;exact zE
def Wa{s:ae}(h:0<s.length):s.drop (s.length - 1)=[10]<->s.getLast? =some 10:=auo
instance(s:ae):Ct 169 [.str s,.str [10]] (s.length<=1099511627776) (.bool (decide (s.getLast? =some 10))):=by
 refine dp f169 [] [.tmp 4] fun pre=>?_;have x1:((1:Nat):Int)=1:=rfl;by_cases h:s=[]
 ·subst h;refine zW ?_;intros;exact .refl (.bool false)
 have h0:0<s.length:=aev.2 h;have h1:(1:Int)<=(s.length:Int):=oM;have w4:IntKind.i64.wrap ((s.length:Int) - 1)=((s.length - 1:Nat):Int):=au_
 have k5:((s.length - 1:Nat):Int)<=(s.length:Int):=oM;have hd:decide (s.drop (s.length - 1)=[10])=decide (s.getLast? =some 10):=by rw[abu];simp[Wa h0]
 exact zE
def dropLast_take(s:ae):s.take (s.length - 1)=s.dropLast:=(List.dropLast_eq_take ..).symm
instance(s:ae):Ct 103 [.str s,.str [10]] (s.length<=1099511627776) (.aL [.str (if s.getLast? =some 10 then s.dropLast else s),.bool (decide (s.getLast? =some 10))]):=by
 refine dp f103 [] [.tmp 4,.tmp 5] fun pre=>?_;have x1:((1:Nat):Int)=1:=rfl;have hd:=dropLast_take s;by_cases h:s.getLast? =some 10
 ·have h0:0<s.length:=aev.2 fun e=>by subst e;simp at h
  have w4:IntKind.i64.wrap ((s.length:Int) - 1)=((s.length - 1:Nat):Int):=au_
  have k5:((s.length - 1:Nat):Int)<=(s.length:Int):=oM;have k7:(0:Int)<=((s.length - 1:Nat):Int):=oM;exact zE
 ·exact zE
instance(s:ae):Ct 58 [.str s,.str [10]] (s.length<=1099511627776) (.aL [.str (if s.getLast? =some 10 then s.dropLast else s),.bool (decide (s.getLast? =some 10))]):=by
 refine dp f58 [] [.tmp 4,.tmp 5] fun pre=>?_;exact zE
def Pw{f:FuncId}{fn:Func}{tab:List (Nat×List (Nat×Nat))}{b:Bx}{items:List (List D)}{pd:Option D}{ext:Nat}(h:SC prog (dD prog) tab fn b items pd ext)(hf:prog.funcs[f]? =some fn)
 (dJ:(fn.name== "runtime.NumGoroutine")=false) (hlen:decide (2<=fn.ntmps)=true):xH prog f b items pd ext:=Gn mixed hf dJ (afe hlen) (rK prog) h
def Rg{s:ae}(h:s≠[]):i_ s=if(bJ 10 s).2.2=true then((bJ 10 s).1++[10])::i_ (bJ 10 s).2.1 else[s]:=by
 have he:=ph 10 s;have hn:=Ik 10 s;cases hb:(bJ 10 s).2.2 with
 |true=>
  rw[hb,aaO rfl]at he;rw[aaO rfl]
  grind [i_,rn]
 |false=>
  rw[hb,aaw sI]at he;rw[<-he]at hn;rw[aaw sI]
  grind [i_,Qg]
theorem Fc:i_ []=[]:=rfl
instance(s:ae):Ct 102 [.str s,.int .u8 10] True (I (Lib.indexByte s 10)):=⟨fun h=>(inferInstance:Ct 102 [.str s,.int .u8 (((10:UInt8).toNat:Nat):Int)] True (I (Lib.indexByte s 10))).h h⟩
def Zp(s:ae)(hs:s.length<=1099511627776)(e0:Nat):xH prog 101 ⟨e0,1,1,9,[.str s]⟩ ((i_ s).map fun l=>[.str l]) none 27:=by
 refine Gl mixed (fn:=f101) (tab:=[]) ?_ rfl rfl ar;refine Gm _ 25 rfl rfl rfl ar ?_;intro gs l e bx hk hz hb;refine zW ?_;intros;refine Uw (s,([]:List ae)) (fun g=>g.1.length) [(3,24)] (fun g τ β=>(β gs).sz=g.2.length/\(β gs).k=0/\β (gs+1)=⟨e,1,1,9,[.str g.1]⟩/\g.1.length<=s.length/\i_ s=g.2++i_ g.1) ⟨hz,hk,hb,aaN _,rfl⟩ ?_;rintro⟨t,acc⟩ τ β ⟨hz,hk,hb,hl,hr⟩;simp only at hz hk hb hl hr;have n1:¬gs=gs+1:=oM;have n2:¬gs+1=gs:=oM;by_cases ht:t=[]
 ·subst ht;rw[Fc,aez]at hr;refine zW ?_;intros;exact awJ
 have h0:(0:Int)<(t.length:Int):=auF
 have hc:=Rg ht;have hx:=DP 10 t;cases sD:(bJ 10 t).2.2 with
 |true=>
  have zr:=DU sD;have rD:=Xq sD;have hdr:=EX sD;rw[sD,aaO rfl]at hc hx;have h1:(0:Int)<=Lib.indexByte t 10:=awN
  generalize(bJ 10 t).1=a at *;generalize(bJ 10 t).2.1=b at *;have w4:IntKind.i64.wrap ((a.length:Int)+1)=((a.length+1:Nat):Int):=awm
  have k5:((a.length+1:Nat):Int)<=(t.length:Int):=oM;have k4:(0:Int)<=((a.length+1:Nat):Int):=oM;have k7:(0:Int)<=(a.length:Int):=oM;have htb:b.take (t.length - (a.length+1))=b:=aeu oM;have fin:Hid (b.length<t.length/\b.length<=s.length/\i_ s=(acc++[a++[10]])++i_ b):=by
   show _/\_
   exact awN
  have hit:Hid (((i_ s).map fun l=>[D.str l])[acc.length]? =some [.str (a++[10])]):=by
   show _=_
   exact awN
  clear zr hc hr;refine zW ?_;intros;refine wA rfl sG asa fun bx1=>⟨?_,?_⟩
  ·refine zW ?_;intros;exact⟨(b,acc++[a++[10]]),fin.out.1,sI,rfl,fin.out.2.1,fin.out.2.2⟩
  ·refine zW ?_;intros
   exact awN
 |false=>
  rw[sD,aaw sI]at hc hx;have fin:Hid (i_ s=(acc++[t])++i_ []):=by
   show _=_
   grind [Fc]
  have hit:Hid (((i_ s).map fun l=>[D.str l])[acc.length]? =some [.str t]):=by
   show _=_
   exact awN
  clear hc hr;refine zW ?_;intros;refine wA rfl sG asa fun bx1=>⟨?_,?_⟩
  ·refine zW ?_;intros;exact⟨([],acc++[t]),awN,sI,rfl,sI,fin.out⟩
  ·refine zW ?_;intros
   exact awN
def AP(s:ae):List (List D):=(i_ s).zipIdx.map fun p=>[I ((p.2+1:Nat):Int),.str p.1]
def acu(s:ae)(b:Nat)(bx:ab):az prog 56 b [.str s] bx (fun d bx'=>d= .fn (.func 101) [.loc (b+1) ((bx (b+1)).ep+1) 0 0]/\bx'=ah bx (b+1) ⟨(bx (b+1)).ep+1,1,1,9,[.str s]⟩) (fun _ _=>False):=by
 refine fB 4 b f56 [] [.tmp 2] ?_;exact zE
def Tj(s:ae)(b:Nat)(bx:ab):az prog 27 b [.str s] bx (fun d bx'=>d= .fn (.func 55) [.loc (b+1) ((bx (b+1)).ep+1) 0 0]/\bx'=ah bx (b+1) ⟨(bx (b+1)).ep+1,1,1,9,[.str s]⟩) (fun _ _=>False):=by
 refine fB 4 b f27 [] [.tmp 2] ?_;exact zE
theorem AK:∀(k:Nat) (s:ae),s.length<=k->(i_ s).length<=s.length
 |k,s,hk=>by
  by_cases h:s=[]
  ·grind [Fc]
  have h0:0<s.length:=aev.2 h;rw[Rg h];cases hb:(bJ 10 s).2.2 with
  |true=>
   have hl:=DU hb
   match k,hk with
   |k+1,hk=>
    have:=AK k (bJ 10 s).2.1 oM
    exact awN
   |0,hk=>omega
  |false=>grind
def PD(s:ae)(hs:s.length<=1099511627776)(e0:Nat):xH prog 55 ⟨e0,1,1,9,[.str s]⟩ (AP s) none 44:=by
 refine Pw (fn:=f55) (tab:=[]) ?_ rfl rfl ar;refine⟨awL,_,rfl,ar,rfl,?_⟩;intro gs l e bx hk hz hb;show cD _ ⟨_,_,gs+2,gs+2+15,_,_,_,_⟩ _ _ _ _;have n1:¬gs+1=gs:=oM;refine zW ?_;intros;refine abH (acu s (gs+7) _) (fun d bx' hq=>?_) fun d bx' hq=>?_
 ·obtain⟨rfl,rfl⟩:=hq
  grind [j5,al]
 obtain⟨rfl,rfl⟩:=hq;generalize(bx (gs+2+2)).ep+1=e1;generalize J9:(bx (gs+2+3)).ep+1=e2;have n2:¬gs+2+3=gs+2+2:=oM;have n3:¬gs+2+2=gs+2+3:=oM;have n4:¬gs=gs+2+2:=oM;have n5:¬gs=gs+2+3:=oM;have n6:¬gs=gs+7+1:=oM;have n7:¬gs+2+2=gs+7+1:=oM;have n8:¬gs+2+3=gs+7+1:=oM;have n9:¬gs+7+1=gs+2+2:=oM;have n10:¬gs+7+1=gs+2+3:=oM;refine zW ?_;intros;refine fresh (fun σ B=>σ 2= .loc (gs+2+2) e1 0 0/\σ 3= .loc (gs+2+3) e2 0 0/\(∃e3,σ 6= .fn (.func 101) [.loc (gs+7+1) e3 0 0]/\B (gs+7+1)=⟨e3,1,1,9,[.str s]⟩)/\(B gs).sz=0/\(B gs).k=0/\B (gs+2+2)=⟨e1,1,1,167,[.fn (.yield l) []]⟩/\B (gs+2+3)=⟨e2,1,1,3,[I 0]⟩) ⟨sG,by simp[go_sem,ah,n2,J9],⟨(bx (gs+7+1)).ep+1,by simp[go_sem,ah,n9,n10],by simp[ah,n9,n10]⟩,awd,awd,awd,awd⟩ ?_;clear J9 hz hk hb;rintro σ B ⟨s2,s3,⟨e3,s6,b8⟩,hz,hk,b2,b3⟩;refine Se 101 (gs+7+1) e3 ⟨e3,1,1,9,[.str s]⟩ _ none 27 (fun n c=>(c gs).sz=n/\(c gs).k=0/\c (gs+2+2)=⟨e1,1,1,167,[.fn (.yield l) []]⟩/\c (gs+2+3)=⟨e2,1,1,3,[I n]⟩) (by simp[go_sem,s6]) oM oM b8 (Zp s hs _) oM ?_ ?_ ?_
 ·have h1:gs<gs+2+15:=oM;simp_all[Ij,ah]
 ·intro n it bx1 hit hJ;have h1:gs<gs+2+15:=oM;have h2:gs+2+2<gs+2+15:=oM;have h3:gs+2+3<gs+2+15:=oM;simp only[Ij,aaO h1,aaO h2,aaO h3]at hJ;obtain⟨j1,j2,j3,j4⟩:=hJ;rw[aaZ,aav]at hit;obtain⟨x,hx,rfl⟩:=hit;have hn:=(aaL.1 hx).1;have zr:=AK _ s (aaN _);have w:IntKind.i64.wrap ((n:Int)+1)=((n+1:Nat):Int):=aR oM;have hi:Hid ((AP s)[n]? =some [I ((n+1:Nat):Int),.str x]):=by
   show _=_
   grind [AP]
  refine⟨rfl,?_⟩;clear hx hn zr hz hk b2 b3 b8;refine zW ?_;intros;refine wA rfl sG (by simp only[ah,aaw n5,j1];exact hi.out) fun aT=>⟨?_,?_⟩
  ·refine zW ?_;intros
   exact awN
  ·refine zW ?_;intros;refine⟨fun q q1 q2=>?_,fun jD hc=>?_⟩
   ·rw[aaw oM,aaO oM,aaO q2,aaw oM]
   ·rw[F_ hc oM,aY]
    exact awN
 ·intro bx1 hJ;have h1:gs<gs+2+15:=oM;have hJ:=hJ.1;simp only[Ij,aaO h1,aa0]at hJ;simp only[C_];refine zW ?_;intros;simp_all[AP]
instance(r:Int):Ct 246 [.int .i32 r] True (.bool (decide (0<=r/\r<55296)||decide (57343<r/\r<=1114111))):=by
 refine dp f246 [] [.tmp 2] fun pre=>?_;repeat' first|exact zQ|with_reducible apply zJ<;>intro _|refine zK ?_
 all_goals (refine aq (aaR D.bool ?_);simp[*];try omega)
instance(n:Int):Ct 176 [I n] True (.bool (fJ n)):=by
 refine dp f176 [] [.tmp 2] fun pre=>?_;have h:0<=n->n<=1114111->fJ n=(decide (0<=n/\n<55296)||decide (57343<n/\n<=1114111)):=fun h1 h2=>by rw[abu,gH];simp;omega
 have h1:¬0<=n->fJ n=false:=fun h=>auy
 have h2:¬n<=1114111->fJ n=false:=fun h=>auy
 have w:0<=n->n<=1114111->IntKind.i32.wrap n=n:=fun h1 h2=>IntWalk.i32_in n ⟨oM,oM⟩;replace h:Hid _:=h;replace h1:Hid _:=h1;replace h2:Hid _:=h2;by_cases g1:0<=n
 ·by_cases g2:n<=1114111
  ·have w:=w g1 g2;rw[h.out g1 g2];exact zE
  ·rw[h2.out g2];replace w:Hid _:=w;exact zE
 ·rw[h1.out g1];replace w:Hid _:=w;exact zE
theorem LY{k:IntKind}(hk:k.signed=false){a:Nat}(ha:a<2 ^ k.bits):k.wrap (a:Int)=a:=by cases k<;>simp[IntKind.signed]at hk<;>simp[IntKind.wrap,IntKind.signed,IntKind.bits]at ha⊢ <;>omega
def amt(k:IntKind)(hk:k.signed=false){a b:Nat}(ha:a<2 ^ k.bits):fg .and k a b=((a&&& b:Nat):Int):=by
 have h:a&&& b<2 ^ k.bits:=Nat.lt_of_le_of_lt Nat.and_le_left ha
 grind [fg,Nat.mod_eq_of_lt,Nat.and_mod_two_pow,LY]
def orn(k:IntKind)(hk:k.signed=false){a b:Nat}(ha:a<2 ^ k.bits)(hb:b<2 ^ k.bits):fg .or k a b=((a|||b:Nat):Int):=by grind [fg,LY]
def DF{a:Nat}(ha:a<256):fg .and .u8 (a:Int) 63=((a % 64:Nat):Int):=by
 have:=amt .u8 rfl (a:=a) (b:=63) au0;rw[show a&&& 63=a % 64 by have:=Nat.and_two_pow_sub_one_eq_mod a 6;grind]at this;exact this
def w8m(n:Nat):IntKind.u8.wrap (n:Int)=((n % 256:Nat):Int):=by rw[IntKind.wrap_u8];omega
def orA{a b i:Nat}(h:a<2 ^ i):b * 2 ^ i|||a=b * 2 ^ i+a:=by rw[<-Nat.shiftLeft_eq,<-Nat.shiftLeft_add_eq_or_of_lt h]
def sh8(n q:Nat){p:Int}(hp:p=(q:Int)):IntKind.u8.wrap ((n:Int).fdiv p)=((n / q % 256:Nat):Int):=by
 subst hp;rw[Int.fdiv_eq_ediv_of_nonneg _ oM,<-Int.natCast_ediv,w8m]
def aiT{m:Nat}(h:m<64):fg .or .u8 192 (m:Int)=((192+m:Nat):Int):=by
 have:=orn .u8 rfl (a:=192) (b:=m) avk au0;rw[show 192|||m=192+m from orA (i:=6) (b:=3) h]at this;exact this
def aiU{m:Nat}(h:m<32):fg .or .u8 224 (m:Int)=((224+m:Nat):Int):=by
 have:=orn .u8 rfl (a:=224) (b:=m) avk au0;rw[show 224|||m=224+m from orA (i:=5) (b:=7) h]at this;exact this
def aiV{m:Nat}(h:m<16):fg .or .u8 240 (m:Int)=((240+m:Nat):Int):=by
 have:=orn .u8 rfl (a:=240) (b:=m) avk au0;rw[show 240|||m=240+m from orA (i:=4) (b:=15) h]at this;exact this
def D1{m:Nat}(h:m<128):fg .or .u8 128 (m:Int)=((128+m:Nat):Int):=by
 have:=orn .u8 rfl (a:=128) (b:=m) avk au0;rw[show 128|||m=128+m from orA (i:=7) (b:=1) h]at this;exact this
def uk(a b:ae):cM (a++b)=cM a++cM b:=by simp[cM]
@[go_sem] theorem um(s:ae):(cM s).length=s.length:=by simp[cM]
abbrev jS:List Nat:=[8,112,224,249,277,210]
def Jq(bx bx':ab)(d:D)(s:ae):Prop:=(∃t e,t∈jS/\d= .ba t e 1 0 (cM s).length/\bx' t=⟨e,1,1,5,cM s⟩)/\∀q,q∉jS->bx' q=bx q
theorem Jq.mk{bx β:ab}{d:D}{s:ae}(h:aP β jS 5 1 d (cM s))(hs:s≠[]):Jq bx (an (bE jS) β bx) d s:=by
 refine⟨?_,fun q hq=>?_⟩
 ·rcases h.mix (bx:=bx) (bE jS)with⟨_,h0⟩|⟨t,e,ht,hd,hb⟩<;>grind [cM]
 ·have:aZ (bE jS) q=false:=by
   simp[jS,bE,aZ]at *;exact oM
  show(if aZ (bE jS) q=true then _ else _)=_
  exact awN
def bl1(n:Nat)(h1:128<=n)(h2:n<=2047):[D.int .u8 ((192+n / 64:Nat):Int),D.int .u8 ((128+n % 64:Nat):Int)]=cM (bw n):=by
 unfold bw;rw[aaw oM,aaO oM];simp[cM];exact oM
def bl2(n:Nat)(h1:2048<=n)(h2:n<=65535):[D.int .u8 ((224+n / 4096:Nat):Int),D.int .u8 ((128+n / 64 % 64:Nat):Int),D.int .u8 ((128+n % 64:Nat):Int)]=cM (bw n):=by
 unfold bw;rw[aaw oM,aaw oM,aaO oM];simp[cM];exact oM
def bl3(n:Nat)(h1:65536<=n)(h2:n<=1114111):[D.int .u8 ((240+n / 262144:Nat):Int),D.int .u8 ((128+n / 4096 % 64:Nat):Int),D.int .u8 ((128+n / 64 % 64:Nat):Int),D.int .u8 ((128+n % 64:Nat):Int)]=cM (bw n):=by
 unfold bw;rw[aaw oM,aaw oM,aaw oM];simp[cM];exact oM
theorem Aj(n:Nat):bw n≠[]/\(bw n).length<=4:=by grind [bw]
def afR(n:Nat)(hn:128<=n/\n<=1114111)(hp:fJ n=true)(bs:ae)(hb:bs.length<=1099511627776)(x:D)(bx:ab)(hv:aP bx jS 5 1 x (cM bs)):
 az prog 287 200 [x,.int .i32 n] bx (fun d bx'=>Jq bx bx' d (bs++bw n)) (fun _ _=>False):=by
 refine fB 78 200 f287 [] [.tmp 4] ?_;have hf:=hv.facts;have w1:IntKind.u32.wrap (n:Int)=n:=LY (k:=.u32) rfl au0;have uW:(cM bs).length<=1099511627776:=by rw[um];exact hb
 have e6:IntKind.u8.wrap ((n:Int).fdiv (2 ^ min 6 32))=((n / 64 % 256:Nat):Int):=sh8 n 64 rfl;have e12:IntKind.u8.wrap ((n:Int).fdiv (2 ^ min 12 32))=((n / 4096 % 256:Nat):Int):=sh8 n 4096 rfl;have e18:IntKind.u8.wrap ((n:Int).fdiv (2 ^ min 18 32))=((n / 262144 % 256:Nat):Int):=sh8 n 262144 rfl;have e0:=w8m n;have bh:bs++bw n≠[]:=by simp_all[Aj]
 obtain⟨n1,n2⟩:=hn;rw[gH]at hp;by_cases hA:(n:Int)<=2047
 ·have g1:fg .or .u8 192 ((n / 64 % 256:Nat):Int)=((192+n / 64:Nat):Int):=by rw[show n / 64 % 256=n / 64 by omega];exact aiT oM
  have g2:fg .and .u8 ((n % 256:Nat):Int) 63=((n % 64:Nat):Int):=avF
  have g3:=D1 (m:=n % 64) oM;have hE:=bl1 n n1 oM;clear hp n1 n2;refine zW ?_;intros;refine app jS hv (fun x' β' cq=>?_) awN;rw[<-uk]at cq;have xR:=cq.facts;refine zW ?_;intros;exact Jq.mk cq bh
 ·by_cases hB:(n:Int)<=65535
  ·have g1:fg .or .u8 224 ((n / 4096 % 256:Nat):Int)=((224+n / 4096:Nat):Int):=by rw[show n / 4096 % 256=n / 4096 by omega];exact aiU oM
   have g2:fg .and .u8 ((n % 256:Nat):Int) 63=((n % 64:Nat):Int):=avF
   have g4:fg .and .u8 ((n / 64 % 256:Nat):Int) 63=((n / 64 % 64:Nat):Int):=avF
   have g3:=D1 (m:=n % 64) oM;have g5:=D1 (m:=n / 64 % 64) oM;have hE:=bl2 n oM oM;have hC:(n:Int)<55296\/(¬(n:Int)<55296/\(57343:Int)<(n:Int)):=oM;rcases hC with hC|⟨hC,hD⟩
   all_goals
    clear hp n1 n2;refine zW ?_;intros;refine app jS hv (fun x' β' cq=>?_) awN;rw[<-uk]at cq;have xR:=cq.facts;refine zW ?_;intros;exact Jq.mk cq bh
  ·have g1:fg .or .u8 240 ((n / 262144 % 256:Nat):Int)=((240+n / 262144:Nat):Int):=by rw[show n / 262144 % 256=n / 262144 by omega];exact aiV oM
   have g2:fg .and .u8 ((n % 256:Nat):Int) 63=((n % 64:Nat):Int):=avF
   have g4:fg .and .u8 ((n / 64 % 256:Nat):Int) 63=((n / 64 % 64:Nat):Int):=avF
   have g6:fg .and .u8 ((n / 4096 % 256:Nat):Int) 63=((n / 4096 % 64:Nat):Int):=avF
   have g3:=D1 (m:=n % 64) oM;have g5:=D1 (m:=n / 64 % 64) oM;have g7:=D1 (m:=n / 4096 % 64) oM;have hE:=bl3 n oM oM;have hC:¬(n:Int)<55296:=oM;have hD:(65535:Int)<(n:Int):=oM;have hF:(n:Int)<=1114111:=oM;have hG:(57343:Int)<(n:Int):=oM;clear hp n1 n2;refine zW ?_;intros;refine app jS hv (fun x' β' cq=>?_) awN;rw[<-uk]at cq;have xR:=cq.facts;refine zW ?_;intros;exact Jq.mk cq bh
def ahM(n:Nat)(hp:fJ n=true)(bs:ae)(hb:bs.length<=1099511627776)(x:D)(bx:ab)(hv:aP bx jS 5 1 x (cM bs)):
 az prog 247 100 [x,.int .i32 n] bx (fun d bx'=>Jq bx bx' d (bs++bw n)) (fun _ _=>False):=by
 refine fB 16 100 f247 [] [.tmp 4] ?_;have hf:=hv.facts;have bu:=hp;rw[gH]at bu;have w1:IntKind.u32.wrap (n:Int)=n:=LY (k:=.u32) rfl au0;have bh:bs++bw n≠[]:=by simp_all[Aj]
 by_cases hA:(n:Int)<=127
 ·have e0:IntKind.u8.wrap (n:Int)=n:=by rw[w8m];omega
  have hE:[D.int .u8 (n:Int)]=cM (bw n):=by unfold bw;rw[aaO oM];simp[cM];omega
  replace hE:Hid _:=hE;clear bu hp;refine zW ?_;intros;rw[hE.out];refine app jS hv (fun x' β' cq=>?_) (by grind [Aj,um]);rw[<-uk]at cq;have xR:=cq.facts;refine zW ?_;intros;exact Jq.mk cq bh
 ·have hc:=afR n oM hp bs hb x bx hv;clear bu hp;refine zW ?_;intros;refine ao hc rfl fun d bx1 hq=>?_;exact zE
def notM{ts:List Nat}{q:Nat}(h:q∉ts):aZ (bE ts) q=false:=by cases hx:aZ (bE ts) q<;>simp_all[DQ]
def Joi(d:D)(bx:ab)(s:ae):Prop:=if s.length<=4096 then(∃t e,t∈jS/\d= .ba t e 1 0 (cM s).length/\bx t=⟨e,1,1,5,cM s⟩)else d= .ak
theorem abP(a b:List Int):enc (a++b)=enc a++enc b:=by simp[enc]
def Yq{l:List Int}{j:Nat}{x:Int}(h:l[j]? =some x):enc (l.take (j+1))=enc (l.take j)++bw x.toNat:=by grind [List.take_add_one,enc]
def abQ(l:List Int)(j:Nat):(enc (l.take j)).length<=(enc l).length:=by
 have:=aaR List.length (aaR enc (aeZ j l))
 grind [abP]
def Zk(l:List Int)(hl:Lm l)(hp:l.all fJ=true)(bx:ab):az prog 177 0 [ints l] bx (fun d bx'=>Joi d bx' (enc l)/\∀q,q∉jS->bx' q=bx q) (fun _ _=>False):=by
 refine fB 24 0 f177 [] [.tmp 2] ?_;have k2:(0:Int)<=(l.length:Int):=oM;have k3:(l.length:Int) * ((1:Nat):Int)<=140737488355328:=oM;refine zW ?_;intros;refine fresh (fun σ B=>σ 9=ints l/\σ 10=I l.length/\σ 11=I 0/\(∃e,σ 3= .ba 8 e 1 0 0/\B 8=⟨e,1,1,5,[]⟩)/\∀q,q∉jS->B q=bx q) ⟨sG,sG,sG,⟨(bx 8).ep+1,sG,awx⟩,fun q hq=>al fun h=>hq (h▸sI)⟩ ?_;rintro σ B ⟨s9,s10,s11,⟨e8,s3,b8⟩,hK⟩;replace hK:Hid _:=hK;refine bT l [(2,3),(5,5),(11,22)] (bE jS) (fun j τ β=>τ 11=I j/\(enc (l.take j)).length<=4096/\∃t e,t∈jS/\τ 3= .ba t e 1 0 (cM (enc (l.take j))).length/\β t=⟨e,1,1,5,cM (enc (l.take j))⟩) hl ⟨s11,by simp[enc],8,e8,sI,by grind [enc,cM],by grind [enc,cM]⟩ (fun j x τ β hx hj hw hi=>?_) fun τ β hn hi=>?_
 ·obtain⟨gM,zr,t,e,ht,h3,hb⟩:=hi;have hpx:=aaI.1 hp x (aat hx);have hpi:=(gH x).1 hpx;obtain⟨n,rfl⟩:∃n:Nat,x=n:=⟨x.toNat,oM⟩
  have rD:=Yq hx;have anp:=abQ l (j+1);simp only[ae3]at rD;rw[rD]at anp;have hv:aP (an (bE jS) β B) jS 5 1 (τ 3) (cM (enc (l.take j))):=aP.mix (bx:=B) (.inr ⟨t,e,ht,h3,hb⟩) (bE jS);have bS:=ahM n hpx _ oM _ _ hv;have hlx:=(Aj n).2;have w:IntKind.i32.wrap (n:Int)=n:=IntWalk.i32_in _ ⟨oM,oM⟩;generalize h3x:τ 3=x0 at *;have hf:=hv.facts;clear hpi hpx h3 hb ht;replace rD:Hid _:=rD;refine zW ?_;intros;refine ao bS rfl fun d bx1 hq=>?_;obtain⟨⟨t',e',rC,rfl,dQ⟩,eW⟩:=hq;have am8:cO (bE jS) bx1 B:=fun q hq=>by
   have jv:q∉jS:=fun h=>by grind [DQ]
   exact(eW q jv).trans (by show(if aZ (bE jS) q=true then _ else _)=_;grind)
  generalize enc (l.take j)++bw n=E at *;clear eW bS hv;repeat' first|exact zQ|with_reducible apply zJ<;>intro _|refine zK ?_
  ·rename_i au;refine⟨?_,fun q hq=>(am8 q (notM hq)).trans (hK.out q hq)⟩;unfold Joi
   exact awN
  ·rename_i au;rw[rD.out]
   exact awN
 ·obtain⟨gM,zr,t,e,ht,h3,hb⟩:=hi;rw[aaP]at zr h3 hb;have hv:aP (an (bE jS) β B) jS 5 1 (τ 3) (cM (enc l)):=aP.mix (bx:=B) (.inr ⟨t,e,ht,h3,hb⟩) (bE jS);have nw:aZ (bE jS) t=true:=DQ.2 ht;have hf:=hv.facts;have k1:an (bE jS) β B t=⟨e,1,1,5,cM (enc l)⟩:=by show(if aZ (bE jS) t=true then _ else _)=_;grind
  have k2:∀q,q∉jS->an (bE jS) β B q=bx q:=fun q hq=>by
   show(if aZ (bE jS) q=true then _ else _)=_;rw[notM hq];exact hK.out q hq
  generalize an (bE jS) β B=B2 at *;replace k1:Hid _:=k1;replace k2:Hid _:=k2;replace ht:Hid _:=ht;clear hv s3 b8 hb nw;refine zW ?_;intros;refine⟨?_,k2.out⟩;unfold Joi;rw[aaO zr];exact⟨t,e,ht.out,by rw[um],k1.out⟩
def Xn(s:ae):D.aH (cM s)=true:=Oo (fun _=>rfl) s
@[go_sem] def aot(e ty:Nat)(s:ae):Of ⟨e,1,1,ty,cM s⟩ e 1 0 s.length=some (.sl 1 (cM s)):=ja _ _ _ _ _ _ awL (by simp[cM]) (Xn s)
@[go_sem] def ahV:∀s:ae,oz (cM s)=some s
 :=by intro a;induction a<;>simp_all[oz,cM]
def HR(l:List Int):Int:=if l.all fJ=true then(if(enc l).length<=4096 then 0 else 2)else 90
theorem Jh(l:List Int):HR l=0<->∃s,nI l=some s:=by
 unfold HR nI;by_cases h1:l.all fJ=true
 ·exact awy
 exact awN
instance(l:List Int):Ct 122 [ints l] (Lm l) (.aL [.str ((nI l).getD []),I (HR l)]):=by
 refine fnH f122 (n:=23) [(4000010,[(0,6)])] [.tmp 2,.tmp 3] fun pre=>?_;generalize hA:l.all fJ=A;refine zW ?_;intros;refine ql l hA 9 [(2,3),(5,5),(9,16)] [] pre sG (fun j x τ β hx hj hw hi cH=>?_) fun τ β hn hi ha=>?_
 ·replace hA:Hid _:=hA;refine zW ?_;intros
  grind [nI,HR,aq]
 ·subst ha;refine sw ?_;refine ao (Zk l pre hA _) rfl fun d bx1 hq=>?_;obtain⟨hJ,-⟩:=hq;unfold Joi at hJ;by_cases hl:(enc l).length<=4096
  ·rw[aaO hl]at hJ;obtain⟨t,e,-,rfl,hb⟩:=hJ;have h1:nI l=some (enc l):=by simp_all[nI]
   have h2:HR l=0:=(Jh l).2 ⟨_,h1⟩;rw[h1,h2];refine zW ?_;intros;exact .refl _
  ·rw[aaw hl]at hJ;subst hJ;have h1:nI l=none:=by simp_all[nI]
   have h2:HR l=2:=by simp_all[HR]
   rw[h1,h2];refine zW ?_;intros;exact .refl _
instance(n a b:Int):Ct 71 [I n,I a,I b] True (.bool (aX n a b)):=by
 refine dp f71 [] [.tmp 6] fun pre=>?_;unfold aX;exact zF
instance(n:Int):Ct 72 [I n] True (.bool (aX n 0 1099511627775)):=by
 refine dp f72 [] [.tmp 2] fun pre=>?_;exact zE
instance(s:ae):Ct 73 [.str s] True (.bool (!dG s)):=by
 refine dp f73 [] [.tmp 2] fun pre=>?_;exact zE
def abX(x:Fix):yq x=(aX x.no 0 1048576&&aX x.at_ 0 1099511627775&&aX x.known 0 1099511627775&&aX x.sp 0 63&&decide (0<=x.first)&&decide (x.first<x.last)&&decide (x.last<=1099511627776)&&decide ((x.words.length:Int)<=64)&&dG x.reason&& !x.words.any fun s=> !dG s):=by
 unfold yq;rw[List.all_eq_not_any_not,show lM x.at_=aX x.at_ 0 1099511627775 by unfold lM aX;grind,show lM x.known=aX x.known 0 1099511627775 by unfold lM aX;grind]
instance(x:Fix):Ct 33 [x.d] True (.bool (yq x)):=by
 refine dp f33 [] [.tmp 2] fun pre=>?_;rw[abX];exact zF
def MY(a:Int)(x:Fix):Option Int:=if yq x&&decide (a<x.no)then some x.no else none
theorem MZ:∀(l:List Fix) (a:Int),(l.foldlM MY a).isSome=gY yq Fix.no a l
 |[],a=>rfl
 |x::l,a=>by
  rw[akA,gY,MY];by_cases h:(yq x&&decide (a<x.no))=true
  ·rw[aaO h];rw[h,akW];exact MZ l x.no
  exact awN
instance(r:Rec):Ct 11 [r.d] (St.iU r.s) (I (bQ r)):=by
 refine dp f11 [] [.tmp 2] fun pre=>?_;unfold bQ;rw[<-MZ];generalize hA:List.foldlM MY (-1) r.cn=A;repeat' first|exact zQ|with_reducible apply zJ<;>intro _|refine zK ?_
 ·exact aq sI
 rotate_left
 ·exact av3
 rename_i h0 h1;refine yV r.cn MY (-1) hA 19 [(2,3),(5,5),(19,34)] [(5,5)] (fun j s τ _=>τ 3=I s) awN sG sG (fun j x s τ β hx hj hw hi h3 cH=>?_) fun s τ β hn hi h3 ha=>?_
 ·unfold MY at cH⊢;clear pre;exact zF
 ·exact zF
abbrev nZ:D:=.bK 235 (.agg [])
instance(b:Bool):Cq 61 [.bool b] True b (.aL []) nZ:=by
 refine fnQ f61 (n:=6) [] [] fun pre bx=>?_;repeat' first|exact zQ|with_reducible apply zJ<;>intro _|refine zK ?_
 all_goals exact awJ
def ou(l:List ae):Prop:=l.length<=1099511627776/\∀s∈l,s.length<=1099511627776
theorem ou.tail{f:ae}{l:List ae}(h:ou (f::l)):ou l:=⟨by have:=h.1;grind,fun s hs=>h.2 s (aa2 _ hs)⟩
theorem ou.drop{l:List ae}(h:ou l)(n:Nat):ou (l.drop n):=⟨by have:=h.1;simp;omega,fun s hs=>h.2 s (List.mem_of_mem_drop hs)⟩
def j8(bx:ab)(e:Nat)(l:List ae):Prop:=bx 112=⟨e,1,1,188,[.agg [strs l]]⟩
def One(bx:ab)(e:Nat)(d:D)(bx':ab)(f:ae)(l:List ae):Prop:=d= .str f/\j8 bx' e l/\∀q,q≠112->bx' q=bx q
def abj(l:List ae)(e:Nat)(bx:ab)(h:j8 bx e l):az prog 174 400 [.loc 112 e 0 0] bx (fun d bx'=>∃f m,l=f::m/\One bx e d bx' f m) (fun d bx'=>l=[]/\d=nZ/\bx'=bx):=by
 have hb:bx 112=⟨e,1,1,188,[.agg [.sl 1 (l.map D.str)]]⟩:=h;refine fB 26 400 f174 [] [.tmp 2] ?_;cases l with
 |nil=>
  repeat' first|exact zQ|with_reducible apply zJ<;>intro _|((with_reducible refine dU ?_ (fun _=>?_) fun _=>?_);exact pr)|refine zK ?_|fail
  exact awN
 |cons f m=>
  have h0:(0:Int)<(m.length:Int)+1:=oM;repeat' first|exact zQ|with_reducible apply zJ<;>intro _|((with_reducible refine dU ?_ (fun _=>?_) fun _=>?_);exact pr)|refine zK ?_|fail
  ·exact⟨f,m,rfl,rfl,by simp[j8,ah,strs,aeu],fun q hq=>al hq⟩
  ·exact awy
def nW:List ae->Option (Int×List ae)
 |[]=>none
 |f::l=>(dA f).map fun v=>(v,l)
instance(n:Int):Ct 46 [I n] (-9223372036854775808<=n/\n<=9223372036854775807) (.str (Lib.itoa n)):=⟨fun h=>itoa_c n h.1 h.2⟩
def N7(l:List ae)(hl:ou l)(e:Nat)(bx:ab)(h:j8 bx e l):az prog 115 420 [.loc 112 e 0 0] bx (fun d bx'=>∃v m,nW l=some (v,m)/\d=I v/\j8 bx' e m/\∀q,q≠112->bx' q=bx q) (fun d bx'=>nW l=none/\d=nZ/\∀q,q≠112->bx' q=bx q):=by
 refine fB 31 420 f115 [] [.tmp 2] ?_;refine zW ?_;intros;refine bj (abj l e bx h) rfl (fun d bx1 hq=>?_) (fun d bx1 hq=>?_)
 rotate_left
 ·obtain⟨rfl,rfl,rfl⟩:=hq;refine zW ?_;intros;simp[nW]
 obtain⟨f,m,rfl,rfl,h1,h2⟩:=hq;have hf:=hl.2 f sI;have hn:nW (f::m)=(dA f).map fun v=>(v,m):=rfl;have ha:=atoi_c f oM;unfold dA at hn;unfold atoiD at ha;generalize nW (f::m)=N at *;replace h2:Hid _:=h2;clear h hl hf;cases hr:Lib.atoiAll f
 case ok v=>
  rw[hr]at hn ha;simp only at hn ha;haveI:Ct 175 [.str f] True (.aL [.int .i64 v,.raw .nilIface]):=⟨fun _=>ha⟩
  by_cases hg:iT v/\Lib.itoa v=f
  ·rw[aaO hg]at hn;obtain⟨⟨g1,g2⟩,g3⟩:=hg;clear ha hr;repeat' first|exact zQ|with_reducible apply zJ<;>intro _|((with_reducible refine dU ?_ (fun _=>?_) fun _=>?_);exact pr)|refine zK ?_|fail
   all_goals first|exact⟨v,m,rfl,rfl,h1,h2.out⟩|grind
  ·rw[aaw hg]at hn;have hN:N=none:=hn;replace hg:Hid _:=hg;clear ha hr hn;repeat' first|exact zQ|with_reducible apply zJ<;>intro _|((with_reducible refine dU ?_ (fun _=>?_) fun _=>?_);exact pr)|refine zK ?_|fail
   all_goals first|exact h2.out|(exfalso;have:=hg.out;simp_all[iT];done)
 all_goals
  rw[hr]at hn ha;simp only at hn ha;haveI:Ct 175 [.str f] True _:=⟨fun _=>ha⟩
  have hN:N=none:=hn;clear ha hr hn;repeat' first|exact zQ|with_reducible apply zJ<;>intro _|((with_reducible refine dU ?_ (fun _=>?_) fun _=>?_);exact pr)|refine zK ?_|fail
  all_goals first|exact h2.out|grind
def Wi{l:List ae}{j:Nat}{f:ae}{acc:List Int}(h:(l.take j).mapM dA=some acc)(hf:l[j]? =some f):(l.take (j+1)).mapM dA=(dA f).map fun v=>acc++[v]:=by
 rw[ae2,hf,akS,List.mapM_append,h];cases hn:dA f<;>simp[hn]
def mapM_none{l:List ae}{j k:Nat}(hj:j<=k)(h:(l.take j).mapM dA=none):(l.take k).mapM dA=none:=auD
theorem iZ{bx:ab}{ts:List Nat}{el esz:Nat}{x:D}{xs:List D}(h:aP bx ts el esz x xs){q:Nat}(hq:q∉ts):aS bx [x] q=bx q:=by rw[fP,aaw fun hn=>hq (aP.names h q (by simpa[bY]using hn))]
def X2(bx bx':ab)(e s:Nat)(d x:D)(m:List ae):Prop:=∃r,aU bx' d=some r/\bA r x/\j8 (aS bx' [d]) e m/\∀q,q≠112->q≠s->aS bx' [d] q=bx q
def Ww(k:Nat)(l:List ae)(hl:ou l)(e:Nat)(bx:ab)(h:j8 bx e l):az prog 106 300 [.loc 112 e 0 0,I k] bx (fun d bx'=>∃ns,ea k l=some ns/\X2 bx bx' e 320 d (ints ns) (l.drop k)) (fun d bx'=>ea k l=none/\d=nZ/\∀q,q≠112->q≠320->bx' q=bx q):=by
 refine fB 23 300 f106 [] [.tmp 4] ?_;have hb:bx 112=⟨e,1,1,188,[.agg [.sl 1 (l.map D.str)]]⟩:=h;repeat' first|exact zQ|with_reducible apply zJ<;>intro _|((with_reducible refine dU ?_ (fun _=>?_) fun _=>?_);exact pr)|refine zK ?_|fail
 rotate_left
 ·exact aq9
 rename_i hk;simp only[aaH]at hk;have QS:ea k l=(l.take k).mapM dA:=aaO oM;rw[QS];replace QS:True:=trivial;have mQ:k<=l.length:=oM;have BH:=hl.1;refine DH [(4,4),(14,21)] [(112,112),(320,320)] k (fun j τ β=>τ 14=I j/\j8 β e (l.drop j)/\∃acc,acc.length=j/\(l.take j).mapM dA=some acc/\aP β [320] 3 1 (τ 4) (acc.map I)) ⟨sG,h,[],rfl,rfl,auz⟩ (fun j τ β hj hi=>?_) fun τ β hi=>?_
 ·obtain⟨mB,hF,acc,cQ,ha,hv⟩:=hi;generalize QZ:τ 4=x0 at *;have au:(j:Int)<(k:Int):=oM;have w:IntKind.i64.wrap ((j:Int)+1)=((j+1:Nat):Int):=aR oM;have hf:=hv.facts;have bS:=N7 (l.drop j) (hl.drop j) e (an [(112,112),(320,320)] β bx) hF;obtain⟨f,hfj⟩:∃f,l[j]? =some f:=⟨_,aaS oM⟩
  have hdj:l.drop j=f::l.drop (j+1):=auo
  have hms:=Wi ha hfj;have hmn:=fun h=>mapM_none (l:=l) (j:=j+1) (k:=k) oM h;rw[hdj]at bS;simp only[nW]at bS;clear hF hl h hb;refine zW ?_;intros;refine bj bS rfl (fun d bx1 hq=>?_) (fun d bx1 hq=>?_)
  ·obtain⟨v,m,h1,rfl,h3,h4⟩:=hq;have hvn:dA f=some v/\m=l.drop (j+1):=by grind [dA]
   obtain⟨hx,rfl⟩:=hvn;rw[hx]at hms;have iH:aP bx1 [320] 3 1 x0 (acc.map I):=(hv.mix (bx:=bx) [(112,112),(320,320)]).of fun t ht=>h4 t awN;have eW:cO [(112,112),(320,320)] bx1 bx:=fun q hq=>(h4 q avf).trans (by simp[an,hq]);have am9:(acc++[v]).length=j+1:=by simp[cQ]
   replace hms:List.mapM dA (List.take (j+1) l)=some (acc++[v]):=hms;clear bS hmn h4 hv h1 ha;refine zW ?_;intros;refine app [320] iH (fun x' β' cq=>?_) awe;have xR:=cq.facts;refine zW ?_;intros;exact⟨h3,acc++[v],am9,rfl,by rw[aeI];exact cq.mix _⟩
  ·obtain⟨h1,rfl,h3⟩:=hq;have hN:List.mapM dA (List.take k l)=none:=hmn (by
    simp_all)
   replace h3:Hid _:=h3;clear bS hms hmn hv;repeat' first|exact zQ|with_reducible apply zJ<;>intro _|((with_reducible refine dU ?_ (fun _=>?_) fun _=>?_);exact pr)|refine zK ?_|fail
   exact fun q q1 q2=>(h3.out q q1).trans avU
 ·obtain⟨mB,hF,acc,cQ,ha,hv⟩:=hi;generalize QZ:τ 4=x0 at *;have hf:=hv.facts;have hn:¬(k:Int)<(k:Int):=oM;have fX:=hv.mix (bx:=bx) [(112,112),(320,320)];refine zW ?_;intros;obtain⟨r,o1,o2⟩:=fX.out avK;exact⟨acc,rfl,r,o1,o2,(iZ fX awL).trans hF,fun q q1 q2=>(iZ fX (by simp[q2])).trans (by simp[an,aZ];omega)⟩
def eD(k:Nat)(l:List ae):Option (List ae):=if k<=l.length then(if(l.take k).all dG=true then some (l.take k)else none)else none
def RT(k:Nat)(l:List ae)(hl:ou l)(e:Nat)(bx:ab)(h:j8 bx e l):az prog 111 360 [.loc 112 e 0 0,I k] bx (fun d bx'=>∃ws,eD k l=some ws/\X2 bx bx' e 385 d (strs ws) (l.drop k)) (fun d bx'=>eD k l=none/\d=nZ/\∀q,q≠112->q≠385->bx' q=bx q):=by
 refine fB 28 360 f111 [] [.tmp 4] ?_;have hb:bx 112=⟨e,1,1,188,[.agg [.sl 1 (l.map D.str)]]⟩:=h;repeat' first|exact zQ|with_reducible apply zJ<;>intro _|((with_reducible refine dU ?_ (fun _=>?_) fun _=>?_);exact pr)|refine zK ?_|fail
 rotate_left
 ·exact aq9
 rename_i hk;simp only[aaH]at hk;have QS:eD k l=if(l.take k).all dG=true then some (l.take k)else none:=aaO oM
 rw[QS];replace QS:True:=trivial;have mQ:k<=l.length:=oM;have BH:=hl.1;refine DH [(4,5),(15,26)] [(112,112),(385,385)] k (fun j τ β=>τ 15=I j/\j8 β e (l.drop j)/\(l.take j).all dG=true/\aP β [385] 9 1 (τ 4) ((l.take j).map D.str)) ⟨sG,h,rfl,auz⟩ (fun j τ β hj hi=>?_) fun τ β hi=>?_
 ·obtain⟨wZ,hF,ha,hv⟩:=hi;generalize QZ:τ 4=x0 at *;have au:(j:Int)<(k:Int):=oM;have w:IntKind.i64.wrap ((j:Int)+1)=((j+1:Nat):Int):=aR oM;have hf:=hv.facts;have bS:=abj (l.drop j) e (an [(112,112),(385,385)] β bx) hF;obtain⟨f,hfj⟩:∃f,l[j]? =some f:=⟨_,aaS oM⟩
  have hdj:l.drop j=f::l.drop (j+1):=auo
  have htj:l.take (j+1)=l.take j++[f]:=awN
  have cH:dG f=false->(l.take k).all dG=false:=fun h=>akx.2 ⟨f,aat (i:=j) awN,awK⟩;rw[hdj]at bS;replace cH:Hid _:=cH;clear hF hl h hb;refine zW ?_;intros;refine bj bS rfl (fun d bx1 hq=>?_) (fun d bx1 hq=>?_)
  ·obtain⟨f',m,h1,rfl,h3,h4⟩:=hq;injection h1 with h1 h2;subst h1;subst h2;have iH:aP bx1 [385] 9 1 x0 ((l.take j).map D.str):=(hv.mix (bx:=bx) [(112,112),(385,385)]).of fun t ht=>h4 t awN;have eW:cO [(112,112),(385,385)] bx1 bx:=fun q hq=>(h4 q avf).trans (by simp[an,hq]);have zr:(l.take j).length<=1099511627776:=awe
   clear bS h4 hv;repeat' first|exact zQ|with_reducible apply zJ<;>intro _|((with_reducible refine dU ?_ (fun _=>?_) fun _=>?_);exact pr)|refine zK ?_|fail
   ·rename_i hw;refine app [385] iH (fun x' β' cq=>?_) awN;have xR:=cq.facts;refine zW ?_;intros;exact⟨h3,awN,by rw[aeI];exact cq.mix _⟩
   ·rename_i hw;refine⟨by rw[cH.out hw];rfl,fun q q1 q2=>eW q (by simp[aZ];omega)⟩
  exact awN
 ·obtain⟨wZ,hF,ha,hv⟩:=hi;generalize QZ:τ 4=x0 at *;have hf:=hv.facts;have hn:¬(k:Int)<(k:Int):=oM;have fX:=hv.mix (bx:=bx) [(112,112),(385,385)];rw[ha];refine zW ?_;intros;obtain⟨r,o1,o2⟩:=fX.out (by rw[kI];simp[D.pure]);exact⟨l.take k,rfl,r,o1,o2,(iZ fX awL).trans hF,fun q q1 q2=>(iZ fX (by simp[q2])).trans (by simp[an,aZ];omega)⟩
def agk(l:List ae)(hl:ou l)(e:Nat)(bx:ab)(h:j8 bx e l):az prog 112 350 [.loc 112 e 0 0] bx (fun d bx'=>∃ws,eD l.length l=some ws/\X2 bx bx' e 385 d (strs ws) []) (fun d bx'=>eD l.length l=none/\d=nZ/\∀q,q≠112->q≠385->bx' q=bx q):=by
 refine fB 10 350 f112 [] [.tmp 2] ?_;have hb:bx 112=⟨e,1,1,188,[.agg [.sl 1 (l.map D.str)]]⟩:=h;refine zW ?_;intros;refine bj (RT l.length l hl e bx h) rfl (fun d bx1 hq=>?_) (fun d bx1 hq=>?_)
 ·obtain⟨ws,h1,r,o1,o2,o3,o4⟩:=hq;rw[List.drop_length]at o3;refine zW ?_;intros;exact⟨ws,rfl,r,o1,o2,o3,o4⟩
 ·obtain⟨h1,rfl,h2⟩:=hq;repeat' first|exact zQ|with_reducible apply zJ<;>intro _|((with_reducible refine dU ?_ (fun _=>?_) fun _=>?_);exact pr)|refine zK ?_|fail
  exact h2
end Go.V.Rp
