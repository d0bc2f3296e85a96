/- Plain laws: B23. -/
import Derived.Test.YtkgloohlmogakaaGreatDoorB20
set_option linter.all false
set_option maxHeartbeats 8000000
set_option maxRecDepth 100000
namespace Go.V.Jn
open Go.Proofs Go.Proofs.Tryz Go.RowKit Go.V.Lx Go.V.Gr Go.V.Ty Go.V.St
instance(s:ah):Ct 97 [aT s] (s.length<=8) (.int .u64 (num s)):=by
 refine bf f97 [] [.tmp 2] fun pre=>?_;repeat' first|exact zQ|with_reducible apply zJ<;>intro _|refine zK ?_
 refine bW s [(3,18)] [] (fun j τ _=>τ 4=I j/\τ 3= .int .u64 (num (s.take j))) (by simp[Lm];omega) (by simp[go_sem,num]) (fun j x τ β hx hj hw hi=>?_) fun τ β hn hi=>?_
 ·obtain⟨hi,h2⟩:=hi;have hb:=my (s.take j);have qC:(256:Nat) ^ (s.take j).length<=256 ^ 7:=Nat.pow_le_pow_right oM (by simp;omega);have lA:=x.toNat_lt;have w1:IntKind.u64.wrap (256 * (num (s.take j):Int))=((256 * num (s.take j):Nat):Int):=by rw[show 256 * (num (s.take j):Int)=((256 * num (s.take j):Nat):Int) by simp,cU rfl (by simp[IntKind.bits];omega)]
  have w2:=I4 (k:=.u64) rfl x;have w3:IntKind.u64.wrap (((256 * num (s.take j):Nat):Int)+(x.toNat:Int))=((256 * num (s.take j)+x.toNat:Nat):Int):=by rw[show((256 * num (s.take j):Nat):Int)+(x.toNat:Int)=((256 * num (s.take j)+x.toNat:Nat):Int) by simp,cU rfl (by simp[IntKind.bits];omega)]
  have qF:=HX hx;repeat' first|exact zQ|with_reducible apply zJ<;>intro _|refine zK ?_
 ·obtain⟨hi,h2⟩:=hi;rw[tL]at h2;repeat' first|exact zQ|with_reducible apply zJ<;>intro _|refine zK ?_
def PQ{m:Nat}(h:m<4294967296):(m:Int).fdiv (2 ^ min 1 32)=((m / 2:Nat):Int):=by rw[show(2:Int) ^ min 1 32=((2:Nat):Int) by rfl,Int.fdiv_eq_ediv_of_nonneg _ oM];rfl
instance(s:ah):Ct 166 [aT s] (Lm s) (.int .u32 (pU s)):=by
 refine bf f166 [] [.tmp 2] fun pre=>?_;repeat' first|exact zQ|with_reducible apply zJ<;>intro _|refine zK ?_
 refine bW s [(3,30)] [] (fun j τ _=>τ 4=I j/\τ 3= .int .u32 ((s.take j).foldl iT 4294967295:Nat)) pre sG (fun j x τ β hx hj hw hi=>?_) fun τ β hn hi=>?_
 ·obtain⟨hi,h2⟩:=hi;have hl:=vO (s.take j) (n:=4294967295) oM;have hs:=Np x hl;have qF:=EU (n:=4294967295) hx;have lA:=Pf x hl;generalize(s.take j).foldl iT 4294967295=m at *;repeat' first|exact zQ|with_reducible apply zJ<;>intro _|refine zK ?_
  refine iS [(3,3),(5,5),(19,30)] [] 8 (fun k τ _=>τ 5=I k/\τ 3= .int .u32 (Nat.repeat gz k (m ^^^ x.toNat):Nat)) (by simp[go_sem,hs,Nat.repeat]) (fun k τ' β' hk fU=>?_) fun τ' β' fU=>?_
  ·obtain⟨fU,h3⟩:=fU;have hr:=IB lA k;have bz:=PQ hr;have bR:(k:Int)<8:=oM;have hZ:IntKind.i64.wrap ((k:Int)+1)=((k+1:Nat):Int):=aE oM;have bw:Nat.repeat gz (k+1) (m ^^^ x.toNat)=gz (Nat.repeat gz k (m ^^^ x.toNat)):=rfl;generalize Nat.repeat gz k (m ^^^ x.toNat)=q at *;generalize Nat.repeat gz (k+1) (m ^^^ x.toNat)=q1 at *;have qb:((q:Int).tmod 2)=((q % 2:Nat):Int):=by rw[Int.tmod_eq_emod_of_nonneg oM];rfl
   have eO:du .xor .u32 ((q / 2:Nat):Int) 3988292384=((q / 2 ^^^ 3988292384:Nat):Int):=vp .u32 rfl (by simp[IntKind.bits];omega) (by simp[IntKind.bits]);by_cases hq:q % 2=1
   ·have qE:q1=q / 2 ^^^ 3988292384:=by rw[bw,gz,if_pos hq]
    rw[hq]at qb;have sq:((1:Nat):Int)=1:=rfl;clear bw;repeat' first|exact zQ|with_reducible apply zJ<;>intro _|refine zK ?_
   ·have qE:q1=q / 2:=by rw[bw,gz,if_neg hq]
    rw[show q % 2=0 by omega]at qb;have sq:¬((0:Nat):Int)=1:=by decide
    clear bw;repeat' first|exact zQ|with_reducible apply zJ<;>intro _|refine zK ?_
  ·obtain⟨fU,h3⟩:=fU;have fU:τ' 5=I 8:=fU;have h8:¬((8:Nat):Int)<8:=by decide
   repeat' first|exact zQ|with_reducible apply zJ<;>intro _|refine zK ?_
 ·obtain⟨hi,h2⟩:=hi;have ho:=vp .u32 rfl (a:=s.foldl iT 4294967295) (b:=4294967295) (by have:=vO s (n:=4294967295) oM;simpa[IntKind.bits]using this) (by simp[IntKind.bits]);rw[tL]at h2;have tV:du .xor .u32 ((s.foldl iT 4294967295:Nat):Int) 4294967295=(pU s:Int):=ho;clear ho;repeat' first|exact zQ|with_reducible apply zJ<;>intro _|refine zK ?_
@[go_sem] def ag0(lo:Nat)(T:TypeId->TI)(dst:Option Tmp)(bx:ae)(x y:D):qJ lo T 71 3 dst bx x y=vt lo T (T 71) (T 3) dst bx x y:=KZ lo T _ _ x y (by decide)
def ad3{bx:ae}{lo:Nat}{e esz b d m:Nat}{z:D}{x:D}{xs:List D}{K2:D×ae->Prop}(ts:List Nat)(hx:aS bx ts e esz x xs)
 (hk:∀x' β,aS β ts e esz x' (xs++List.replicate m z)->K2 (x',bc (h_ ts) β bx)) (h1:(xs.length+m) * b<=140737488355328)
 (hd:d∈ts:=by decide) (h2:0<esz:=by omega) (h3:0<b:=by omega) (bH:∀t,t∈ts->lo<=t:=by simp):
 aM (uI lo d e esz b bx x (List.replicate m z)) K2:=by
 by_cases hm:m=0
 ·subst hm;have:=hk x bx (by simpa using hx);rw[<-di.mix di.refl]at this;rcases hx with⟨rfl,rfl⟩|⟨t,e',ht,rfl,hb⟩<;>simpa[uI,nV]using this
 ·have bw:List.replicate m z≠[]:=by simp[hm]
  have key:uI lo d e esz b bx x (List.replicate m z)=ph lo d e esz b bx x (List.replicate m z):=by rcases hx with⟨rfl,rfl⟩|⟨t,e',ht,rfl,hb⟩<;>simp[uI,hm]
  have h:=eJ (bx:=bx) (lo:=lo) (T:=fun _=>⟨.none,0,false,List.replicate esz .undef⟩) (e:=e) (esz:=esz) (b:=b) (size:=1) (d:=d) (ag:=false) (ag':=false) (z:=[]) (K2:=K2) hx bw sI (by simpa using h1) h2 h3 bH fun e' bx' hb hf=>by
   have:=hk (.bp d e' esz 0 (xs++List.replicate m z).length) bx' (aS.mk hd hb);rwa[<-di.mix]at this;intro s hs;have hs:s∉ts:=fun h=>by rw[Kp.2 h]at hs;cases hs
   exact hf s (fun h=>hs (h▸hd)) hs
  rw[key];simpa[fN,hm]using h
def Vk(k j n:Nat)(h:j<k):(aB (List.replicate (k - j) 0++be j n)).set (k - 1 - j) (.int .u8 ((UInt8.ofNat (n / 256 ^ j)).toNat:Int))=aB (List.replicate (k - (j+1)) 0++be (j+1) n):=by
 have e:(.int .u8 ((UInt8.ofNat (n / 256 ^ j)).toNat:Int):D)=(fun b:UInt8=>D.int .u8 (b.toNat:Int)) (UInt8.ofNat (n / 256 ^ j)):=rfl;unfold aB;rw[e,<-List.map_set]
 congr 1
 rw[List.set_append_left _ _ (by simp;omega),show k - j=(k - (j+1))+1 by omega,List.replicate_succ',List.set_append_right _ _ (by simp;omega)];simp[be,show k - 1 - j - (k - (j+1))=0 by omega]
def ta(B k n:Nat)(kN:0<k)(hk:k<=8)(hn:n<18446744073709551616)(bx:ae):bj prog 165 B [.int .u64 n,I k] bx (fun d bx'=>∃e,d= .bp (B+8) e 1 0 k/\bx' (B+8)=⟨e,1,1,5,aB (be k n)⟩/\∀q,q<B->bx' q=bx q) (fun _ _=>False):=by
 refine aK (fn:=f165) (tab:=[]) (base:=B) mixed ?_ rfl ak rfl;refine aL _ [.tmp 4] 24 rfl rfl rfl ak ?_;have c1:(0:Int)<=k:=oM;have c2:(k:Int)<=k:=oM;have c3:(k:Int) * ((1:Nat):Int)<=140737488355328:=oM;repeat' first|exact zQ|with_reducible apply zJ<;>intro _|refine zK ?_
 have hL:(List.replicate k (D.int .u8 0)).length=k:=by simp
 refine yt 0 (fun j=>k - j) [(0,0),(6,6),(11,22)] (fun j τ β=>j<=k/\τ 6=I ((k:Int) - 1 - (j:Int))/\τ 0= .int .u64 ((n / 256 ^ j:Nat):Int)/\β=aj bx (B+8) ⟨(bx (B+8)).ep+1,1,1,5,aB (List.replicate (k - j) 0++be j n)⟩) ?_ ?_
 ·refine⟨by omega,by simp[go_sem],by simp[go_sem],by simp[be,aB]⟩
 ·rintro j τ β ⟨hj,h6,h0,rfl⟩;by_cases hjk:j<k
  ·have d1:(0:Int)<=(k:Int) - 1 - j:=oM;have d2:(k:Int) - 1 - j<k:=oM;have d3:((k:Int) - 1 - (j:Int)).toNat=k - 1 - j:=oM;have hs:=Vk k j n hjk;have hlen:(aB (List.replicate (k - j) 0++be j n)).length=k:=by simp[aB,dz];omega
   obtain⟨o,ho⟩:∃o:UInt8,(aB (List.replicate (k - j) 0++be j n))[k - 1 - j]? =some (.int .u8 (o.toNat:Int)):=by
    have:k - 1 - j<(List.replicate (k - j) (0:UInt8)++be j n).length:=by simp[dz];omega
    exact⟨_,Rr (gE this)⟩
   have m1:((n / 256 ^ j:Nat):Int).tmod 256=((n / 256 ^ j % 256:Nat):Int):=by rw[Int.tmod_eq_emod_of_nonneg (Int.natCast_nonneg _)];rfl
   have m2:IntKind.u8.wrap ((n / 256 ^ j % 256:Nat):Int)=((UInt8.ofNat (n / 256 ^ j)).toNat:Int):=by rw[cU rfl (by simp[IntKind.bits];omega)];simp
   have m3:IntKind.u64.wrap (((n / 256 ^ j:Nat):Int).tdiv 256)=((n / 256 ^ (j+1):Nat):Int):=by
    have hq:n / 256 ^ j<=n:=Nat.div_le_self _ _;rw[Int.tdiv_eq_ediv_of_nonneg (Int.natCast_nonneg _),show((n / 256 ^ j:Nat):Int) / 256=((n / 256 ^ j / 256:Nat):Int) by rfl,cU rfl (by simp[IntKind.bits];omega),Nat.div_div_eq_div_mul,Nat.pow_succ]
   generalize aB (List.replicate (k - j) 0++be j n)=ES at *;repeat' first|exact zQ|with_reducible apply zJ<;>intro _|refine zK ?_
   exact⟨j+1,by omega,by omega,congrArg I oM,rfl,by funext q;simp only[aj];split<;>rfl⟩
  ·obtain rfl:j=k:=oM;have d1:¬(0:Int)<=(j:Int) - 1 - j:=oM;repeat' first|exact zQ|with_reducible apply zJ<;>intro _|refine zK ?_
   exact⟨_,rfl,by simp,fun q h=>if_neg oM⟩
theorem aS.elems{bx:ae}{ts:List Nat}{el esz:Nat}{x:D}{xs:List D}(h:aS bx ts el esz x xs):gT bx esz x=some xs:=by
 rcases h with⟨rfl,rfl⟩|⟨t,e,_,rfl,hb⟩
 ·rfl
 ·simp[gT,hb,lv]
def ciV{tab:List (Nat×List (Nat×Nat))}{base bk lo:Nat}{yl:Option (List (List D)×Nat×Nat)}{pn df:Bool}{bx:ae}{f:Nat}{K2:Cl->D->ae->Prop}{pre:Prop}{d:D}{ts:List Nat}{el:Nat}{x:D}{xs:List D}(hx:aS bx ts el 1 x xs)[h:Ct f [.sl 1 xs] pre d](h1:pre)(hp:D.aF xs=true)(hk:K2 .ra d bx)
 (hb:d.bare=true:=by first|rfl|(simp[go_sem];done)|fail):fD ⟨cJ prog,tab,base,bk,lo,yl,pn,df⟩ f [x] bx K2:=by
 obtain⟨r,ho,hw⟩:=hx.out hp;refine pA (ds':=[r]) (ao.uy (h.h h1) rfl fun i y y' hy oB=>?_) (by simp[cY,ho,lD]) hb hk;cases i<;>simp at hy oB;subst hy;subst oB;exact hw
def F_(b e:Bool):UInt8:=(if b then 1 else 0)+(if e then 2 else 0)
instance(g k:Nat)(b e:Bool)(p:ah):Ct 104 [.int .u64 g,I k,.bool b,.bool e,aT p] (p.length<=112/\k<65536/\g<18446744073709551616) (aT (dw g k (F_ b e) p)):=by
 refine bf f104 [] [.tmp 10] fun pre=>?_;obtain⟨hp,hk,hg⟩:=pre;have w1:IntKind.u64.wrap (k:Int)=k:=cU rfl (by simp[IntKind.bits];omega);have w2:IntKind.u8.wrap (p.length:Int)=((UInt8.ofNat p.length).toNat:Int):=by rw[cU rfl (by simp[IntKind.bits];omega)];simp;omega
 have w3:IntKind.u8.wrap (0+1)=1:=rfl;have w4:IntKind.u8.wrap (0+2)=2:=rfl;have w5:IntKind.u8.wrap (1+2)=3:=rfl;obtain⟨K,hK⟩:∃K:UInt8,F_ b e=K:=⟨_,rfl⟩
 rw[hK];have l1:(body k K p).length=116:=tF hp;have e0:aB (be 2 k)++aB [K,UInt8.ofNat p.length]++aB p++List.replicate (112 - p.length) (D.int .u8 0)=aB (body k K p):=by
  rw[show List.replicate (112 - p.length) (D.int .u8 0)=aB (List.replicate (112 - p.length) 0) by simp[aB],<-eD,<-eD,<-eD];simp[body]
 have e1:aB (be 4 g)++aB (be 4 (pU (body k K p)))++aB (body k K p)++aB (be 4 g)=aB (dw g k K p):=by
  rw[<-eD,<-eD,<-eD];simp[dw]
 have hc:=GI (body k K p);have hcw:IntKind.u64.wrap (pU (body k K p):Int)=pU (body k K p):=cU rfl (by simp[IntKind.bits];omega);have hbp:Lm (body k K p):=by simp[Lm,l1]
 have hr:((112:Int) - p.length).toNat=112 - p.length:=oM;have oz:(0:Int)<=112 - p.length:=oM;generalize body k K p=bd at *;generalize dw g k K p=sc at *;cases b<;>cases e;all_goals
  repeat' first|exact zQ|with_reducible apply zJ<;>intro _|refine zK ?_
  refine aC (ta 200 2 k oM oM oM _) rfl fun d bx1 hq=>?_;obtain⟨yB,rfl,uO,iL⟩:=hq;have hv:aS bx1 [208,28,31,36] 5 1 (.bp 208 yB 1 0 2) (aB (be 2 k)):=.inr ⟨208,yB,by simp,by simp[aB,dz],uO⟩;clear uO iL;repeat' first|exact zQ|with_reducible apply zJ<;>intro _|refine zK ?_
  refine app [208,28,31,36] hv (fun x1 B1 im=>?_) (by simp[aB,dz]);replace im:aS B1 [208,28,31,36] 5 1 x1 (aB (be 2 k)++aB [K,UInt8.ofNat p.length]):=by rw[<-hK];exact im
  have pC:=im.facts;replace im:=im.mix (bx:=bx1) (h_ [208,28,31,36]);repeat' first|exact zQ|with_reducible apply zJ<;>intro _|refine zK ?_
  refine app [208,28,31,36] im (fun x2 B2 eN=>?_) (by simp[aB,dz];omega);have J8:=eN.facts;replace eN:=eN.mix (bx:=bx1) (h_ [208,28,31,36]);clear hv im;repeat' first|exact zQ|with_reducible apply zJ<;>intro _|refine zK ?_
  refine ad3 [208,28,31,36] eN (fun x3 B3 qg=>?_) (by simp[aB,dz];omega);rw[e0]at qg;have Sm:=qg.facts;replace qg:=qg.mix (bx:=bx1) (h_ [208,28,31,36]);clear eN pC J8;repeat' first|exact zQ|with_reducible apply zJ<;>intro _|refine zK ?_
  refine aC (ta 300 4 g oM oM oM _) rfl fun d bK hq=>?_;obtain⟨e2',rfl,qC,bR⟩:=hq;replace qg:=qg.of (bx':=bK) (fun t ht=>(bR t (by simp at ht;omega)).trans (by simp only[h_,mC,List.map_nil,Fq]));have SG:aS bK [308,43,46,49] 5 1 (.bp 308 e2' 1 0 4) (aB (be 4 g)):=.inr ⟨308,e2',by simp,by simp[aB,dz],qC⟩;clear qC bR;repeat' first|exact zQ|with_reducible apply zJ<;>intro _|refine zK ?_
  refine ciV qg hbp (lX _) ?_;repeat' first|exact zQ|with_reducible apply zJ<;>intro _|refine zK ?_
  refine aC (ta 400 4 (pU bd) oM oM oM _) rfl fun d uK hq=>?_;obtain⟨e3',rfl,E2,rJ⟩:=hq;replace qg:=qg.of (bx':=uK) (fun t ht=>rJ t (by simp at ht;omega));replace SG:=SG.of (bx':=uK) (fun t ht=>rJ t (by simp at ht;omega));have hl4:(aB (be 4 (pU bd))).length=4:=by simp[aB,dz]
  have ht4:(aB (be 4 (pU bd))).take 4=aB (be 4 (pU bd)):=List.take_of_length_le oM;clear rJ;repeat' first|exact zQ|with_reducible apply zJ<;>intro _|refine zK ?_
  refine app [308,43,46,49] SG (fun x4 B4 Oi=>?_) (by simp[aB,dz]);have hf4:=Oi.facts;replace Oi:=Oi.mix (bx:=uK) (h_ [308,43,46,49]);replace qg:=qg.of (bx':=bc (h_ [308,43,46,49]) B4 uK) (fun t ht=>by simp at ht;rcases ht with rfl|rfl|rfl|rfl<;>rfl);have er:=aS.elems qg;simp only[h_,mC,List.map_nil]at er;clear SG;repeat' first|exact zQ|with_reducible apply zJ<;>intro _|refine zK ?_
  refine app [308,43,46,49] Oi (fun x5 B5 Fe=>?_) (by simp[aB,dz];omega);have hf5:=Fe.facts;replace Fe:=Fe.mix (bx:=uK) (h_ [308,43,46,49]);clear Oi qg er;repeat' first|exact zQ|with_reducible apply zJ<;>intro _|refine zK ?_
  refine aC (ta 500 4 g oM oM oM _) rfl fun d bx4 hq=>?_;obtain⟨e4',rfl,hb4,hk4⟩:=hq;replace Fe:=Fe.of (bx':=bx4) (fun t ht=>(hk4 t (by simp at ht;omega)).trans (by simp only[h_,mC,List.map_nil,Fq]));have hl5:(aB (be 4 g)).length=4:=by simp[aB,dz]
  have ht5:(aB (be 4 g)).take 4=aB (be 4 g):=List.take_of_length_le oM;clear hk4;repeat' first|exact zQ|with_reducible apply zJ<;>intro _|refine zK ?_
  refine app [308,43,46,49] Fe (fun x6 B6 Kg=>?_) (by simp[aB,dz];omega);rw[e1]at Kg;have hf6:=Kg.facts;replace Kg:=Kg.mix (bx:=bx4) (h_ [308,43,46,49]);clear Fe;repeat' first|exact zQ|with_reducible apply zJ<;>intro _|refine zK ?_
  exact vI Kg rfl (lX _)
def Ph(s:ah)(n:Nat):Bool:=((s.drop (12+n)).take (112 - n)).all fun c=>decide (c=0)
def Qo{s:ah}{k:Nat}(hs:s.length=128)(hk:k<65536):gH s k=(decide (0<num (s.take 4))&&decide (num (s.take 4)=num (s.drop 124))&&decide (num ((s.drop 4).take 4)=pU ((s.drop 8).take 116))&&decide (num ((s.drop 8).take 2)=k)&&
 decide ((s.getD 10 0).toNat<=3)&&decide ((s.getD 11 0).toNat<=112)&&(decide (2<=(s.getD 10 0).toNat)||decide ((s.getD 11 0).toNat=112))&&(decide ((s.getD 10 0).toNat % 2=1)||decide ((s.getD 11 0).toNat≠0))&&Ph s (s.getD 11 0).toNat):=by
 have hz:Ph s (s.getD 11 0).toNat=((s.drop (12+bT s)).take (112 - bT s)==List.replicate (112 - bT s) 0||decide (112<bT s)):=by
  have hlen:((s.drop (12+bT s)).take (112 - bT s)).length=112 - bT s:=by simp;omega
  rw[Bool.eq_iff_iff];simp only[Ph,List.all_eq_true,decide_eq_true_eq,Bool.or_eq_true,beq_iff_eq];constructor
  ·intro h;exact .inl (List.eq_replicate_iff.2 ⟨hlen,h⟩)
  ·rintro(h|h)
   ·intro x hx;have hx:x∈(s.drop (12+bT s)).take (112 - bT s):=hx;rw[h]at hx;exact(List.mem_replicate.1 hx).2
   ·intro x hx;have hx:x∈(s.drop (12+bT s)).take (112 - bT s):=hx;rw[show 112 - bT s=0 by omega]at hx;simp at hx
 rw[hz];unfold gH;cases hf:sP s with
 |true=>
  rw[Qn hs hf hk];simp only[sP,bA,Bool.or_eq_true,decide_eq_true_eq,sF,bT,gen]at hf;rw[Bool.eq_iff_iff];simp only[bA,Bool.or_eq_true,decide_eq_true_eq,beq_iff_eq,Bool.true_and,gen,bT]
  grind
 |false=>
  rw[Bool.false_and]
  symm
  rw[Bool.eq_false_iff];intro h;rw[Bool.eq_false_iff]at hf;apply hf;simp only[sP,bA,Bool.or_eq_true,decide_eq_true_eq,sF,bT,gen]at h⊢
  grind
instance(s:ah)(k:Nat):Ct 158 [aT s,I k] (s.length=128/\k<65536) (.bool (gH s k)):=by
 refine bf f158 [] [.tmp 4] fun pre=>?_;obtain⟨hs,hk⟩:=pre;rw[Qo hs hk];have iU:=getD_some (s:=s) (j:=10) oM;have sq:=getD_some (s:=s) (j:=11) oM;have hx:=(s.getD 11 0).toNat_lt;have hy:=(s.getD 10 0).toNat_lt;have hw:IntKind.i64.wrap ((s.getD 11 0).toNat:Int)=((s.getD 11 0).toNat:Int):=gp _ oM oM;have qb:(((s.getD 10 0).toNat:Int).tmod 2)=(((s.getD 10 0).toNat % 2:Nat):Int):=by rw[Int.tmod_eq_emod_of_nonneg oM];rfl
 have He:(s.drop 124).take 4=s.drop 124:=List.take_of_length_le (by simp;omega);have kw:IntKind.u64.wrap (k:Int)=k:=cU rfl (by simp[IntKind.bits];omega);have n3:num ((s.drop 4).take 4)<4294967296:=by
  have:=my ((s.drop 4).take 4);rw[show((s.drop 4).take 4).length=4 by simp;omega]at this;simpa using this
 have nw:IntKind.u32.wrap (num ((s.drop 4).take 4):Int)=num ((s.drop 4).take 4):=cU rfl (by simpa[IntKind.bits]using n3);have l1:(s.take 4).length<=8:=by simp;omega
 have l2:(s.drop 124).length<=8:=by simp;omega
 have l3:((s.drop 4).take 4).length<=8:=by simp;omega
 have l4:((s.drop 8).take 2).length<=8:=by simp;omega
 have l5:Lm ((s.drop 8).take 116):=by simp[Lm];omega
 generalize hA:Ph s (s.getD 11 0).toNat=A;unfold Ph at hA;generalize s.getD 10 0=a at *;generalize s.getD 11 0=b at *;generalize hR:(decide (0<num (s.take 4))&&decide (num (s.take 4)=num (s.drop 124))&&decide (num ((s.drop 4).take 4)=pU ((s.drop 8).take 116))&&decide (num ((s.drop 8).take 2)=k)&&decide (a.toNat<=3)&&decide (b.toNat<=112)&&(decide (2<=a.toNat)||decide (b.toNat=112))&&(decide (a.toNat % 2=1)||decide (b.toNat≠0))&&A)=R;replace hR:Hid _:=hR;replace hA:Hid _:=hA;clear n3;repeat' first|exact zQ|with_reducible apply zJ<;>intro _|refine zK ?_
 all_goals first|(rw[<-hR.out];refine ab (congrArg D.bool ?_);rw[Bool.eq_iff_iff];simp[*];omega)|skip
 all_goals
  have hb:b.toNat<=112:=oM;have hRA:R=A:=by
   rw[<-hR.out];have:∀P:Bool,P=true->(P&&A)=A:=fun P h=>by rw[h];rfl
   refine this _ ?_;simp only[bA,Bool.or_eq_true,decide_eq_true_eq];omega
  subst hRA;clear hR kw nw He l1 l2 l3 l4 l5 iU sq qb;have lO:((s.drop (12+b.toNat)).take (112 - b.toNat)).length=112 - b.toNat:=by simp;omega
  refine fresh (fun σ' _=>σ' 0=aT s/\σ' 6=I (12+b.toNat)) ⟨by simp[go_sem],by simp[go_sem];try omega⟩ ?_;rintro σ B ⟨k0,k6⟩;refine bW ((s.drop (12+b.toNat)).take (112 - b.toNat)) [(4,4),(6,6),(75,83)] [] (fun j τ _=>τ 6=I ((12+b.toNat+j:Nat):Int)/\(((s.drop (12+b.toNat)).take (112 - b.toNat)).take j).all (fun c=>decide (c=0))=true) (by simp[Lm];omega) ⟨by rw[k6];exact congrArg I oM,by simp⟩ (fun j x τ β hx hj hZ hi=>?_) fun τ β hn hi=>?_
  ·obtain⟨h6,eH⟩:=hi;rw[lO]at hj;have sx:s[12+b.toNat+j]? =some x:=by rw[List.getElem?_take_of_lt oM,List.getElem?_drop]at hx;exact hx
   have c1:((12+b.toNat+j:Nat):Int)<124:=oM;have c2:IntKind.i64.wrap (((12+b.toNat+j:Nat):Int)+1)=((12+b.toNat+(j+1):Nat):Int):=by rw[gp _ oM oM];omega
   by_cases AZ:x=0
   ·have c3:(x.toNat:Int)=0:=by rw[AZ];rfl
    have hall2:(((s.drop (12+b.toNat)).take (112 - b.toNat)).take (j+1)).all (fun c=>decide (c=0))=true:=by rw[List.take_add_one,hx,List.all_append,eH];simp[AZ]
    clear hx eH lO AZ;repeat' first|exact zQ|with_reducible apply zJ<;>intro _|refine zK ?_
    all_goals rfl
   ·have c3:¬(x.toNat:Int)=0:=fun h=>AZ (UInt8.toNat_inj.1 (by rw[show(0:UInt8).toNat=0 from rfl];omega));have hR0:R=false:=by
     rw[<-hA.out,List.all_eq_false];exact⟨x,mG hx,by simp[AZ]⟩
    clear hx eH lO AZ hA;repeat' first|exact zQ|with_reducible apply zJ<;>intro _|refine zK ?_
  ·obtain⟨h6,eH⟩:=hi;rw[tL]at eH;have EZ:R=true:=by rw[<-hA.out];exact eH
   have c1:¬((12+b.toNat+((s.drop (12+b.toNat)).take (112 - b.toNat)).length:Nat):Int)<124:=oM;clear eH hA lO;repeat' first|exact zQ|with_reducible apply zJ<;>intro _|refine zK ?_
instance(n:Nat):Ct 88 [I n] (n<=140737488355328) (I ((max 1 ((n+111) / 112):Nat):Int)):=by
 refine bf f88 [] [.tmp 2] fun pre=>?_;have h:((n:Int)+112 - 1).tdiv 112=(((n+111) / 112:Nat):Int):=by rw[Int.tdiv_eq_ediv_of_nonneg oM];omega
 repeat' first|exact zQ|with_reducible apply zJ<;>intro _|refine zK ?_
 exact ab (congrArg I oM)
instance(l:List ah):Ct 89 [.sl 1 (l.map aT)] (pK l) (I (aV l)):=by
 refine bf f89 [] [.tmp 2] fun pre=>?_;have hl:=lr l;repeat' first|exact zQ|with_reducible apply zJ<;>intro _|refine zK ?_
 refine bW l [(3,18)] [] (fun j τ _=>τ 4=I j/\τ 3=I (aV (l.take j))) (by simp[Lm];omega) (by simp[go_sem,aV]) (fun j x τ β hx hj hw hi=>?_) fun τ β hn hi=>?_
 ·obtain⟨h7,h2⟩:=hi;have h3:=xJ (mG hx);have h4:=vk hx;have h5:=nP l (j+1);have h6:x.length<=140737488355328:=oM;have h8:IntKind.i64.wrap ((aV (l.take j):Int)+((max 1 ((x.length+111) / 112):Nat):Int))=(aV (l.take (j+1)):Int):=by unfold bm at h4;rw[gp _ oM oM];omega
  clear h4 h5;repeat' first|exact zQ|with_reducible apply zJ<;>intro _|refine zK ?_
 ·obtain⟨h7,h2⟩:=hi;rw[tL]at h2;repeat' first|exact zQ|with_reducible apply zJ<;>intro _|refine zK ?_
instance agn(j:gy):Ct 53 [j.d] (pK j.bJ) (I (if ko j then 0 else 1)):=by
 refine bf f53 [(1,[(4,2)])] [.tmp 2] fun pre=>?_;unfold ko;repeat' first|exact zQ|with_reducible apply zJ<;>intro _|refine zK ?_
 all_goals (refine ab (congrArg I ?_);first|(rw[if_neg (by simp[*];try omega)];done)|(rw[if_pos (by simp[*];try omega)];done)|trace_state)
instance(a b:List ah):Ct 55 [.sl 1 (a.map aT),.sl 1 (b.map aT)] (Lm a/\Lm b) (.bool (decide (a=b))):=by
 refine bf f55 [] [.tmp 4] fun pre=>?_;obtain⟨h1,h2⟩:=pre;by_cases hl:a.length=b.length
 rotate_left
 ·have hc:¬(a.length:Int)=b.length:=oM;have he:decide (a=b)=false:=decide_eq_false fun h=>hl (by rw[h]);rw[he];repeat' first|exact zQ|with_reducible apply zJ<;>intro _|refine zK ?_
 rw[DZ a b hl];have hz:(a.zip b).length=a.length:=by simp;omega
 generalize hA:List.all _ _=A;have hc:(a.length:Int)=b.length:=oM;clear hl;repeat' first|exact zQ|with_reducible apply zJ<;>intro _|refine zK ?_
 refine gR (a.zip b) hA 5 [(4,5),(11,27)] [] (by simp[Lm];omega) sG (fun j x τ β hx hj hw hi aQ=>?_) fun τ β hn hi ha=>?_
 ·rw[List.getElem?_zip_eq_some]at hx;obtain⟨y5,eO⟩:=hx;rw[hz,hc]at hj;clear hA hz;repeat' first|exact zQ|with_reducible apply zJ<;>intro _|refine zK ?_
  all_goals first|with_reducible exact .refl _|(refine ab ?_;have aQ:=aQ.out zz;simp[*];done)|((try refine ab ?_);exact zz)
 ·rw[hz,hc]at hn hi;repeat' first|exact zQ|with_reducible apply zJ<;>intro _|refine zK ?_
  all_goals first|with_reducible exact .refl _|(refine ab ?_;have aQ:=aQ.out zz;simp[*];done)|((try refine ab ?_);exact zz)
def u7{bx:ae}{ts:List Nat}{el esz:Nat}{x:D}{xs:List D}(h:aS bx ts el esz x xs)(hp:D.aF xs=true):∃r,bN r (.sl esz xs)/\∀bx':ae,(∀t,t∈ts->bx' t=bx t)->bD bx' x=some r:=by
 rcases h with⟨rfl,rfl⟩|⟨t,e,ht,rfl,hb⟩
 ·exact⟨.aq,.nil _,fun _ _=>xi⟩
 ·refine⟨.sl esz xs,.refl _,fun bx' eo=>?_⟩;rw[ma,eo t ht,hb];exact ej _ _ _ _ _ _ (by decide) rfl hp
def vA(l:List ah):Nat:=l.foldl (fun g s=>max g (max (num (s.take 4)) (num (s.drop 124)))) 0
def NJ{l:List ah}{j:Nat}{x:ah}(h:l[j]? =some x):vA (l.take (j+1))=max (vA (l.take j)) (max (num (x.take 4)) (num (x.drop 124))):=by rw[List.take_add_one,h];simp[vA,List.foldl_append]
instance(l:List ah):Ct 102 [.sl 1 (l.map aT)] (A6 l) (.int .u64 (cB l)):=by
 refine bf f102 [(5,[(8,4)])] [.tmp 2] fun pre=>?_;obtain⟨hl,hs⟩:=pre;have hg:=G0 l hs;have hgn:cB l=vA l+1:=rfl;rw[hgn]at hg⊢;repeat' first|exact zQ|with_reducible apply zJ<;>intro _|refine zK ?_
 refine bW l [(3,24)] [] (fun i τ _=>τ 4=I i/\τ 3= .int .u64 (vA (l.take i))) (by simp[Lm];omega) ⟨by simp[go_sem],by simp[go_sem,vA]⟩ (fun i x τ β hx hj hw hi=>?_) fun τ β hn hi=>?_
 ·obtain⟨NN,iU⟩:=hi;have Hn:=NJ hx;have lA:=hs x (mG hx);have He:(x.drop 124).take 4=x.drop 124:=List.take_of_length_le (by simp;omega);have l1:(x.take 4).length<=8:=by simp;omega
  have l2:(x.drop 124).length<=8:=by simp;omega
  clear hs hg;repeat' first|exact zQ|with_reducible apply zJ<;>intro _|refine zK ?_
  exact congrArg (D.int .u64) oM
 ·obtain⟨NN,iU⟩:=hi;rw[tL]at iU;have w:IntKind.u64.wrap ((vA l:Int)+1)=((vA l+1:Nat):Int):=by rw[show(vA l:Int)+1=((vA l+1:Nat):Int) by simp,cU rfl (by simp[IntKind.bits];omega)]
  repeat' first|exact zQ|with_reducible apply zJ<;>intro _|refine zK ?_
instance agA(d:bV):Ct 54 [d.d] (okD d) (I (if cO d then 0 else 40)):=by
 refine bf f54 [] [.tmp 2] fun pre=>?_;obtain⟨h1,h2⟩:=pre;unfold cO;generalize hA:(d.br.all (oD d.a_.length))=A;generalize hB:(d.a_.all fun b=>decide (b.length=128))=B;by_cases hc:1<=d.a_.length/\d.a_.length<=4096/\d.br.length<=4096/\ -1<=d.left/\d.left<=65536
 rotate_left
 ·rw[show(I (if(decide (1<=d.a_.length)&&decide (d.a_.length<=4096)&&decide (d.br.length<=4096)&&decide (-1<=d.left)&&decide (d.left<=65536)&&A&&B)=true then 0 else 40))=I 40 by congr 1;rw[if_neg (by simp;intros;omega)]];by_cases c1:(d.a_.length:Int)<1
  ·repeat' first|exact zQ|with_reducible apply zJ<;>intro _|refine zK ?_
  by_cases c2:(4096:Int)<d.a_.length
  ·repeat' first|exact zQ|with_reducible apply zJ<;>intro _|refine zK ?_
  by_cases c3:(4096:Int)<d.br.length
  ·repeat' first|exact zQ|with_reducible apply zJ<;>intro _|refine zK ?_
  by_cases c4:d.left< -1
  ·repeat' first|exact zQ|with_reducible apply zJ<;>intro _|refine zK ?_
  have c5:65536<d.left:=oM;repeat' first|exact zQ|with_reducible apply zJ<;>intro _|refine zK ?_
 obtain⟨g1,g2,g3,g4,g5⟩:=hc;rw[show(I (if(decide (1<=d.a_.length)&&decide (d.a_.length<=4096)&&decide (d.br.length<=4096)&&decide (-1<=d.left)&&decide (d.left<=65536)&&A&&B)=true then 0 else 40))=I (if B then(if A then 0 else 40)else 40) by congr 1;cases A<;>cases B<;>simp[*]];have c1:¬(d.a_.length:Int)<1:=oM;have c2:¬(4096:Int)<d.a_.length:=oM;have c3:¬(4096:Int)<d.br.length:=oM;have c4:¬d.left< -1:=oM;have c5:¬65536<d.left:=oM;repeat' first|exact zQ|with_reducible apply zJ<;>intro _|refine zK ?_
 refine gR d.a_ hB 4 [(2,2),(4,4),(32,43)] [] (by simp[Lm];omega) sG (fun j x τ β hx hj hw hi aQ=>?_) fun τ β hn hi ha=>?_
 ·clear hB hA;repeat' first|exact zQ|with_reducible apply zJ<;>intro _|refine zK ?_
  ·simp;omega
  ·rw[aQ.out (by simp;omega),if_neg sI];exact wk
 ·subst ha;rw[if_pos rfl];clear hB;repeat' first|exact zQ|with_reducible apply zJ<;>intro _|refine zK ?_
  refine gR d.br hA 5 [(2,2),(5,6),(44,70)] [(6,6)] (by simp[Lm];omega) sG (fun j x τ' β' hx hj hw fU aQ=>?_) fun τ' β' hn fU ha=>?_
  ·clear hA;have W6:oD d.a_.length x=(decide (0<=x.at_)&&decide (x.at_<d.a_.length)&&decide (x.data.length=128)):=rfl;rw[W6]at aQ;rw[W6];clear W6;repeat' first|exact zQ|with_reducible apply zJ<;>intro _|refine zK ?_
   all_goals first|(rw[aQ.out (by simp;omega),if_neg sI];exact wk)|(simp;omega)|trace_state
  ·subst ha;repeat' first|exact zQ|with_reducible apply zJ<;>intro _|refine zK ?_
   all_goals first|exact wk|trace_state
instance(d:bV)(n:Int):Ct 63 [d.d,I n] (okD d) (.aI [(mZ d n).1.d,I (mZ d n).2]):=by
 refine bf f63 [] [.cell 4 39,.tmp 5] fun pre=>?_;unfold mZ j9;cases h1:cO d
 ·repeat' first|exact zQ|with_reducible apply zJ<;>intro _|refine zK ?_
  all_goals exact wk
 repeat' first|exact zQ|with_reducible apply zJ<;>intro _|refine zK ?_
 ·exact wk
 ·rw[if_neg oM];exact wk
 ·rw[if_neg oM];exact wk
 ·rw[if_pos oM];exact wk
instance(d:bV):Ct 64 [d.d] True (kB d).d:=by
 refine bf f64 [] [.cell 2 39] fun pre=>?_;repeat' first|exact zQ|with_reducible apply zJ<;>intro _|refine zK ?_
 exact wk
def Qh{bx:ae}{ts:List Nat}{el esz:Nat}{x:D}{xs:List D}(h:aS bx ts el esz x xs)(q:Nat)(hq:q∉ts):ey bx x q=bx q:=by
 rcases h with⟨rfl,_⟩|⟨t,k,ht,rfl,_⟩
 ·rfl
 ·have:q≠t:=fun e=>hq (e▸ht);simp[ey,aj,this]
def Ig{bx:ae}{ts:List Nat}{el esz:Nat}{x:D}{xs:List D}(h:aS bx ts el esz x xs)(hn:xs≠[])(hp:D.aF xs=true):∀bx':ae,(∀t,t∈ts->bx' t=bx t)->bD bx' x=some (.sl esz xs):=by
 rcases h with⟨rfl,rfl⟩|⟨t,e,ht,rfl,hb⟩
 ·exact absurd rfl hn
 ·intro bx' eo;rw[ma,eo t ht,hb];exact ej _ _ _ _ _ _ (by decide) rfl hp
instance agC(d:bV)(a:Int)(b:ah):Ct 103 [d.d,I a,aT b] (okD d) (.aI [(lU d a b).1.d,I (lU d a b).2]):=by
 refine bf f103 [(1000037,[]),(1000046,[]),(4000010,[(6,51)])] [.cell 6 39,.tmp 7] fun pre=>?_;generalize hR:lU d a b=R;unfold lU j9 hasB at hR;by_cases h1:cO d=true
 rotate_left
 ·rw[if_neg (by simp[h1])]at hR;subst hR;repeat' first|exact zQ|with_reducible apply zJ<;>intro _|refine zK ?_
  exact wk
 rw[h1]at hR;have hp:d.br.length<=4096:=sL h1;replace hR:Hid _:=hR;repeat' first|exact zQ|with_reducible apply zJ<;>intro _|refine zK ?_
 ·rename_i c1;rw[c1]at hR;obtain rfl:=hR.out.symm.trans (if_neg sI);exact wk
 ·rename_i c1 c2;rw[c1]at hR;obtain rfl:=hR.out.symm.trans (if_neg (by simp;omega));exact wk
 ·rename_i c1 c2 c3;rw[c1]at hR;obtain rfl:=hR.out.symm.trans (if_neg (by simp;omega));exact wk
 ·rename_i c1 c2 c3 c4;rw[c1]at hR;have hR:=hR.out;rw[if_pos (by simp;omega),if_neg oM]at hR;subst hR;exact wk
 ·rename_i c1 c2 c3 c4 c5;rw[c1]at hR;have hR:=hR.out;rw[if_pos (by simp;omega),if_pos oM,if_pos oM]at hR;subst hR;exact wk
 rename_i c1 c2 c3 c4 c5;rw[c1]at hR;have hR:=hR.out;rw[if_pos (by simp;omega),if_pos oM,if_neg oM]at hR;subst hR;have v8:aS (aj (aj (aj (fun _=>Bx.none) 3 ⟨1,1,4,39,[d.d]⟩) 6 ⟨1,1,4,39,[D.agg [D.aq,D.aq,D.int .i64 0,D.bool false]]⟩) 37 ⟨1,1,1,5,[]⟩) [37,39,45] 5 1 (.bp 37 1 1 0 0) []:=.inr ⟨37,1,by simp,rfl,by simp[aj]⟩;refine app [37,39,45] v8 (fun x1 B1 im=>?_) (by simp[aB];omega);have pC:=im.facts;repeat' first|exact zQ|with_reducible apply zJ<;>intro _|refine zK ?_
 refine iS [(8,8),(40,45)] (h_ [37,39,45]) (128 - b.length) (fun k τ β=>∃x,τ 8=x/\aS β [37,39,45] 5 1 x (aB (b++List.replicate k 0))) ⟨x1,by simp[go_sem],by simpa using im.mix _⟩ (fun k τ β hk hi=>?_) fun τ β hi=>?_
 ·obtain⟨x,h8,hv⟩:=hi;have hl:=hv.len 5 1 false;have kO:(aB (b++List.replicate k 0)).length=b.length+k:=by simp[aB]
  rw[kO]at hl;have c7:((b.length+k:Nat):Int)<128:=oM;replace hv:=hv.mix (bx:=aj (aj (aj (fun _=>Bx.none) 3 ⟨1,1,4,39,[d.d]⟩) 6 ⟨1,1,4,39,[D.agg [D.aq,D.aq,D.int .i64 0,D.bool false]]⟩) 37 ⟨1,1,1,5,[]⟩) (h_ [37,39,45]);have hf:=hv.facts;repeat' first|exact zQ|with_reducible apply zJ<;>intro _|refine zK ?_
  refine app [37,39,45] hv (fun x' β' aX=>?_) (by simp[aB];omega);repeat' first|exact zQ|with_reducible apply zJ<;>intro _|refine zK ?_
  refine⟨x',rfl,?_⟩;rw[show aB (b++List.replicate (k+1) 0)=aB (b++List.replicate k 0)++[D.int .u8 0] by rw[List.replicate_succ',<-List.append_assoc,eD];rfl];exact aX.mix _
 ·obtain⟨x,h8,hv⟩:=hi;have hl:=hv.len 5 1 false;have kO:(aB (b++List.replicate (128 - b.length) 0)).length=128:=by simp[aB];omega
  rw[kO]at hl;have hf:=hv.facts;have c8:¬((128:Nat):Int)<128:=oM;have Ki:aS (aj (bc [(37,37),(39,39),(45,45)] β (aj (aj (aj (fun _=>Bx.none) 3 ⟨1,1,4,39,[d.d]⟩) 6 ⟨1,1,4,39,[D.agg [D.aq,D.aq,D.int .i64 0,D.bool false]]⟩) 37 ⟨1,1,1,5,[]⟩)) 46 ⟨1,1,2,144,[]⟩) [46,49,54] 144 2 (.bp 46 1 2 0 0) []:=.inr ⟨46,1,by simp,rfl,by simp[aj]⟩;repeat' first|exact zQ|with_reducible apply zJ<;>intro _|refine zK ?_
  refine app [46,49,54] Ki (fun y1 W1 pG=>?_) (by simp;omega);have xW:=pG.facts;replace pG:=pG.mix (bx:=aj (bc [(37,37),(39,39),(45,45)] β (aj (aj (aj (fun _=>Bx.none) 3 ⟨1,1,4,39,[d.d]⟩) 6 ⟨1,1,4,39,[D.agg [D.aq,D.aq,D.int .i64 0,D.bool false]]⟩) 37 ⟨1,1,1,5,[]⟩)) 46 ⟨1,1,2,144,[]⟩) (h_ [46,49,54]);repeat' first|exact zQ|with_reducible apply zJ<;>intro _|refine zK ?_
  change aS β [37,39,45] 5 1 x (aB (mc b))at hv;change (aB (mc b)).length=128 at kO;rw[Ig hv (fun h=>by rw[h]at kO;cases kO) (lX _) _ (fun t ht=>by simp at ht;rcases ht with rfl|rfl|rfl<;>simp[bc,dA,aj])];have hvS:aS (bc [(46,46),(49,49),(54,54)] W1 (aj (bc [(37,37),(39,39),(45,45)] β (aj (aj (aj (fun _=>Bx.none) 3 ⟨1,1,4,39,[d.d]⟩) 6 ⟨1,1,4,39,[D.agg [D.aq,D.aq,D.int .i64 0,D.bool false]]⟩) 37 ⟨1,1,1,5,[]⟩)) 46 ⟨1,1,2,144,[]⟩)) [37,39,45] 5 1 x (aB (mc b)):=hv.of fun t ht=>by simp at ht;rcases ht with rfl|rfl|rfl<;>simp[bc,dA,aj]
  have So:=Qh hvS;have k3:=So 3 sI;have k6:=So 6 sI;have hwF:aS (ey (bc [(46,46),(49,49),(54,54)] W1 (aj (bc [(37,37),(39,39),(45,45)] β (aj (aj (aj (fun _=>Bx.none) 3 ⟨1,1,4,39,[d.d]⟩) 6 ⟨1,1,4,39,[D.agg [D.aq,D.aq,D.int .i64 0,D.bool false]]⟩) 37 ⟨1,1,1,5,[]⟩)) 46 ⟨1,1,2,144,[]⟩)) x) [46,49,54] 144 2 y1 ([]++List.map bE.d d.br):=pG.of fun t ht=>by rw[So t (by simp at ht⊢;omega)];rfl
  simp[bc,dA,aj]at k3 k6;clear So hvS pG Ki hv hl kO;generalize ey (bc [(46,46),(49,49),(54,54)] W1 (aj (bc [(37,37),(39,39),(45,45)] β (aj (aj (aj (fun _=>Bx.none) 3 ⟨1,1,4,39,[d.d]⟩) 6 ⟨1,1,4,39,[D.agg [D.aq,D.aq,D.int .i64 0,D.bool false]]⟩) 37 ⟨1,1,1,5,[]⟩)) 46 ⟨1,1,2,144,[]⟩)) x=F at *;repeat' first|exact zQ|with_reducible apply zJ<;>intro _|refine zK ?_
  refine app [46,49,54] hwF (fun y2 W2 hZ=>?_) (by simp;omega);have hg2:=hZ.facts;repeat' first|exact zQ|with_reducible apply zJ<;>intro _|refine zK ?_
  have WQ:D.aF ([]++List.map bE.d d.br++[D.agg [D.int .i64 a,D.sl 1 (aB (mc b))]])=true:=by rw[List.nil_append,show List.map bE.d d.br++[D.agg [D.int .i64 a,D.sl 1 (aB (mc b))]]=(d.br++[bE.mk a (mc b)]).map bE.d by simp,dB];simp[D.pure,D.aF]
  obtain⟨r,g2,g1⟩:=u7 hZ WQ;rw[g1 _ fun t ht=>by simp at ht;rcases ht with rfl|rfl|rfl<;>simp[aj,bc,dA]];have g3:bN r (.sl 2 ((d.br++[bE.mk a (mc b)]).map bE.d)):=by simpa using g2
  exact vo (.cons (gh (.cons (.refl _) (.cons g3 (.cons (.refl _) (.cons (.refl _) .nil))))) (.cons (.refl _) .nil))
def BQ(l:List ah)(a:Nat):ah×Nat:=match dn l a 0 (l.length - a) a []with
 |some (b,n)=>(b,n - a)
 |none=>([],0)
def KG{l:List ah}{a:Nat}(h:dn l a 0 (l.length - a) a []=none):BQ l a=([],0):=by rw[BQ,h]
def Ix{l:List ah}{a n:Nat}{b:ah}(h:dn l a 0 (l.length - a) a []=some (b,n)):BQ l a=(b,n - a):=by rw[BQ,h]
def afQ{n:Nat}:(n:Int).tmod 2=((n % 2:Nat):Int):=by rw[Int.tmod_eq_emod_of_nonneg oM];rfl
instance X6(l:List ah)(a:Nat):Ct 96 [.sl 1 (l.map aT),I a] (A6 l/\a<=l.length) (.aI [aT (BQ l a).1,I (BQ l a).2]):=by
 refine bf f96 [(1000009,[]),(6,[(9,5)])] [.tmp 4,.tmp 5] fun pre=>?_;obtain⟨⟨hl,hs⟩,ha⟩:=pre;have no:=KG (l:=l) (a:=a);have yes:=fun n b=>Ix (l:=l) (a:=a) (n:=n) (b:=b);generalize BQ l a=R at *;replace no:Hid _:=no;replace yes:Hid _:=yes;repeat' first|exact zQ|with_reducible apply zJ<;>intro _|refine zK ?_
 refine rF (0,([]:ah)) (fun g:Nat×ah=>l.length - (a+g.1)) [(4,8),(10,71)] (h_ [9,64]) (fun g τ β=>τ 7=I g.1/\aS β [9,64] 5 1 (τ 6) (aB g.2)/\a+g.1<=l.length/\g.2.length<=128 * g.1/\dn l a 0 (l.length - a) a []=dn l a 0 (l.length - (a+g.1)) (a+g.1) g.2) ⟨by simp[go_sem],.inr ⟨9,1,by simp,rfl,rfl⟩,by simpa using ha,by simp,by simp⟩ ?_;rintro⟨n,acc⟩ τ β ⟨h7,hv,hn,mK,hg⟩;simp only at h7 hv hn mK hg;generalize Kg:τ 6=v6 at *;have hf6:=hv.facts;have Ki:IntKind.i64.wrap ((a:Int)+(n:Int))=((a+n:Nat):Int):=by rw[gp _ oM oM];omega
 by_cases AV:a+n<l.length
 rotate_left
 ·have c:¬((a+n:Nat):Int)<(l.length:Int):=oM;rw[KH (n:=a+n) oM]at hg;obtain rfl:=no.out hg;clear hv hg;repeat' first|exact zQ|with_reducible apply zJ<;>intro _|refine zK ?_
  exact wk
 obtain⟨s,hx⟩:∃s,l[a+n]? =some s:=⟨_,gE AV⟩
 obtain⟨sa,wb⟩:∃s,l[a]? =some s:=⟨_,gE oM⟩
 have mr:=hs s (mG hx);have CY:=hs sa (mG wb);have bz:=qY (at_:=a) (last:=0) (f:=l.length - (a+n) - 1) (acc:=acc) hx;rw[show l.length - (a+n) - 1+1=l.length - (a+n) by omega,<-hg,show l.getD a []=sa by rw[List.getD_eq_getElem?_getD,wb];rfl]at bz;have iU:=getD_some (s:=s) (j:=10) oM;have sq:=getD_some (s:=s) (j:=11) oM;have e1:gen s=num (s.take 4):=rfl;have e2:gen sa=num (sa.take 4):=rfl;have e3:sF s=(s.getD 10 0).toNat:=rfl;have e4:piece s=(s.drop 12).take (s.getD 11 0).toNat:=rfl;rw[e1,e2,e3,e4]at bz;have uP:gH s (a+n)=true->(s.getD 11 0).toNat<=112/\(s.getD 10 0).toNat<=3:=fun h=>by
  rw[D5]at h;simp only[bA,decide_eq_true_eq]at h;exact⟨h.1.1.1.1.1,h.1.1.1.1.2⟩
 replace uP:Hid _:=uP;have hb:=(s.getD 11 0).toNat_lt;have hw:IntKind.i64.wrap ((s.getD 11 0).toNat:Int)=((s.getD 11 0).toNat:Int):=gp _ oM oM;have qb:=afQ (n:=(s.getD 10 0).toNat);generalize s.getD 10 0=A at *;generalize s.getD 11 0=B at *;have l1:(s.take 4).length<=8:=by simp;omega
 have l2:(sa.take 4).length<=8:=by simp;omega
 have ar:((a+n:Nat):Int)<(l.length:Int):=oM;have q1:decide (A.toNat % 2=1)=decide (((A.toNat % 2:Nat):Int)=1):=by rw[Bool.eq_iff_iff];simp;omega
 have q2:decide (a+n=a)=decide ((n:Int)=0):=by rw[Bool.eq_iff_iff];simp
 have q4:decide (0<=num (s.take 4))=true:=by simp
 rw[q1,q2,q4,Bool.and_true]at bz;have sD:¬(0:Int)<n->s=sa:=fun h=>by
  obtain rfl:n=0:=oM;rw[Nat.add_zero,wb]at hx;injection hx with hx;exact hx.symm
 replace sD:Hid _:=sD;clear e1 e2 e3 e4 hg q1 q2 q4;cases dj:gH s (a+n)with
 |false=>
  clear uP;rw[dj]at bz;rw[if_neg sI]at bz;obtain rfl:=no.out bz;clear bz hv;repeat' first|exact zQ|with_reducible apply zJ<;>intro _|refine zK ?_
  exact wk
 |true=>
  obtain⟨hB,hA⟩:=uP.out dj;clear uP;rw[dj,Bool.true_and]at bz;replace bz:Hid _:=bz;have c1:(12:Int)+B.toNat<=128:=oM;have c2:(12+(B.toNat:Int)).toNat - 12=B.toNat:=oM;repeat' first|exact zQ|with_reducible apply zJ<;>intro _|refine zK ?_
  ·have nt:=bz.out;rw[if_pos (by rw[bA];exact⟨‹((_:Bool)==_)=true›,decide_eq_true oM⟩)]at nt;clear bz sD;generalize vW:List.take B.toNat (s.drop 12)=pc at *;have mT:pc.length<=112:=by rw[<-vW];simp;omega
   clear vW;refine app [9,64] (hv.mix _) (fun x' β' aX=>?_) (by simp[uv];try omega);rw[<-eD]at aX;have kK:=aX.facts;have SH:IntKind.i64.wrap ((n:Int)+1)=((n+1:Nat):Int):=aE oM;by_cases xS:2<=A.toNat
   ·rw[if_pos xS]at nt;obtain rfl:=yes.out _ _ nt;have c5:(2:Int)<=A.toNat:=oM;rw[show a+n+1 - a=n+1 by omega];clear yes no nt;repeat' first|exact zQ|with_reducible apply zJ<;>intro _|refine zK ?_
    exact Mr (aX.mix _) rfl
   ·rw[if_neg xS]at nt;have c5:¬(2:Int)<=A.toNat:=oM;replace nt:Hid _:=nt;repeat' first|exact zQ|with_reducible apply zJ<;>intro _|refine zK ?_
    exact⟨(n+1,acc++pc),by simp;omega,rfl,aX.mix _,by simp;omega,by simp;omega,by rw[nt.out];congr 1⟩
  ·obtain rfl:=no.out (by rw[bz.out,if_neg (by rw[bA,decide_eq_true_eq];rintro⟨_,h⟩;omega)]);exact wk
  ·have nt:=bz.out;rw[if_pos (by rw[bA];exact⟨‹((_:Bool)==_)=true›,by rw[sD.out (by assumption)];simp⟩)]at nt;clear bz sD;generalize vW:List.take B.toNat (s.drop 12)=pc at *;have mT:pc.length<=112:=by rw[<-vW];simp;omega
   clear vW;refine app [9,64] (hv.mix _) (fun x' β' aX=>?_) (by simp[uv];try omega);rw[<-eD]at aX;have kK:=aX.facts;have SH:IntKind.i64.wrap ((n:Int)+1)=((n+1:Nat):Int):=aE oM;by_cases xS:2<=A.toNat
   ·rw[if_pos xS]at nt;obtain rfl:=yes.out _ _ nt;have c5:(2:Int)<=A.toNat:=oM;rw[show a+n+1 - a=n+1 by omega];clear yes no nt;repeat' first|exact zQ|with_reducible apply zJ<;>intro _|refine zK ?_
    exact Mr (aX.mix _) rfl
   ·rw[if_neg xS]at nt;have c5:¬(2:Int)<=A.toNat:=oM;replace nt:Hid _:=nt;repeat' first|exact zQ|with_reducible apply zJ<;>intro _|refine zK ?_
    exact⟨(n+1,acc++pc),by simp;omega,rfl,aX.mix _,by simp;omega,by simp;omega,by rw[nt.out];congr 1⟩
  ·obtain rfl:=no.out (by rw[bz.out,if_neg (by rw[‹((_:Bool)==_)=false›];simp)]);exact wk
instance(l:List ah):Ct 57 [.sl 1 (l.map aT)] (A6 l) (.sl 1 ((b_ l).map aT)):=by
 refine bf f57 [(1000008,[])] [.tmp 2] fun pre=>?_;obtain⟨hl,hs⟩:=pre;repeat' first|exact zQ|with_reducible apply zJ<;>intro _|refine zK ?_
 refine rF (0,0,l.length,[]) (fun g:Nat×Nat×Nat×List ah=>l.length - g.1) [(2,7),(9,40)] (h_ [8,37]) (fun g τ β=>τ 4=I g.1/\τ 5= .int .u64 g.2.1/\aS β [8,37] 71 1 (τ 3) (g.2.2.2.map aT)/\b_ l=g.2.2.2++(lS l g.2.2.1 g.1 g.2.1).map (·.1)/\g.1<=l.length/\l.length<=g.1+g.2.2.1/\g.2.2.2.length<=g.1) ⟨by simp[go_sem],by simp[go_sem],.inr ⟨8,1,by simp,rfl,rfl⟩,by simp[b_,jC],by simp,by simp,by simp⟩ ?_;rintro⟨a,last,f,acc⟩ τ β ⟨h4,h5,hv,hr,ha,hf,dF⟩;simp only at h4 h5 hv hr ha hf dF;generalize qg:τ 3=v3 at *;have Sm:=hv.facts;have Bv:A6 l/\a<=l.length:=⟨⟨hl,hs⟩,ha⟩
 cases hg:dn l a 0 (l.length - a) a []with
 |none=>
  have hR:=KG hg;have uR:lS l f a last=[]:=by
   cases f with
   |zero=>rfl
   |succ f=>rw[kY,xx,hg,ite_self]
  rw[uR,List.map_nil,List.append_nil]at hr;rw[hr];haveI:Ct 96 [.sl 1 (l.map aT),I a] True (.aI [aT [],I 0]):=⟨fun _=>by have:=(X6 l a).h Bv;rwa[hR]at this⟩
  clear hR hr hg uR Bv;repeat' first|exact zQ|with_reducible apply zJ<;>intro _|refine zK ?_
  exact vI (hv.mix _) rfl
 |some p=>
  obtain⟨b,n⟩:=p;have hR:=Ix hg;obtain⟨p1,p2⟩:=nK hg;simp only at p1 p2;obtain⟨sa,wb⟩:∃s,l[a]? =some s:=⟨_,gE oM⟩
  have CY:=hs sa (mG wb);have AO:gen (l.getD a [])=num (sa.take 4):=by rw[List.getD_eq_getElem?_getD,wb];rfl
  obtain⟨f',rfl⟩:∃f',f=f'+1:=⟨f - 1,by omega⟩
  rw[kY,xx,hg,AO]at hr;haveI:Ct 96 [.sl 1 (l.map aT),I a] True (.aI [aT b,I ((n - a:Nat):Int)]):=⟨fun _=>by have:=(X6 l a).h Bv;rwa[hR]at this⟩
  have c1:¬((n - a:Nat):Int)=0:=oM;have w1:IntKind.i64.wrap ((a:Int)+((n - a:Nat):Int))=(n:Int):=by rw[gp _ oM oM];omega
  have l1:(sa.take 4).length<=8:=by simp;omega
  clear hR hg Bv AO;by_cases CR:num (sa.take 4)<last
  ·rw[if_pos CR]at hr;simp only[List.map_nil,List.append_nil]at hr;rw[hr];have c2:(num (sa.take 4):Int)<(last:Int):=oM;clear hr;repeat' first|exact zQ|with_reducible apply zJ<;>intro _|refine zK ?_
   exact vI (hv.mix _) rfl
  ·rw[if_neg CR]at hr;have c2:¬(num (sa.take 4):Int)<(last:Int):=oM;replace hr:Hid _:=hr;repeat' first|exact zQ|with_reducible apply zJ<;>intro _|refine zK ?_
   refine app [8,37] (hv.mix _) (fun x' β' aX=>?_) (by simp;try omega);have kK:=aX.facts;repeat' first|exact zQ|with_reducible apply zJ<;>intro _|refine zK ?_
   refine⟨(n,num (sa.take 4),f',acc++[b]),by simp;omega,rfl,rfl,by simpa using aX.mix _,by rw[hr.out];simp,p2,by simp;omega,by simp;omega⟩
instance(d:bV):Ct 39 [d.d] (okD d) (.aI [(cV d).1.d,I (cV d).2]):=by
 refine bf f39 [] [.cell 2 36,.tmp 3] fun pre=>?_;generalize hR:cV d=R;unfold cV at hR;by_cases h1:cO d=true
 rotate_left
 ·rw[if_neg h1]at hR;subst hR;repeat' first|exact zQ|with_reducible apply zJ<;>intro _|refine zK ?_
  exact wk
 rw[if_pos h1]at hR;have bC:A6 d.a_:=by
  simp[cO]at h1;exact⟨by omega,h1.2⟩
 replace hR:Hid _:=hR;repeat' first|exact zQ|with_reducible apply zJ<;>intro _|refine zK ?_
 ·rename_i c;rw[<-hR.out,if_pos c];exact wk
 ·rename_i c c2;rw[<-hR.out,c,if_neg sI,if_neg oM];exact wk
 ·rename_i c c2;rw[<-hR.out,c,if_neg sI,if_pos oM];exact wk
instance(a b:gy):Ct 46 [a.d,b.d] (Lm a.bJ/\Lm b.bJ) (.bool (decide (a.many=b.many)&&decide (a.sync=b.sync)&&decide (a.bJ=b.bJ))):=by
 refine bf f46 [] [.tmp 4] fun pre=>?_;obtain⟨h1,h2⟩:=pre;repeat' first|exact zQ|with_reducible apply zJ<;>intro _|refine zK ?_
 all_goals first|exact wk|(refine ab (congrArg D.bool ?_);simp[*];done)|trace_state
instance(d:bV):Ct 47 [d.d,d.d] (okD d) (.bool true):=by
 refine bf f47 [] [.tmp 4] fun pre=>?_;obtain⟨h1,h2⟩:=pre;repeat' first|exact zQ|with_reducible apply zJ<;>intro _|refine zK ?_
 refine bW d.a_ [(4,5),(37,56)] [] (fun j τ _=>τ 5=I j) h1 sG (fun j x τ β hx hj hw hi=>?_) fun τ β hn hi=>?_
 ·repeat' first|exact zQ|with_reducible apply zJ<;>intro _|refine zK ?_
 ·repeat' first|exact zQ|with_reducible apply zJ<;>intro _|refine zK ?_
  refine bW d.br [(4,4),(6,6),(57,93)] [] (fun j τ _=>τ 6=I j) h2 sG (fun j x τ' β' hx hj hw fU=>?_) fun τ' β' sB fU=>?_
  ·repeat' first|exact zQ|with_reducible apply zJ<;>intro _|refine zK ?_
   all_goals trace_state
  ·repeat' first|exact zQ|with_reducible apply zJ<;>intro _|refine zK ?_
   all_goals trace_state
end Go.V.Jn
namespace Go.V.Jn
open Go.Proofs Go.RowKit Go.V.Lx Go.V.Gr Go.V.Ty Go.V.St
def Hrd(s t el:Nat)(x:D)(m:List D)(bx:ae):Prop:=
 (x= .aq/\m=[])\/∃e es,x= .bp s e 1 0 es.length/\bx s=⟨e,1,1,el,es⟩/\cY bx es=some m/\D.aF m=true/\∀q∈bM es,q=t
theorem Hrd.eI{s t el:Nat}{x:D}{m:List D}{bx:ae}(h:Hrd s t el x m bx)(bz:s≠t):
 ∃bx0,(bx0=bx\/∃l,(bx s).k=1/\cY bx (bx s).es=some l/\bx0=Go.V.eI bx s l)/\(∀q,q≠s->q≠t->bx0 q=bx q)/\aS bx0 [s] el 1 x m:=by
 rcases h with⟨rfl,rfl⟩|⟨e,es,rfl,h1,h2,h4,h5⟩
 ·exact⟨bx,.inl rfl,fun _ _ _=>rfl,.nil _ _ _ _⟩
 ·have ik:(bx s).es=es:=by rw[h1]
  have hf:dX bx es s=bx s:=by rw[eL,if_neg (fun hm=>bz (h5 _ hm))]
  refine⟨_,.inr ⟨m,by rw[h1],by rw[ik];exact h2,rfl⟩,fun q hq iM=>?_,.inr ⟨s,e,by simp,?_,?_⟩⟩
  ·unfold Go.V.eI;rw[ik,aD hq,eL,if_neg (fun hm=>iM (h5 _ hm))]
  ·rw[(ug _ _ h2).1]
  ·unfold Go.V.eI;rw[ik,dC,hf,h1]
end Go.V.Jn
namespace Go.V.Jn
open Go.Proofs Go.Proofs.Tryz Go.RowKit Go.V.Lx Go.V.Gr Go.V.Ty Go.V.St
def JR{P:Program}{C:Calc}{σ:Env}{bx:ae}{full:List Oper}{Pn:D->ae->Prop}{Q:Env->ae->Prop}(M:Env->ae->Prop)(h1:wP P C full (fun _ _=>False) M σ bx)(h2:∀σ bx,M σ bx->Q σ bx):wP P C full Pn Q σ bx:=
 wQ (fun _ _ h=>h.elim) h2 h1
theorem Ic{bx:ae}{x y:D}(hx:bD bx x=some y):∀ {l m:List D} {i:Nat},cY bx l=some m->cY bx (l.set i x)=some (m.set i y)
 |[],m,i,h=>by simp[cY]at h;subst h;simp[cY]
 |d::ds,m,i,h=>by
  rw[dS]at h;cases h1:bD bx d with
  |none=>rw[h1]at h;cases h
  |some d'=>
   cases h2:cY bx ds with
   |none=>rw[h1,h2]at h;cases h
   |some ds'=>
    rw[h1,h2]at h;injection h with h;subst h;cases i with
    |zero=>rw[List.set_cons_zero,dS,hx,h2];rfl
    |succ i=>rw[List.set_cons_succ,dS,h1,Ic hx h2];rfl
theorem rS{x:D}{q:Nat}:∀ {l:List D} {i:Nat},q∈bM (l.set i x)->q∈bM l\/q∈Go.V.names x
 |[],i,h=>by simp[bM]at h
 |d::ds,0,h=>by
  rw[List.set_cons_zero]at h;simp only[bM,List.mem_append]at h⊢;rcases h with h|h
  ·exact .inr h
  ·exact .inl (.inr h)
 |d::ds,i+1,h=>by
  rw[List.set_cons_succ]at h;simp only[bM,List.mem_append]at h⊢;rcases h with h|h
  ·exact .inl (.inl h)
  ·rcases rS h with h|h
   ·exact .inl (.inr h)
   ·exact .inr h
def S4(S:List ah)(W:List bE)(L:Int)(n:Int)(st:Bool)(σ:Env)(B:ae):Prop:=σ 1= .loc 1 1 0 0/\σ 2= .loc 2 1 0 0/\σ 4=I n/\σ 5= .bool st/\σ 6= .loc 6 1 0 0/\B 1=⟨1,1,4,39,[.agg [.sl 1 (S.map aT),.sl 2 (W.map bE.d),I L,.bool false]]⟩/\B 2=⟨1,1,4,39,[.agg [.aq,.aq,I 0,.bool false]]⟩/\∃e,B 6=⟨1,1,4,39,[.agg [.bp 35 e 1 0 S.length,.aq,I L,.bool false]]⟩/\B 35=⟨e,1,1,71,S.map aT⟩
instance (priority:=low)(S:List ah)(W:List bE)(L:Int)(st:Bool):Ct 54 [.agg [.sl 1 (S.map aT),.sl 2 (W.map bE.d),I L,.bool st]] (okD ⟨S,W,L,st⟩) (I (if cO ⟨S,W,L,st⟩then 0 else 40)):=agA ⟨S,W,L,st⟩
instance agB(d:bV):Ct 105 [d.d] (okD d) (.aI [(gX d).1.d,I (gX d).2]):=by
 obtain⟨S,W,L,st⟩:=d;refine bf f105 [(2000007,[]),(2000014,[]),(1000032,[]),(1000069,[]),(4000015,[(0,2000000035)]),(7,[(8,6),(8,3),(5,3),(8,1),(6,1),(5,1),(3,1)]),(14,[(17,14),(15,14),(14,12),(17,10),(15,10),(14,8),(10,8),(14,6),(10,6),(14,4),(10,4),(17,2),(15,2)])] [.cell 2 39,.tmp 3] fun pre=>?_;generalize hR:gX ⟨S,W,L,st⟩=R;unfold gX j9 at hR;by_cases h1:cO ⟨S,W,L,st⟩=true
 rotate_left
 ·rw[if_neg (by simp[h1])]at hR;subst hR;repeat' first|exact zQ|with_reducible apply zJ<;>intro _|refine zK ?_
  exact wk
 rw[h1]at hR;have hp:W.length<=4096:=sL h1;have mr:S.length<=4096:=by simp[cO]at h1;omega
 cases st
 rotate_left
 ·rw[if_neg sI]at hR;subst hR;repeat' first|exact zQ|with_reducible apply zJ<;>intro _|refine zK ?_
  exact wk
 rw[if_pos sI]at hR;have hS0:S≠[]:=by intro h;subst h;simp[cO]at h1
 have hpu:D.aF (S.map aT)=true:=by rw[dB];simp[D.pure]
 simp only at hR;obtain⟨g1,g2⟩:(∀w∈W,oD S.length w=true)/\(∀b∈S,b.length=128):=by
  simp[cO,List.all_eq_true]at h1;exact⟨h1.1.2,h1.2⟩
 by_cases hl:0<=L/\L<W.length
 ·obtain⟨l1,l2⟩:=hl;rw[if_pos ⟨l1,l2⟩]at hR;replace hR:Hid _:=hR;repeat' first|exact zQ|with_reducible apply zJ<;>intro _|refine zK ?_
  refine JR (S4 S W L L true) (gY (.aY 1 (.aY 4 (.load 2 1 (.load 5 1 (.both 0 [1] (.both 3 [1] (.aY 6 (.both 7 [1] (.both 8 [] .fin .stop) .stop)) (.both 7 [1] (.both 3 [1] (.aY 6 (.both 8 [] .fin .stop)) .stop) .stop)) (.both 7 [1] (.both 0 [1] (.both 3 [1] (.aY 6 (.both 8 [] .fin .stop)) .stop) .stop) .stop)))))) ak ?_) ?_
  ·repeat' first|exact zQ|with_reducible apply zJ<;>intro _|refine zK ?_
   refine⟨⟨?_,?_⟩,?_⟩;all_goals
    repeat' first|exact zQ|with_reducible apply zJ<;>intro _|refine zK ?_
    refine eJ (ts:=[32]) (.inr ⟨32,1,by simp,rfl,by simp[aj]⟩:aS _ [32] 71 1 (.bp 32 1 1 0 0) []) (by simpa using hS0) sG (by simp;omega) oM oM sI fun e' bx' hb hk=>?_;have k1:=hk 1 oM sI;have k2:=hk 2 oM sI;have k6:=hk 6 oM sI;simp only[aj,reduceIte,Nat.reduceEqDiff,Bx.none]at k1 k2 k6;rw[List.nil_append]at hb;clear hk;repeat' first|exact zQ|with_reducible apply zJ<;>intro _|refine zK ?_
    exact⟨by simp[aj],by simp[aj],by simp[aj],by simp[aj],by simp[aj],by simp[aj,k1],by simp[aj,k2],e',by simp[aj],by simp[aj,hb]⟩
  ·rintro σ B ⟨s1,s2,s4,s5,s6,b1,b2,e,b6,Vi⟩;obtain⟨m,rfl⟩:∃m:Nat,L=m:=⟨L.toNat,by omega⟩
   have hlm:(W.take m).length=m:=by simp;omega
   repeat' first|exact zQ|with_reducible apply zJ<;>intro _|refine zK ?_
   refine bW (W.take m) [(7,7),(39,58)] [(35,35)] (fun j τ β=>τ 7=I j/\β 35=⟨e,1,1,71,(cP S ((W.take m).take j)).map aT⟩) (by simp[Lm];omega) ⟨by simp[go_sem],by simp[cP,Vi]⟩ (fun j x τ β hx hj hw hi=>?_) fun τ β hn hi=>?_
   ·obtain⟨h7,JZ⟩:=hi;rw[hlm]at hj;have hxw:W[j]? =some x:=by rw[List.getElem?_take_of_lt oM]at hx;exact hx
    have Ff:=g1 x (mG hxw);simp only[oD,bA,decide_eq_true_eq]at Ff;obtain⟨⟨w1,w2⟩,w3⟩:=Ff;have mT:(cP S ((W.take m).take j)).length=S.length:=gW _ _;have hs:=zw (s:=S) hx;obtain⟨o,ho⟩:∃o,(cP S ((W.take m).take j))[x.at_.toNat]? =some o:=⟨_,gE oM⟩
    generalize cP S ((W.take m).take j)=T at *;have sC:(T.map aT).set x.at_.toNat (aT x.data)=(cP S ((W.take m).take (j+1))).map aT:=by rw[hs,List.map_set]
    clear g1 g2 hx hs hR;repeat' first|exact zQ|with_reducible apply zJ<;>intro _|refine zK ?_
    all_goals trace_state
   ·obtain⟨h7,JZ⟩:=hi;rw[hlm]at hn h7;rw[tL]at JZ;obtain⟨w,C0⟩:∃w,W[m]? =some w:=⟨_,gE oM⟩
    have uU:=g1 w (mG C0);simp only[oD,bA,decide_eq_true_eq]at uU;obtain⟨⟨w1,w2⟩,w3⟩:=uU;have q2:∀x∈W.take m,oD S.length x=true:=fun x hx=>g1 x (List.mem_of_mem_take hx);have q3:=qX (l:=W.take m) g2 q2;have q4:=gW (W.take m) S;obtain⟨o,ho⟩:∃o,(cP S (W.take m))[w.at_.toNat]? =some o:=⟨_,gE oM⟩
    have E7:=q3 o (mG ho);have hT:om ⟨S,W,m,false⟩=(cP S (W.take m)).set w.at_.toNat (w.data.take 64++o.drop 64):=by simp[om,List.getD_eq_getElem?_getD,C0,ho]
    have hR:=hR.out;rw[hT]at hR;replace hR:Hid _:=hR;generalize cP S (W.take m)=T at *;have hdl:(aB w.data).length=128:=by simp[aB,w3]
    have aeY:(aB o).length=128:=by simp[aB,E7]
    clear g1 g2 q2 q3 hT;repeat' first|exact zQ|with_reducible apply zJ<;>intro _|refine zK ?_
    refine gY (.aY 0 (.aY 2 (.aY 5 (.aY 9 (.aY 11 (.load 1 6 (.load 3 8 (.load 6 8 (.aY 7 (.load 10 6 (.load 12 8 (.aY 13 (.load 14 35 (.aY 15 (.both 4 [6,8,35] (.both 8 [6,8,35] (.both 16 [6,8] (.aY 17 (.both 18 [] .fin .stop)) .stop) .stop) .stop))))))))))))))) ak ?_;repeat' first|exact zQ|with_reducible apply zJ<;>intro _|refine zK ?_
    have e1:aB (w.data.take 64)≠[]:=fun h=>by have:=congrArg List.length h;simp[aB,w3]at this
    have e2:aB ((o.drop 64).take 64)≠[]:=fun h=>by have:=congrArg List.length h;simp[aB,E7]at this
    have e3:(aB (w.data.take 64)).length=64:=by simp[aB,w3]
    have e4:(aB ((o.drop 64).take 64)).length=64:=by simp[aB,E7]
    refine eJ (ts:=[69]) (.inr ⟨69,(B 69).ep+1,by simp,rfl,by simp[aj]⟩:aS _ [69] 5 1 (.bp 69 ((B 69).ep+1) 1 0 0) []) e1 sG (by simp;omega) oM oM sI fun e' bx' hb hk=>?_;have k1:=hk 1 oM sI;have k2:=hk 2 oM sI;have k6:=hk 6 oM sI;have k8:=hk 8 oM sI;have Xp:=hk 35 oM sI;simp[aj,bc,dA,b1,b2,b6,JZ]at k1 k2 k6 k8 Xp;rw[List.nil_append]at hb⊢;clear hk;repeat' first|exact zQ|with_reducible apply zJ<;>intro _|refine zK ?_
    refine eJ (ts:=[73]) (.inr ⟨73,e',by simp,by rw[e3],by simpa using hb⟩:aS _ [73] 5 1 (.bp 73 e' 1 0 64) (aB (w.data.take 64))) e2 sG (by simp;omega) oM oM sI fun e5 RZ hb5 vS=>?_;have m1:=(vS 1 oM sI).trans k1;have m2:=(vS 2 oM sI).trans k2;have m6:=(vS 6 oM sI).trans k6;have m8:=(vS 8 oM sI).trans k8;have m35:=(vS 35 oM sI).trans Xp;rw[List.length_append,e3,e4,show 64+64=128 from rfl];have hpT:D.aF (T.map aT)=true:=by rw[dB];simp[D.pure]
    have WX:aB (w.data.take 64)++aB ((o.drop 64).take 64)=aB (w.data.take 64++o.drop 64):=by rw[<-eD,List.take_of_length_le (l:=o.drop 64) (by simp;omega)]
    have hO:=Ic (bx:=aj RZ 35 ⟨e,1,1,71,(T.map aT).set w.at_.toNat (.bp 81 e5 1 0 128)⟩) (x:=.bp 81 e5 1 0 128) (y:=aT (w.data.take 64++o.drop 64)) (by
     rw[ma,aD (by decide),hb5,WX];exact OG _ _ _ _ (by simp;omega)) (l:=T.map aT) (i:=w.at_.toNat) (lW _ _ hpT).1
    clear vS k1 k2 Xp hb;have hM:∃M,Go.V.eI (aj RZ 35 ⟨e,1,1,71,(T.map aT).set w.at_.toNat (.bp 81 e5 1 0 128)⟩) 35 ((T.map aT).set w.at_.toNat (aT (w.data.take 64++o.drop 64)))=M/\M 2=RZ 2/\M 6=RZ 6/\M 35=⟨e,1,1,71,(T.set w.at_.toNat (w.data.take 64++o.drop 64)).map aT⟩:=by
     have hn:∀q,q≠81->q∉bM ((T.map aT).set w.at_.toNat (.bp 81 e5 1 0 128)):=fun q hq hm=>by
      rcases rS hm with h|h
      ·rw[(lW (fun _=>Bx.none) _ hpT).2]at h;simp at h
      ·simp[Go.V.names]at h;exact hq h
     refine⟨_,rfl,?_,?_,?_⟩
     ·unfold Go.V.eI;rw[aD (by decide),dC,eL,if_neg (hn 2 (by decide)),aD (by decide)]
     ·unfold Go.V.eI;rw[aD (by decide),dC,eL,if_neg (hn 6 (by decide)),aD (by decide)]
     ·unfold Go.V.eI;rw[dC,dC,eL,if_neg (hn 35 (by decide)),dC,List.map_set]
    obtain⟨M,hM,n2,n6,n35⟩:=hM;rw[m2]at n2;rw[m6]at n6;have G_:(T.set w.at_.toNat (w.data.take 64++o.drop 64)).length=S.length:=by rw[List.length_set,q4]
    obtain rfl:=hR.out;generalize T.set w.at_.toNat (w.data.take 64++o.drop 64)=T2 at *;have WM:oH ⟨e,1,1,71,T2.map aT⟩ e 1 0 S.length=some (.sl 1 (T2.map aT)):=ej _ _ _ _ _ _ (by decide) (by simp[G_]) (by rw[dB];simp[D.pure]);repeat' first|exact zQ|with_reducible apply zJ<;>intro _|refine zK ?_
    exact wk
 ·rw[if_neg hl]at hR;have l3:IntKind.i64.wrap (L - W.length)=L - W.length:=gp _ (by simp[cO]at h1;omega) (by simp[cO]at h1;omega);have hls:(0<=L/\¬L<(W.length:Int))\/¬0<=L:=oM;clear hl;rcases hls with⟨l1,l2⟩|l1;all_goals
   first|rw[if_pos l1]at hR|rw[if_neg l1]at hR
   replace hR:Hid _:=hR;repeat' first|exact zQ|with_reducible apply zJ<;>intro _|refine zK ?_
   refine JR (S4 S W L W.length false) (gY (.aY 1 (.aY 4 (.load 2 1 (.load 5 1 (.both 0 [1] (.both 3 [1] (.aY 6 (.both 7 [1] (.both 8 [] .fin .stop) .stop)) (.both 7 [1] (.both 3 [1] (.aY 6 (.both 8 [] .fin .stop)) .stop) .stop)) (.both 7 [1] (.both 0 [1] (.both 3 [1] (.aY 6 (.both 8 [] .fin .stop)) .stop) .stop) .stop)))))) ak ?_) ?_
   ·repeat' first|exact zQ|with_reducible apply zJ<;>intro _|refine zK ?_
    refine⟨⟨?_,?_⟩,?_⟩;all_goals
     repeat' first|exact zQ|with_reducible apply zJ<;>intro _|refine zK ?_
     refine eJ (ts:=[32]) (.inr ⟨32,1,by simp,rfl,by simp[aj]⟩:aS _ [32] 71 1 (.bp 32 1 1 0 0) []) (by simpa using hS0) sG (by simp;omega) oM oM sI fun e' bx' hb hk=>?_;have k1:=hk 1 oM sI;have k2:=hk 2 oM sI;have k6:=hk 6 oM sI;simp only[aj,reduceIte,Nat.reduceEqDiff,Bx.none]at k1 k2 k6;rw[List.nil_append]at hb;clear hk;repeat' first|exact zQ|with_reducible apply zJ<;>intro _|refine zK ?_
     exact⟨by simp[aj],by simp[aj],by simp[aj],by simp[aj],by simp[aj],by simp[aj,k1],by simp[aj,k2],e',by simp[aj],by simp[aj,hb]⟩
   ·rintro σ B ⟨s1,s2,s4,s5,s6,b1,b2,e,b6,Vi⟩;repeat' first|exact zQ|with_reducible apply zJ<;>intro _|refine zK ?_
    refine bW W [(7,7),(39,58)] [(35,35)] (fun j τ β=>τ 7=I j/\β 35=⟨e,1,1,71,(cP S (W.take j)).map aT⟩) (by simp[Lm];omega) ⟨by simp[go_sem],by simp[cP,Vi]⟩ (fun j x τ β hx hj hw hi=>?_) fun τ β hn hi=>?_
    ·obtain⟨h7,JZ⟩:=hi;have Ff:=g1 x (mG hx);simp only[oD,bA,decide_eq_true_eq]at Ff;obtain⟨⟨w1,w2⟩,w3⟩:=Ff;have mT:(cP S (W.take j)).length=S.length:=gW _ _;have hs:=zw (s:=S) hx;obtain⟨o,ho⟩:∃o,(cP S (W.take j))[x.at_.toNat]? =some o:=⟨_,gE oM⟩
     generalize cP S (W.take j)=T at *;have sC:(T.map aT).set x.at_.toNat (aT x.data)=(cP S (W.take (j+1))).map aT:=by rw[hs,List.map_set]
     clear g1 g2 hs hR;repeat' first|exact zQ|with_reducible apply zJ<;>intro _|refine zK ?_
    ·obtain⟨h7,JZ⟩:=hi;rw[tL]at JZ;have G_:(cP S W).length=S.length:=gW _ _;obtain rfl:=hR.out;generalize cP S W=T2 at *;have WM:oH ⟨e,1,1,71,T2.map aT⟩ e 1 0 S.length=some (.sl 1 (T2.map aT)):=ej _ _ _ _ _ _ (by decide) (by simp[G_]) (by rw[dB];simp[D.pure]);clear g1 g2 h1;repeat' first|exact zQ|with_reducible apply zJ<;>intro _|refine zK ?_
     exact wk
end Go.V.Jn
