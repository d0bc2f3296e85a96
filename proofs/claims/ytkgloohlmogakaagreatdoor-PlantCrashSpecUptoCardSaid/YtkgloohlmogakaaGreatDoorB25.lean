/- Plain laws: B25. -/
import Derived.Test.YtkgloohlmogakaaGreatDoorB23
import Derived.Test.YtkgloohlmogakaaGreatDoorB24
import Derived.Test.YtkgloohlmogakaaGreatDoorB21
set_option linter.all false
set_option maxHeartbeats 8000000
set_option maxRecDepth 100000
namespace Go.V.Jn
open Go.Proofs Go.Proofs.Tryz Go.RowKit Go.V.Lx Go.V.Gr Go.V.Ty Go.V.St
section
variable (S:List ah) (W:List bE) (L:Int) (st:Bool)
instance (priority:=low)(a:Int)(b:ah):Ct 103 [.agg [.sl 1 (S.map aT),.sl 2 (W.map bE.d),I L,.bool st],I a,aT b] (okD ⟨S,W,L,st⟩) (.aI [(lU ⟨S,W,L,st⟩ a b).1.d,I (lU ⟨S,W,L,st⟩ a b).2]):=agC ⟨S,W,L,st⟩ a b
instance (priority:=low):Ct 105 [.agg [.sl 1 (S.map aT),.sl 2 (W.map bE.d),I L,.bool st]] (okD ⟨S,W,L,st⟩) (.aI [(gX ⟨S,W,L,st⟩).1.d,I (gX ⟨S,W,L,st⟩).2]):=agB ⟨S,W,L,st⟩
instance (priority:=low)(rs:List ah)(M y:Int):Ct 53 [.agg [.sl 1 (rs.map aT),I M,I y]] (pK rs) (I (if ko ⟨rs,M,y⟩then 0 else 1)):=agn ⟨rs,M,y⟩
instance (priority:=low)(a l:List ah)(n:Nat):Ct 55 [.sl 1 (a.map aT),.sl 1 (List.take n (l.map aT))] (Lm a/\Lm (l.take n)) (.bool (decide (a=l.take n))):=by rw[<-List.map_take];infer_instance
instance (priority:=low)(l:List ah)(n:Nat):Ct 89 [.sl 1 (List.take n (l.map aT))] (pK (l.take n)) (I (aV (l.take n))):=by rw[<-List.map_take];infer_instance
end
def KM(rs:List ah)(M y:Int)(S:List ah)(W:List bE)(L:Int)(st:Bool)(hu:pK rs)(hd:okD ⟨S,W,L,st⟩):ao prog 59 [gy.d ⟨rs,M,y⟩,bV.d ⟨S,W,L,st⟩] (L9 (ft ⟨rs,M,y⟩ ⟨S,W,L,st⟩)):=by
 suffices Ct 59 [gy.d ⟨rs,M,y⟩,bV.d ⟨S,W,L,st⟩] True (L9 (ft ⟨rs,M,y⟩ ⟨S,W,L,st⟩))from this.h trivial
 refine bf f59 [(12,[(11,9),(11,7)]),(15,[(3,2)]),(26,[(16,5)]),(30,[(4,2)]),(32,[(3,2)])] [.cell 4 36,.cell 5 39,.tmp 6] fun pre=>?_;generalize hR:ft ⟨rs,M,y⟩ ⟨S,W,L,st⟩=R;unfold ft at hR;by_cases h1:ko ⟨rs,M,y⟩=true
 rotate_left
 ·rw[if_neg h1]at hR;subst hR;repeat' first|exact zQ|with_reducible apply zJ<;>intro _|refine zK ?_
  exact wk
 rw[if_pos h1]at hR;by_cases h2:cO ⟨S,W,L,st⟩=true
 rotate_left
 ·rw[if_neg h2]at hR;subst hR;repeat' first|exact zQ|with_reducible apply zJ<;>intro _|refine zK ?_
  exact wk
 rw[if_pos h2]at hR;simp only at hR;obtain⟨s1,s2,s3,s4⟩:1<=S.length/\S.length<=4096/\(∀b∈S,b.length=128)/\W.length<=4096:=by
  simp[cO]at h2;exact⟨by omega,by omega,h2.2,by omega⟩
 obtain⟨m1,m2,m3,m4,m5⟩:1<=M/\M<=4096/\0<=y/\y<=rs.length/\(aV rs:Int)<=M:=by simp[ko]at h1;exact⟨by omega,by omega,by omega,by omega,by omega⟩
 have hlW:Lm S/\Lm W:=hd;cases hs:st
 rotate_left
 ·subst hs;have ho:cV ⟨S,W,L,true⟩=(j0,40):=by simp[cV,h2]
  rw[if_neg sI,ho]at hR;simp only[if_neg (show ¬(40:Int)=0 by decide)]at hR;subst hR;clear s3;repeat' first|exact zQ|with_reducible apply zJ<;>intro _|refine zK ?_
  all_goals exact wk
 subst hs;by_cases h3:M=S.length
 rotate_left
 ·rw[if_pos ⟨h3,rfl⟩]at hR;subst hR;clear s3;repeat' first|exact zQ|with_reducible apply zJ<;>intro _|refine zK ?_
  all_goals exact wk
 rw[if_neg (by simp[h3])]at hR;subst h3;by_cases h4:W.length=0
 rotate_left
 ·have ho:cV ⟨S,W,L,false⟩=(j0,1):=by simp[cV,h2];intro h;exact absurd (by simp[h]) h4
  rw[ho]at hR;simp only[if_neg (show ¬(1:Int)=0 by decide)]at hR;subst hR;have h5:(0:Int)<W.length:=oM;clear s3;repeat' first|exact zQ|with_reducible apply zJ<;>intro _|refine zK ?_
  all_goals exact wk
 have hW:Hid (W=[]):=List.length_eq_zero_iff.1 h4;have Ki:¬(0:Int)<W.length:=oM;have ho:cV ⟨S,W,L,false⟩=(⟨b_ S,S.length,(b_ S).length⟩,0):=by have:=hW.out;subst this;simp[cV,h2]
 rw[ho]at hR;simp only[if_true]at hR;have NP:Hid (DG S L):=⟨s1,s2,s3,by simp[cO]at h2;omega,by simp[cO]at h2;omega⟩
 clear h4 s4;have VZ:=G0 S s3;have Sw:A6 S:=⟨by omega,s3⟩
 obtain⟨y,rfl⟩:∃n:Nat,y=n:=⟨y.toNat,by omega⟩
 rw[Int.toNat_natCast]at hR;have qe:=ui S;have WD:=lr rs;have p1:Lm (b_ S)/\Lm (rs.take y):=by constructor<;>(simp[Lm,b_];omega)
 by_cases hc:b_ S=rs.take y/\cB S<4294967296
 rotate_left
 ·rw[if_neg hc]at hR;subst hR;clear s3 qe WD;by_cases ow:b_ S=rs.take y
  ·have p9:decide (b_ S=rs.take y)=true:=decide_eq_true ow;have ke:(4294967295:Int)<cB S:=by
    have:¬cB S<4294967296:=fun h=>hc ⟨ow,h⟩;omega
   clear hc ow;repeat' first|exact zQ|with_reducible apply zJ<;>intro _|refine zK ?_
   all_goals exact wk
  ·have p9:decide (b_ S=rs.take y)=false:=decide_eq_false ow;clear hc ow;repeat' first|exact zQ|with_reducible apply zJ<;>intro _|refine zK ?_
   all_goals exact wk
 rw[if_pos hc]at hR;obtain⟨ow,ke⟩:=hc;have p9:decide (b_ S=rs.take y)=true:=decide_eq_true ow;have hc3:¬(4294967295:Int)<cB S:=oM;have vZ:=tj rs y;by_cases hy:(y:Int)=rs.length
 ·rw[if_pos hy]at hR;subst hR;obtain rfl:y=rs.length:=oM;clear ow qe WD vZ;repeat' first|exact zQ|with_reducible apply zJ<;>intro _|refine zK ?_
  all_goals exact wk
 rw[if_neg hy]at hR;have hut:pK (rs.take y):=Nat.le_trans (nP _ _) hu;generalize hv:rs.drop y=v at *;have uT:v.length=rs.length - y:=by rw[<-hv];exact List.length_drop
 generalize hA:aV (rs.take y)=A at *;replace hR:Hid _:=hR;replace ow:Hid _:=ow;repeat' first|exact zQ|with_reducible apply zJ<;>intro _|refine zK ?_
 refine fresh (fun σ' B'=>σ' 2= .loc 2 1 0 0/\σ' 3= .loc 3 1 0 0/\σ' 4= .loc 4 1 0 0/\σ' 5= .loc 5 1 0 0/\σ' 9= .int .u64 (cB S)/\σ' 10=I A/\σ' 11=I y/\
  B' 2=⟨1,1,3,36,[gy.d ⟨rs,S.length,y⟩]⟩/\B' 3=⟨1,1,4,39,[bV.d ⟨S,W,L,false⟩]⟩/\B' 4=⟨1,1,3,36,[.agg [.aq,I 0,I 0]]⟩/\B' 5=⟨1,1,4,39,[.agg [.aq,.aq,I 0,.bool false]]⟩)
  ⟨by simp[go_sem],by simp[go_sem],by simp[go_sem],by simp[go_sem],by simp[go_sem],by simp[go_sem],by simp[go_sem],by simp[go_sem],by simp[go_sem],by simp[go_sem],by simp[go_sem]⟩ ?_
 clear p9 hc3 hut p1;rintro σ B ⟨k2,k3,k4,k5,k9,Fj,k11,b2,b3,b4,b5⟩;replace uT:Hid _:=uT;have J2:W.length=0:=by rw[hW.out];rfl
 replace s3:Hid _:=s3;replace hv:Hid _:=hv;clear Sw h1 h2 ho qe;generalize cB S=G at *;refine iS [(10,15),(85,132)] [(3,3)] v.length (fun j τ β=>τ 11=I ((y+j:Nat):Int)/\τ 10=I ((A+aV (v.take j):Nat):Int)/\β 3=⟨1,1,4,39,[bV.d ⟨S,W++cq G A (v.take j),L,false⟩]⟩) ⟨k11,by rw[Fj];simp[aV],by rw[b3];simp[cq]⟩ (fun j τ β hj hi=>?_) fun τ β hi=>?_
 ·obtain⟨sq,iU,h3⟩:=hi;obtain⟨x,hx⟩:∃x,v[j]? =some x:=⟨_,gE hj⟩
  have LI:=uT.out;have hrx:rs[y+j]? =some x:=by rw[<-hx,<-hv.out,List.getElem?_drop]
  have gB:=vk hx;have ae4:=nP v (j+1);have hxm:=xJ (mG hx);have hxL:Lm x:=by simp[Lm];omega
  have hsx:=um x;have Hb:cq G A (v.take (j+1))=cq G A (v.take j)++iO G (A+aV (v.take j)) x:=by rw[List.take_add_one,hx,Option.toList_some,Bi];simp[cq]
  have fO:∀w∈W++cq G A (v.take j),(0:Int)<=w.at_/\w.at_<(A+aV (v.take j):Nat)/\w.data.length=128:=fun w hw=>by
   rw[hW.out,List.nil_append]at hw;have:=tE hw;exact⟨by omega,this.2⟩
  have hlen:(W++cq G A (v.take j)).length=aV (v.take j):=by rw[List.length_append,pb,J2,Nat.zero_add]
  generalize V4:W++cq G A (v.take j)=Wj at *;generalize hAj:A+aV (v.take j)=Aj at *;replace fO:Hid _:=fO;replace Hb:Hid _:=Hb;replace hx:Hid _:=hx;have wi:IntKind.i64.wrap (((y+j:Nat):Int)+1)=((y+(j+1):Nat):Int):=by rw[gp _ oM oM];omega
  have ci:((y+j:Nat):Int)<(rs.length:Int):=oM;have hsec:max 1 ((x.length+111) / 112)=bm x:=rfl;repeat' first|exact zQ|with_reducible apply zJ<;>intro _|refine zK ?_
  refine iS [(10,10),(14,15),(100,132)] [(3,3)] (bm x) (fun k τ β=>τ 14=I k/\τ 10=I ((Aj+k:Nat):Int)/\β 3=⟨1,1,4,39,[bV.d ⟨S,Wj++(iO G Aj x).take k,L,false⟩]⟩) ?_ (fun k τ' β' hk fU=>?_) fun τ' β' fU=>?_
  ·refine⟨by simp[go_sem],by simp[go_sem,iU],by simp[go_sem,h3]⟩
  ·obtain⟨i14,i10,i3⟩:=fU;have hU:di [(3,3)] B (bc [(3,3)] β B):=fun s hs=>by simp[bc,hs]
   have qF:=FH (g:=G) (a:=Aj) (b:=x) hk;have CT:∀w∈Wj++(iO G Aj x).take k,(0:Int)<=w.at_/\w.at_<S.length/\w.data.length=128:=fun w hw=>by
    rcases List.mem_append.1 hw with hw|hw
    ·have:=fO.out w hw;omega
    ·have:=BR (List.mem_of_mem_take hw);omega
   have kO:(Wj++(iO G Aj x).take k).length=Wj.length+k:=by simp[me];omega
   have vW:(eQ G Aj (bm x) x k).data.length=128:=zy;have Kj:=I5 (a:=((Aj+k:Nat):Int)) (b:=(eQ G Aj (bm x) x k).data) NP.out CT oM oM oM vW;rw[List.append_assoc,show[bE.mk ((Aj+k:Nat):Int) (eQ G Aj (bm x) x k).data]=[eQ G Aj (bm x) x k]from rfl,<-qF]at Kj;have Hv:(eQ G Aj (bm x) x k).data=dw G (Aj+k) (iX k (bm x)) ((x.drop (112 * k)).take 112):=rfl;rw[Hv]at Kj;generalize hWk:Wj++(iO G Aj x).take k=Wk at *;generalize aeJ:Wj++(iO G Aj x).take (k+1)=Wk2 at *;have mT:((x.drop (112 * k)).take 112).length<=112/\Aj+k<65536/\G<18446744073709551616:=⟨by simp;omega,by omega,by omega⟩
   have c3:(x.drop (112 * k)).take (min x.length (112 * (k+1)) - 112 * k)=(x.drop (112 * k)).take 112:=by
    by_cases h:x.length<=112 * (k+1)
    ·rw[List.take_of_length_le (by simp;omega),List.take_of_length_le (by simp;omega)]
    ·rw[show min x.length (112 * (k+1)) - 112 * k=112 by omega]
   have hkx:112 * k<=x.length:=by unfold bm at hk;omega
   have c6:Lm S/\Lm Wk:=⟨by simp[Lm];omega,by simp[Lm];omega⟩
   have w0:IntKind.i64.wrap ((k:Int) * 112)=((112 * k:Nat):Int):=by rw[gp _ oM oM];omega
   have w1:IntKind.i64.wrap ((k:Int)+1)=((k+1:Nat):Int):=by rw[gp _ oM oM];omega
   have w2:IntKind.i64.wrap (((k+1:Nat):Int) * 112)=((112 * (k+1):Nat):Int):=by rw[gp _ oM oM];omega
   have w3:IntKind.i64.wrap ((bm x:Int) - 1)=((bm x - 1:Nat):Int):=by rw[gp _ oM oM];omega
   have w4:IntKind.i64.wrap (((Aj+k:Nat):Int)+1)=((Aj+(k+1):Nat):Int):=by rw[gp _ oM oM];omega
   have c2:min (x.length:Int) ((112 * (k+1):Nat):Int)=((min x.length (112 * (k+1)):Nat):Int):=oM;have c4:min x.length (112 * (k+1))<=x.length/\112 * k<=min x.length (112 * (k+1)):=oM;have c5:(k:Int)<bm x:=oM;have d1:F_ (decide ((k:Int)=0)) (decide ((k:Int)=((bm x - 1:Nat):Int)))=iX k (bm x):=by
    unfold F_ iX;by_cases h0:k=0
    ·by_cases h1:bm x=1
     ·simp[h0,h1]
     ·have:¬(0:Int)=((bm x - 1:Nat):Int):=oM;simp[h0,h1,this]
    ·by_cases h1:k+1=bm x
     ·have:(k:Int)=((bm x - 1:Nat):Int):=oM;simp[h0,h1,this];omega
     ·have:¬(k:Int)=((bm x - 1:Nat):Int):=oM;simp[h0,h1,this]
   generalize iX k (bm x)=K at *;generalize(x.drop (112 * k)).take 112=p at *;generalize min x.length (112 * (k+1))=u at *;generalize 112 * (k+1)=u1 at *;generalize 112 * k=u0 at *;obtain⟨c4,c7⟩:=c4;clear CT qF vW;repeat' first|exact zQ|with_reducible apply zJ<;>intro _|refine zK ?_
  ·obtain⟨i14,i10,i3⟩:=fU;rw[List.take_of_length_le (by rw[me];exact Nat.le_refl _)]at i3;have hU:di [(3,3)] B (bc [(3,3)] β B):=fun s hs=>by simp[bc,hs]
   have e1:A+aV (v.take (j+1))=Aj+bm x:=oM;have e2:W++cq G A (v.take (j+1))=Wj++iO G Aj x:=by rw[Hb.out,<-List.append_assoc,V4]
   have z0:¬(bm x:Int)<(bm x:Int):=oM;clear Hb;repeat' first|exact zQ|with_reducible apply zJ<;>intro _|refine zK ?_
   exact congrArg I oM
 ·obtain⟨sq,iU,h3⟩:=hi;rw[tL]at iU h3;have LI:=uT.out;have c6:Lm S/\Lm (W++cq G A v):=⟨by simp[Lm];omega,by simp[Lm,pb];omega⟩
  rw[show y+v.length=rs.length by omega]at sq;have c7:¬(rs.length:Int)<(rs.length:Int):=oM;clear LI;have hR:=hR.out;rw[show cq G A v=W++cq G A v by rw[hW.out];rfl]at hR;generalize W++cq G A v=WW at *;replace hR:Hid _:=hR;repeat' first|exact zQ|with_reducible apply zJ<;>intro _|refine zK ?_
  all_goals first|(rw[<-hR.out,if_pos (by assumption)];exact wk)|(rw[<-hR.out,if_neg (by assumption)];exact wk)
end Go.V.Jn
