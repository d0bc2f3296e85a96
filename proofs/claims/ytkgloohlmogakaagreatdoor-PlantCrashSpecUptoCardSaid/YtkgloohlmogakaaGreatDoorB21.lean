/- Plain laws: B21. -/
import Derived.Test.YtkgloohlmogakaaGreatDoorB20
set_option linter.all false
set_option maxHeartbeats 8000000
set_option maxRecDepth 100000
namespace Go.V.Jn
open Go.Proofs Go.Proofs.Tryz Go.RowKit Go.V.Lx Go.V.Gr Go.V.Ty Go.V.St
instance (priority:=low)(rs:List ah)(M y:Int):Ct 48 [.agg [.sl 1 (rs.map aT),I M,I y]] (pK rs) (I (if ko ⟨rs,M,y⟩then 0 else 1)):=afn ⟨rs,M,y⟩
instance (priority:=low)(a l:List ah)(n:Nat):Ct 51 [.sl 1 (a.map aT),.sl 1 (List.take n (l.map aT)),.fn (.func 52) []] (Lm a/\Lm (l.take n)) (.bool (decide (a=l.take n))):=by rw[<-List.map_take];infer_instance
instance (priority:=low)(l:List ah)(n:Nat):Ct 80 [.sl 1 (List.take n (l.map aT))] (pK (l.take n)) (I (aV (l.take n))):=by rw[<-List.map_take];infer_instance
abbrev L9(r:gy×bV×Int):D:=.aI [r.1.d,r.2.1.d,I r.2.2]
def Kt(rs:List ah)(M y:Int)(S:List ah)(W:List bE)(L:Int)(st:Bool)(hu:pK rs)(hd:okD ⟨S,W,L,st⟩):ao prog 58 [gy.d ⟨rs,M,y⟩,bV.d ⟨S,W,L,st⟩] (L9 (ft ⟨rs,M,y⟩ ⟨S,W,L,st⟩)):=by
 suffices Ct 58 [gy.d ⟨rs,M,y⟩,bV.d ⟨S,W,L,st⟩] True (L9 (ft ⟨rs,M,y⟩ ⟨S,W,L,st⟩))from this.h trivial
 refine bf f58 [(21,[(3,2)]),(33,[(14,6)]),(41,[(4,2)]),(43,[(3,2)])] [.cell 4 36,.cell 5 39,.tmp 6] fun pre=>?_;generalize hR:ft ⟨rs,M,y⟩ ⟨S,W,L,st⟩=R;unfold ft at hR;by_cases h1:ko ⟨rs,M,y⟩=true
 rotate_left
 ·rw[if_neg h1]at hR;subst hR;repeat' first|exact zQ|with_reducible apply zJ<;>intro _|refine zK ?_
  exact wk
 rw[if_pos h1]at hR;by_cases h2:cO ⟨S,W,L,st⟩=true
 rotate_left
 ·rw[if_neg h2]at hR;subst hR;repeat' first|exact zQ|with_reducible apply zJ<;>intro _|refine zK ?_
  exact wk
 rw[if_pos h2]at hR;simp only at hR;have pF:Hid _:=(rfl:cV ⟨S,W,L,st⟩=cV ⟨S,W,L,st⟩)
 obtain⟨s1,s2,s3,s4⟩:1<=S.length/\S.length<=4096/\(∀b∈S,b.length=128)/\W.length<=4096:=by
  simp[cO]at h2;exact⟨by omega,by omega,h2.2,by omega⟩
 obtain⟨m1,m2,m3,m4,m5⟩:1<=M/\M<=4096/\0<=y/\y<=rs.length/\(aV rs:Int)<=M:=by simp[ko]at h1;exact⟨by omega,by omega,by omega,by omega,by omega⟩
 by_cases h3:¬M=S.length/\st=false
 ·rw[if_pos h3]at hR;subst hR;obtain⟨h3,rfl⟩:=h3;repeat' first|exact zQ|with_reducible apply zJ<;>intro _|refine zK ?_
  exact wk
 rw[if_neg h3]at hR;cases hs:st
 rotate_left
 ·subst hs;have ho:cV ⟨S,W,L,true⟩=(j0,40):=by simp[cV,h2]
  rw[ho]at hR;simp only[if_neg (show ¬(40:Int)=0 by decide)]at hR;subst hR;clear pF h3 s3;repeat' first|exact zQ|with_reducible apply zJ<;>intro _|refine zK ?_
  all_goals exact wk
 subst hs;have hM:M=S.length:=by simpa using h3
 subst hM;clear h3 pF;by_cases h4:W.length=0
 rotate_left
 ·have ho:cV ⟨S,W,L,false⟩=(j0,1):=by simp[cV,h2];intro h;exact absurd (by simp[h]) h4
  rw[ho]at hR;simp only[if_neg (show ¬(1:Int)=0 by decide)]at hR;subst hR;clear s3;repeat' first|exact zQ|with_reducible apply zJ<;>intro _|refine zK ?_
  all_goals exact wk
 have hW:Hid (W=[]):=List.length_eq_zero_iff.1 h4;have Ki:¬(0:Int)<W.length:=oM;have ho:cV ⟨S,W,L,false⟩=(⟨b_ S,S.length,(b_ S).length⟩,0):=by have:=hW.out;subst this;simp[cV,h2]
 rw[ho]at hR;simp only[if_true]at hR;have NP:Hid (DG S L):=⟨s1,s2,s3,by simp[cO]at h2;omega,by simp[cO]at h2;omega⟩
 clear h4 s4;replace hR:Hid _:=hR;repeat' first|exact zQ|with_reducible apply zJ<;>intro _|refine zK ?_
 generalize hG:cB S=G at *;have VZ:=G0 S s3;refine bW S [(10,10),(12,12),(59,73)] [] (fun i τ _=>τ 59=I i/\τ 10= .int .u64 (cB (S.take i))) (by simp[Lm];omega) ⟨by simp[go_sem],by simp[go_sem,cB]⟩ (fun i x τ β hx hj hw hi=>?_) fun τ β hn hi=>?_
 ·obtain⟨NN,iU⟩:=hi;have hg:=Qi hx;have lA:=s3 x (mG hx);have He:(x.drop 124).take 4=x.drop 124:=List.take_of_length_le (by simp;omega);have l1:(x.take 4).length<=8:=by simp;omega
  have l2:(x.drop 124).length<=8:=by simp;omega
  have n1:num (x.take 4)<4294967296:=by have:=my (x.take 4);simp[lA]at this;omega
  have n2:num (x.drop 124)<4294967296:=by have:=my (x.drop 124);simp[lA]at this;omega
  have w1:IntKind.u64.wrap ((num (x.take 4):Int)+1)=((num (x.take 4)+1:Nat):Int):=by rw[show(num (x.take 4):Int)+1=((num (x.take 4)+1:Nat):Int) by simp,cU rfl (by simp[IntKind.bits];omega)]
  have w2:IntKind.u64.wrap ((num (x.drop 124):Int)+1)=((num (x.drop 124)+1:Nat):Int):=by rw[show(num (x.drop 124):Int)+1=((num (x.drop 124)+1:Nat):Int) by simp,cU rfl (by simp[IntKind.bits];omega)]
  clear s3 hR ho h1 h2;repeat' first|exact zQ|with_reducible apply zJ<;>intro _|refine zK ?_
  exact congrArg (D.int .u64) oM
 ·obtain⟨NN,iU⟩:=hi;rw[tL,hG]at iU;rw[hG]at VZ;refine fresh (fun σ' B=>σ' 2= .loc 2 1 0 0/\σ' 3= .loc 3 1 0 0/\σ' 4= .loc 4 1 0 0/\σ' 5= .loc 5 1 0 0/\σ' 9= .loc 9 1 0 0/\σ' 10= .int .u64 G/\σ' 58=I S.length/\σ' 59=I S.length/\
   B 2=⟨1,1,3,36,[gy.d ⟨rs,S.length,y⟩]⟩/\B 3=⟨1,1,4,39,[bV.d ⟨S,W,L,false⟩]⟩/\B 4=⟨1,1,3,36,[.agg [.aq,I 0,I 0]]⟩/\B 5=⟨1,1,4,39,[.agg [.aq,.aq,I 0,.bool false]]⟩/\B 9=⟨1,1,3,36,[gy.d ⟨b_ S,S.length,(b_ S).length⟩]⟩)
   ⟨by simp[go_sem],by simp[go_sem],by simp[go_sem],by simp[go_sem],by simp[go_sem],by simp[go_sem,iU],by simp[go_sem],by simp[go_sem,NN],by simp[go_sem],by simp[go_sem],by simp[go_sem],by simp[go_sem],by simp[go_sem]⟩ ?_
  clear NN iU hn;rintro σ B ⟨k2,k3,k4,k5,k9,Fj,k58,k59,b2,b3,b4,b5,b9⟩;have Ke:=lr rs;have lM:=lr (b_ S);have qe:=ui S;have p1:Lm (b_ S)/\Lm (rs.take y.toNat):=by constructor<;>(simp[Lm,b_];omega)
  have Su:¬(S.length:Int)<S.length:=oM;have oQ:Hid (decide (b_ S=rs.take y.toNat)=decide (b_ S=rs.take y.toNat)):=rfl;clear s3 h1 h2;have shr:∀g:Nat,g<=4294967296->(g:Int).fdiv (2 ^ min 32 64)=if g<4294967296 then 0 else 1:=fun g hg=>by rw[show(2:Int) ^ min 32 64=((4294967296:Nat):Int) by rfl,Int.fdiv_eq_ediv_of_nonneg _ oM];split<;>omega
  have SD:=shr G VZ;clear shr;by_cases hc:b_ S=rs.take y.toNat/\G<4294967296
  rotate_left
  ·obtain rfl:=hR.out.symm.trans (if_neg hc);clear hR oQ Ke lM qe;by_cases ow:b_ S=rs.take y.toNat
   ·have p9:decide (b_ S=rs.take y.toNat)=true:=decide_eq_true ow;rw[if_neg (fun h=>hc ⟨ow,h⟩)]at SD;clear hc ow;repeat' first|exact zQ|with_reducible apply zJ<;>intro _|((with_reducible refine kd ?_ (fun _=>?_) fun _=>?_);exact pr)|refine zK ?_|fail
    exact wk
   ·have p9:decide (b_ S=rs.take y.toNat)=false:=decide_eq_false ow;clear hc ow SD;repeat' first|exact zQ|with_reducible apply zJ<;>intro _|((with_reducible refine kd ?_ (fun _=>?_) fun _=>?_);exact pr)|refine zK ?_|fail
    exact wk
  ·have hR:=hR.out;rw[if_pos hc]at hR;obtain⟨ow,ke⟩:=hc;rw[if_pos ke]at SD;rw[ow]at p1 b9;clear Ke lM qe;have hR:Hid _:=hR;have p9:decide (rs.take y.toNat=rs.take y.toNat)=true:=by simp
   clear ow oQ;repeat' first|exact zQ|with_reducible apply zJ<;>intro _|((with_reducible refine kd ?_ (fun _=>?_) fun _=>?_);exact pr)|refine zK ?_|fail
   ·rename_i hy;rw[<-hR.out,if_pos hy,hy];exact wk
   rename_i hy;have hR:=hR.out;rw[if_neg hy]at hR;have hut:pK (rs.take y.toNat):=Nat.le_trans (nP _ _) hu;have vZ:=tj rs y.toNat;have uT:(rs.drop y.toNat).length=rs.length - y.toNat:=List.length_drop;have WD:=lr rs;replace hR:Hid _:=hR;repeat' first|exact zQ|with_reducible apply zJ<;>intro _|((with_reducible refine kd ?_ (fun _=>?_) fun _=>?_);exact pr)|refine zK ?_|fail
   generalize hv:rs.drop y.toNat=v at *;generalize hA:aV (rs.take y.toNat)=A at *;refine fresh (fun σ' B'=>σ' 2= .loc 2 1 0 0/\σ' 3= .loc 3 1 0 0/\σ' 4= .loc 4 1 0 0/\σ' 5= .loc 5 1 0 0/\σ' 10= .int .u64 G/\σ' 13=I A/\σ' 108= .sl 1 (v.map aT)/\σ' 109=I v.length/\σ' 110=I 0/\
    B' 2=⟨1,1,3,36,[gy.d ⟨rs,S.length,y⟩]⟩/\B' 3=⟨1,1,4,39,[bV.d ⟨S,W,L,false⟩]⟩/\B' 4=⟨1,1,3,36,[.agg [.aq,I 0,I 0]]⟩/\B' 5=⟨1,1,4,39,[.agg [.aq,.aq,I 0,.bool false]]⟩)
    ⟨by simp[go_sem,k2],by simp[go_sem,k3],by simp[go_sem,k4],by simp[go_sem,k5],by simp[go_sem,Fj],by simp[go_sem],by simp[go_sem];rw[<-hv,List.map_drop,List.take_of_length_le sI],by simp[go_sem];omega,by simp[go_sem],b2,b3,b4,b5⟩ ?_
   clear k2 k3 k4 k5 k9 Fj k58 k59 b2 b3 b4 b5 b9 p1 p9 SD;rintro σ B ⟨k2,k3,k4,k5,Fj,k13,k108,k109,afo,b2,b3,b4,b5⟩;have hG2:G<4294967296:=ke;have LI:Lm v:=by simp[Lm];omega
   replace uT:Hid _:=uT;have J2:W.length=0:=by rw[hW.out];rfl
   refine bW v [(6,6),(13,13),(15,18),(110,150)] [(3,3)] (fun j τ β=>τ 110=I j/\τ 13=I ((A+aV (v.take j):Nat):Int)/\β 3=⟨1,1,4,39,[bV.d ⟨S,W++cq G A (v.take j),L,false⟩]⟩) LI ⟨afo,by rw[k13];simp[aV],by rw[b3];simp[cq]⟩ (fun j x τ β hx hj hw hi=>?_) fun τ β hn hi=>?_
   ·obtain⟨aeH,EX,h3⟩:=hi;have gB:=vk hx;have ae4:=nP v (j+1);have hxm:=xJ (mG hx);have hxL:Lm x:=by simp[Lm];omega
    have hsx:=um x;have Hb:cq G A (v.take (j+1))=cq G A (v.take j)++iO G (A+aV (v.take j)) x:=by rw[List.take_add_one,hx,Option.toList_some,Bi];simp[cq]
    have fO:∀w∈W++cq G A (v.take j),(0:Int)<=w.at_/\w.at_<(A+aV (v.take j):Nat)/\w.data.length=128:=fun w hw=>by
     rw[hW.out,List.nil_append]at hw;have:=tE hw;exact⟨by omega,this.2⟩
    have hlen:(W++cq G A (v.take j)).length=aV (v.take j):=by rw[List.length_append,pb,J2,Nat.zero_add]
    generalize V4:W++cq G A (v.take j)=Wj at *;generalize hAj:A+aV (v.take j)=Aj at *;replace fO:Hid _:=fO;repeat' first|exact zQ|with_reducible apply zJ<;>intro _|((with_reducible refine kd ?_ (fun _=>?_) fun _=>?_);exact pr)|refine zK ?_|fail
    refine iS [(6,6),(13,13),(15,18),(116,149)] [(3,3)] (bm x) (fun k τ β=>τ 17=I ((bm x - k:Nat):Int)/\τ 15= .sl 1 (aB (x.drop (112 * k)))/\τ 16= .int .u8 ((if k=0 then 1 else 0:UInt8).toNat:Int)/\τ 13=I ((Aj+k:Nat):Int)/\β 3=⟨1,1,4,39,[bV.d ⟨S,Wj++(iO G Aj x).take k,L,false⟩]⟩) ?_ (fun k τ' β' hk fU=>?_) fun τ' β' fU=>?_
    ·refine⟨by simp[go_sem],by simp[go_sem],by simp[go_sem],by simp[go_sem,EX],by simp[go_sem,h3]⟩
    ·obtain⟨i17,i15,i16,i13,i3⟩:=fU;have hU:di [(3,3)] B (bc [(3,3)] β B):=fun s hs=>by simp[bc,hs]
     have qF:=FH (g:=G) (a:=Aj) (b:=x) hk;have CT:∀w∈Wj++(iO G Aj x).take k,(0:Int)<=w.at_/\w.at_<S.length/\w.data.length=128:=fun w hw=>by
      rcases List.mem_append.1 hw with hw|hw
      ·have:=fO.out w hw;omega
      ·have:=BR (List.mem_of_mem_take hw);omega
     have kO:(Wj++(iO G Aj x).take k).length=Wj.length+k:=by simp[me];omega
     have vW:(eQ G Aj (bm x) x k).data.length=128:=zy;have Kj:=I5 (a:=((Aj+k:Nat):Int)) (b:=(eQ G Aj (bm x) x k).data) NP.out CT oM oM oM vW;rw[List.append_assoc,show[bE.mk ((Aj+k:Nat):Int) (eQ G Aj (bm x) x k).data]=[eQ G Aj (bm x) x k]from rfl,<-qF]at Kj;have Hv:(eQ G Aj (bm x) x k).data=dw G (Aj+k) (iX k (bm x)) ((x.drop (112 * k)).take 112):=rfl;rw[Hv]at Kj;generalize hWk:Wj++(iO G Aj x).take k=Wk at *;generalize aeJ:Wj++(iO G Aj x).take (k+1)=Wk2 at *;have gf:(x.drop (112 * k)).drop 112=x.drop (112 * (k+1)):=by rw[List.drop_drop];congr 1
     have hxk:(x.drop (112 * k)).length<=x.length:=by simp
     generalize x.drop (112 * k)=xb at *;generalize x.drop (112 * (k+1))=xn at *;have c1:(0:Int)<((bm x - k:Nat):Int):=oM;have c2:min (xb.length:Int) 112=((min xb.length 112:Nat):Int):=oM;have c3:xb.take (min xb.length 112)=xb.take 112:=by
      by_cases h:xb.length<=112
      ·rw[show min xb.length 112=xb.length by omega,tL,List.take_of_length_le h]
      ·rw[show min xb.length 112=112 by omega]
     have c4:xb.drop (min xb.length 112)=xn:=by
      rw[<-gf];by_cases h:xb.length<=112
      ·rw[show min xb.length 112=xb.length by omega,List.drop_length,List.drop_of_length_le h]
      ·rw[show min xb.length 112=112 by omega]
     have c5:(xb.take 112).length<=112/\Aj+k<65536:=⟨by simp;omega,by omega⟩
     have c6:Lm S/\Lm Wk:=⟨by simp[Lm];omega,by simp[Lm];omega⟩
     have c7:IntKind.i64.wrap (((Aj+k:Nat):Int)+1)=((Aj+(k+1):Nat):Int):=by rw[gp _ oM oM];omega
     have c8:IntKind.i64.wrap (((bm x - k:Nat):Int) - 1)=((bm x - (k+1):Nat):Int):=by rw[gp _ oM oM];omega
     have c9:(min xb.length 112:Int)<=xb.length:=oM;clear CT qF vW;by_cases CR:k+1=bm x
     ·have d1:((bm x - k:Nat):Int)=1:=oM;have d2:du .or .u8 ((if k=0 then 1 else 0:UInt8).toNat:Int) 2=((iX k (bm x)).toNat:Int):=by
       unfold iX;by_cases h0:k=0
       ·rw[if_pos h0,if_pos h0,if_pos oM];rfl
       ·rw[if_neg h0,if_neg h0,if_pos CR];rfl
      generalize iX k (bm x)=K at *;generalize(if k=0 then 1 else 0:UInt8)=K0 at *;repeat' first|exact zQ|with_reducible apply zJ<;>intro _|((with_reducible refine kd ?_ (fun _=>?_) fun _=>?_);exact pr)|refine zK ?_|fail
      exact⟨by simp,by rw[List.take_of_length_le (by rw[<-c4];simp)],by rw[if_neg oM];rfl⟩
     ·have d1:¬((bm x - k:Nat):Int)=1:=oM;have d2:(if k=0 then 1 else 0:UInt8)=iX k (bm x):=by
       unfold iX;by_cases h0:k=0
       ·rw[if_pos h0,if_pos h0,if_neg oM]
       ·rw[if_neg h0,if_neg h0,if_neg CR]
      rw[d2]at i16;generalize iX k (bm x)=K at *;clear d2;repeat' first|exact zQ|with_reducible apply zJ<;>intro _|((with_reducible refine kd ?_ (fun _=>?_) fun _=>?_);exact pr)|refine zK ?_|fail
      exact⟨by rw[List.take_of_length_le (by rw[<-c4];simp)],rfl⟩
    ·obtain⟨i17,i15,i16,i13,i3⟩:=fU;have hU:di [(3,3)] B (bc [(3,3)] β B):=fun s hs=>by simp[bc,hs]
     rw[Nat.sub_self]at i17;rw[List.take_of_length_le (by rw[me];exact Nat.le_refl _)]at i3;have e1:A+aV (v.take (j+1))=Aj+bm x:=oM;have e2:W++cq G A (v.take (j+1))=Wj++iO G Aj x:=by rw[Hb,<-List.append_assoc,V4]
     have z0:¬(0:Int)<((0:Nat):Int):=by decide
     clear Hb;repeat' first|exact zQ|with_reducible apply zJ<;>intro _|((with_reducible refine kd ?_ (fun _=>?_) fun _=>?_);exact pr)|refine zK ?_|fail
     exact congrArg I oM
   ·obtain⟨aeH,EX,h3⟩:=hi;rw[tL]at EX h3;have c6:Lm S/\Lm (W++cq G A v):=⟨by simp[Lm];omega,by simp[Lm,pb];omega⟩
    have hR:=hR.out;rw[show cq G A v=W++cq G A v by rw[hW.out];rfl]at hR;generalize W++cq G A v=WW at *;replace hR:Hid _:=hR;repeat' first|exact zQ|with_reducible apply zJ<;>intro _|((with_reducible refine kd ?_ (fun _=>?_) fun _=>?_);exact pr)|refine zK ?_|fail
    all_goals first|(rw[<-hR.out,if_pos (by assumption)];exact wk)|(rw[<-hR.out,if_neg (by assumption)];exact wk)
end Go.V.Jn
