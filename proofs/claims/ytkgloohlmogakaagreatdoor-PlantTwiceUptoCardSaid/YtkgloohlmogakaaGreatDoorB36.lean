/- Values: the program's reader. -/
import Derived.Test.YtkgloohlmogakaaGreatDoorB35
import Derived.Test.YtkgloohlmogakaaGreatDoorB34
set_option linter.unusedSimpArgs false
set_option linter.unusedVariables false
set_option maxRecDepth 100000
namespace Go.V.Jn
open Go.Proofs Go.RowKit Go.V.Lx Go.V.Gr Go.V.Ty Go.V.St
@[go_sem] theorem PZ(T:TypeId->TI)(e z0 b s s':Nat)(g0 g g':Bool)(z z':List D)(es:List D):lW T ⟨.slice e z0 b g0,s,g,z⟩ ⟨.str,s',g',z'⟩ (.clp 1 es)=if(T e).k.lN=true then(fA es).map .str else none:=by simp[lW]
def Vl(b:Nat)(bx bx':ae)(e:Nat)(v:aQ)(r:ah)(d:D):Prop:=∃x,bf bx' d=some x/\bk x v.d/\RD (cv bx' [d]) e r/\∀q,q<b->q≠8->cv bx' [d] q=bx q
theorem RD.up{bx:ae}{e t:Nat}{s:ah}{v:Bx}(h:RD bx e s)(ht:(8:Nat)≠t):RD (ao bx t v) e s:=(aA ht).trans h
theorem RD.of{bx bx':ae}{e:Nat}{s:ah}(h:RD bx e s)(ht:bx' 8=bx 8):RD bx' e s:=ht.trans h
theorem Ky(n:Int)(hn: -9223372036854775808<=n/\n<=9223372036854775807)(b dp:Nat)(hb:8<b)(r:ah)(hr:r.length<=1099511620000)(e:Nat)(bx:ae)(h:RD bx e (bH (.i n)++r)):
 aU Tryz.prog 168 b [.loc 8 e 0 0,I dp] bx (fun d bx'=>Vl b bx bx' e (.i n) r d) (fun _ _=>False):=by
 refine aG (fn:=Tryz.f168) (tab:=[(2000012,[]),(12,[(8,4),(8,3)])]) (base:=b) mixed ?_ rfl aj rfl;refine aH _ [.cell 4 158] 50 rfl rfl rfl aj ?_;have hne:(8:Nat)≠b+4:=oM;have hne2:b+4≠8:=oM;have hz:=Bo hn.1 hn.2;rw[show bH (.i n)++r=1::(dS (p_ n)++r)from rfl]at h;have hl:=iR hz;have w1:IntKind.i64.wrap ((UInt8.toNat 1:Nat):Int)=1:=rfl;repeat' first|exact zQ|with_reducible refine zJ (fun _=>?_) fun _=>?_|refine zK ?_|fail
 refine aB (pW e 1 _ _ (h.up hne) sI (by simp;omega)) rfl fun d bx1 hq=>?_;obtain⟨rfl,q1,q2⟩:=hq;have k4:=q2 (b+4) hne2;have kr:∀q,q<b->q≠8->bx1 q=bx q:=fun q h1 h2=>(q2 q h2).trans (aA oM);replace kr:Hid _:=kr;clear q2 h;repeat' first|exact zQ|with_reducible refine zJ (fun _=>?_) fun _=>?_|refine zK ?_|fail
 refine aB (Av (p_ n) hz r oM e _ (q1.up hne)) rfl fun d bx2 hq=>?_;obtain⟨rfl,q3,q4⟩:=hq;have k5:=q4 (b+4) hne2;have kr2:∀q,q<b->q≠8->bx2 q=bx q:=fun q h1 h2=>((q4 q h2).trans (aA oM)).trans (kr.out q h1 h2);replace kr2:Hid _:=kr2;clear q4 q1 kr;repeat' first|exact zQ|with_reducible refine zJ (fun _=>?_) fun _=>?_|refine zK ?_|fail
 refine⟨.agg [I 1,I n,.str [],.nilsl],rfl,Nf n,?_,fun q h1 h2=>?_⟩
 ·exact(q3.up hne).up hne
 ·exact((aA oM).trans (aA oM)).trans (kr2.out q h1 h2)
theorem KA(s:ah)(b dp:Nat)(hb:8<b)(r:ah)(hr:s.length+r.length<=1099511620000)(e:Nat)(bx:ae)(h:RD bx e (bH (.t s)++r)):
 aU Tryz.prog 168 b [.loc 8 e 0 0,I dp] bx (fun d bx'=>Vl b bx bx' e (.t s) r d) (fun _ _=>False):=by
 refine aG (fn:=Tryz.f168) (tab:=[(2000012,[]),(12,[(8,4),(8,3)])]) (base:=b) mixed ?_ rfl aj rfl;refine aH _ [.cell 4 158] 50 rfl rfl rfl aj ?_;have hne:(8:Nat)≠b+4:=oM;have hne2:b+4≠8:=oM;rw[show bH (.t s)++r=2::(dS s.length++(s++r)) by simp[bH]]at h;have hl:=iR (u:=s.length) oM;have w1:IntKind.i64.wrap ((UInt8.toNat 2:Nat):Int)=2:=rfl;repeat' first|exact zQ|with_reducible refine zJ (fun _=>?_) fun _=>?_|refine zK ?_|fail
 refine aB (pW e 1 _ _ (h.up hne) sI (by simp;omega)) rfl fun d bx1 hq=>?_;obtain⟨rfl,q1,q2⟩:=hq;have k4:=q2 (b+4) hne2;have kr:∀q,q<b->q≠8->bx1 q=bx q:=fun q h1 h2=>(q2 q h2).trans (aA oM);replace kr:Hid _:=kr;clear q2 h;repeat' first|exact zQ|with_reducible refine zJ (fun _=>?_) fun _=>?_|refine zK ?_|fail
 refine aB (Ah s.length (s++r) (by simp;omega) sI e _ (q1.up hne)) rfl fun d bx2 hq=>?_;obtain⟨rfl,q3,q4⟩:=hq;have k5:=q4 (b+4) hne2;have kr2:∀q,q<b->q≠8->bx2 q=bx q:=fun q h1 h2=>((q4 q h2).trans (aA oM)).trans (kr.out q h1 h2);replace kr2:Hid _:=kr2;clear q4 q1 kr;repeat' first|exact zQ|with_reducible refine zJ (fun _=>?_) fun _=>?_|refine zK ?_|fail
 refine aB (pW e s.length _ _ q3 sI (by simp;omega)) rfl fun d bx3 hq=>?_;obtain⟨rfl,q5,q6⟩:=hq;have k6:=(q6 (b+4) hne2).trans k5;have kr3:∀q,q<b->q≠8->bx3 q=bx q:=fun q h1 h2=>(q6 q h2).trans (kr2.out q h1 h2);replace kr3:Hid _:=kr3;rw[List.take_left];rw[List.drop_left]at q5;clear q6 q3 kr2 k5;repeat' first|exact zQ|with_reducible refine zJ (fun _=>?_) fun _=>?_|refine zK ?_|fail
 refine⟨.agg [I 2,I 0,.str s,.nilsl],rfl,Ng s,?_,fun q h1 h2=>?_⟩
 ·exact(q5.up hne).up hne
 ·exact((aA oM).trans (aA oM)).trans (kr3.out q h1 h2)
def PB(v:aQ):Prop:=∀(b dp:Nat),8<b->dp+eM v<=16->∀(r:ah),(bH v).length+r.length<=1099511620000->∀(e:Nat) (bx:ae),RD bx e (bH v++r)->
 aU Tryz.prog 168 b [.loc 8 e 0 0,I dp] bx (fun d bx'=>Vl b bx bx' e v r d) (fun _ _=>False)
set_option maxHeartbeats 2000000 in
theorem Kz(xs:List aQ)(ih:∀x∈xs,PB x)(b dp:Nat)(hb:8<b)(hdp:dp+eM (.l xs)<=16)(r:ah)(hr:(bH (.l xs)).length+r.length<=1099511620000)(e:Nat)(bx:ae)(h:RD bx e (bH (.l xs)++r)):
 aU Tryz.prog 168 b [.loc 8 e 0 0,I dp] bx (fun d bx'=>Vl b bx bx' e (.l xs) r d) (fun _ _=>False):=by
 refine aG (fn:=Tryz.f168) (tab:=[(2000012,[]),(12,[(8,4),(8,3)])]) (base:=b) mixed ?_ rfl aj rfl;refine aH _ [.cell 4 158] 50 rfl rfl rfl aj ?_;have hne:(8:Nat)≠b+4:=oM;have hne2:b+4≠8:=oM;rw[show bH (.l xs)++r=3::(dS xs.length++(cI xs++r)) by simp[bH]]at h;have hrl:(cI xs).length+r.length<=1099511620000:=by simp[bH]at hr;omega
 have hxl:=nY xs;have hl:=iR (u:=xs.length) oM;have w1:IntKind.i64.wrap ((UInt8.toNat 3:Nat):Int)=3:=rfl;have hd1:eM (.l xs)=eC xs+1:=rfl;have c1:(dp:Int)<16:=oM;clear hr;repeat' first|exact zQ|with_reducible refine zJ (fun _=>?_) fun _=>?_|refine zK ?_|fail
 refine aB (pW e 1 _ _ (h.up hne) sI (by simp;omega)) rfl fun d bx1 hq=>?_;obtain⟨rfl,q1,q2⟩:=hq;have k4:=q2 (b+4) hne2;have kr:∀q,q<b->q≠8->bx1 q=bx q:=fun q h1 h2=>(q2 q h2).trans (aA oM);replace kr:Hid _:=kr;clear q2 h;repeat' first|exact zQ|with_reducible refine zJ (fun _=>?_) fun _=>?_|refine zK ?_|fail
 refine aB (pZ e _) rfl fun d bx2 hq=>?_;obtain⟨rfl,rfl⟩:=hq;repeat' first|exact zQ|with_reducible refine zJ (fun _=>?_) fun _=>?_|refine zK ?_|fail
 refine aB (Ah xs.length (cI xs++r) (by simp;omega) (by simp;omega) e _ (q1.up hne)) rfl fun d bx2 hq=>?_;obtain⟨rfl,q3,q4⟩:=hq;have k5:=q4 (b+4) hne2;have kr2:∀q,q<b->q≠8->bx2 q=bx q:=fun q h1 h2=>((q4 q h2).trans (aA oM)).trans (kr.out q h1 h2);replace kr2:Hid _:=kr2;clear q4 q1 kr;repeat' first|exact zQ|with_reducible refine zJ (fun _=>?_) fun _=>?_|refine zK ?_|fail
 generalize(bx (b+4)).ep+1=e4 at *;refine aX xs.length (fun k σ B=>σ 0= .loc 8 e 0 0/\σ 1=I dp/\σ 4= .loc (b+4) e4 0 0/\σ 36=I xs.length/\σ 37=I k/\RD B e (cI (xs.drop k)++r)/\(∃x,B (b+4)=⟨e4,1,4,158,[.agg [I 3,I 0,.str [],x]]⟩/\aW B [b+46] 158 4 x ((xs.take k).map aQ.d))/\Hid (∀q,q<b->q≠8->B q=bx q))
  ⟨by simp[go_sem],by simp[go_sem],by simp[go_sem],by simp[go_sem],by simp[go_sem],q3,⟨.nilsl,by rw[k5];simp[ao],.nil _ _ _ _⟩,kr2⟩ ?_ ?_
 ·clear k4 k5 q3 kr2;rintro k σ B hk ⟨s0,s1,s4,s36,s37,hR,⟨x,hB,hv⟩,kr⟩;obtain⟨y,hy⟩:∃y,xs[k]? =some y:=⟨_,List.getElem?_eq_getElem hk⟩
  have hm:=List.mem_of_getElem? hy;have hI:=ih y hm;have hdy:=G2 hm;have hdr:cI (xs.drop k)=bH y++cI (xs.drop (k+1)):=by rw[List.drop_eq_getElem_cons hk,show xs[k]=y by simpa[List.getElem?_eq_getElem hk]using hy];rfl
  have hln:(bH y).length+(cI (xs.drop (k+1))++r).length<=1099511620000:=by
   have:=congrArg (fun l=>(cI l).length) (List.take_append_drop k xs);simp only[qs,hdr,List.length_append]at this;simp only[List.length_append];omega
  rw[hdr,List.append_assoc]at hR;have c2:(k:Int)<(xs.length:Int):=oM;have w2:IntKind.i64.wrap ((dp:Int)+1)=((dp+1:Nat):Int):=aK oM;have w3:IntKind.i64.wrap ((k:Int)+1)=((k+1:Nat):Int):=aK oM;have hf:=hv.facts;have hc:=hI (b+50) (dp+1) oM oM _ hln e B hR;clear hI ih hdr hln hdp;repeat' first|exact zQ|with_reducible refine zJ (fun _=>?_) fun _=>?_|refine zK ?_|fail
  refine fQ (.light 0 (.light 2 (.light 3 (.light 4 (.load 1 4 (.both 5 [4] (.both 6 [4] (.both 7 [] (.light 8 (.both 9 [] .fin .stop)) .stop) .stop) .stop)))))) aj ?_;repeat' first|exact zQ|with_reducible refine zJ (fun _=>?_) fun _=>?_|refine zK ?_|fail
  refine qj hc rfl (fun d bx1 hp=>?_) fun d bx1 hp=>hp.elim;obtain⟨z,z1,z2,z3,z4⟩:=hp;refine⟨z,_,z1,z2,?_⟩;generalize cv bx1 [d]=B1 at *;have hB1:=(z4 (b+4) oM hne2).trans hB;have hv1:aW B1 [b+46] 158 4 x ((xs.take k).map aQ.d):=hv.of fun t ht=>by simp at ht;subst ht;exact z4 _ oM oM
  have kr1:∀q,q<b->q≠8->B1 q=bx q:=fun q h1 h2=>(z4 q oM h2).trans (kr.out q h1 h2);replace kr1:Hid _:=kr1;clear hc z1 z2 z4 hv kr hR;repeat' first|exact zQ|with_reducible refine zJ (fun _=>?_) fun _=>?_|refine zK ?_|fail
  have hkl:((xs.take k).map aQ.d).length<=1099511627776:=by simp;omega
  refine qe hv1 sG (by simp only[List.length_cons,List.length_nil];omega) oM oM oM fun x' bx3 g1 g2=>?_;have hB3:=(g2 (b+4) oM).trans hB1;have hR3:=z3.of (g2 8 oM);have kr3:∀q,q<b->q≠8->bx3 q=bx q:=fun q h1 h2=>(g2 q oM).trans (kr1.out q h1 h2);replace kr3:Hid _:=kr3;have hf3:=g1.facts;have htk:(xs.take k).map aQ.d++[y.d]=(xs.take (k+1)).map aQ.d:=by rw[List.take_add_one,hy];simp
  rw[htk]at g1;clear g2 hB1 z3 kr1 hv1 hf;repeat' first|exact zQ|with_reducible refine zJ (fun _=>?_) fun _=>?_|refine zK ?_|fail
  exact⟨hR3.up hne,⟨x',rfl,g1.of fun t ht=>by simp at ht;subst ht;exact aA oM⟩,fun q h1 h2=>by rw[if_neg oM];exact kr3.out q h1 h2⟩
 ·clear k4 k5 q3 kr2 ih;rintro σ B ⟨s0,s1,s4,s36,s37,hR,⟨x,hB,hv⟩,kr⟩;have c2:¬(xs.length:Int)<(xs.length:Int):=oM;rw[List.take_length]at hv;rw[List.drop_length,show cI []=[]from rfl,List.nil_append]at hR;have hf:=hv.facts;repeat' first|exact zQ|with_reducible refine zJ (fun _=>?_) fun _=>?_|refine zK ?_|fail
  have hv':aW (ao B (b+4) ⟨e4,1,4,158,[.agg [I 3,I 0,.str [],x]]⟩) [b+46] 158 4 x (xs.map aQ.d):=hv.of fun t ht=>by simp at ht;subst ht;exact aA oM
  obtain⟨rr,o1,o2⟩:=hv'.out (jE xs);have hnm:∀q,q≠b+46->q∉bq [D.agg [I 3,I 0,.str [],x]]:=fun q h1 h2=>by
   simp[bq,Go.V.names]at h2;have:=aW.names hv' q h2;simp at this;omega
  refine⟨.agg [I 3,I 0,.str [],rr],by simp[go_sem,o1],?_,?_,fun q h1 h2=>?_⟩
  ·rw[jD];exact fj (.cons (.refl _) (.cons (.refl _) (.cons (.refl _) (.cons o2 .nil))))
  ·refine RD.of hR ?_;rw[dI,if_neg (hnm 8 oM)];exact aA hne
  ·rw[dI,if_neg (hnm q oM)];exact(aA oM).trans (kr.out q h1 h2)
theorem MP(v:aQ)(h:okW v):PB v:=by
 induction v using nR with
 |hi n=>exact fun b dp hb hd r hr e bx hR=>Ky n h b dp hb r oM e bx hR
 |ht s=>exact fun b dp hb hd r hr e bx hR=>KA s b dp hb r (by simp[bH]at hr;omega) e bx hR
 |hl xs ih=>
  rw[vJ]at h;exact fun b dp hb hd r hr e bx hR=>Kz xs (fun x hx=>ih x hx (h x hx)) b dp hb hd r hr e bx hR
@[go_sem] theorem Vy(v w:aQ):dz v.d 0 w.d.cells=some w.d:=by
 have h2:=Na w;have hv:∃ds,v.d= .agg ds/\ds.length=4:=by
  cases v with
  |i n=>exact⟨_,rfl,rfl⟩
  |t s=>exact⟨_,rfl,rfl⟩
  |l xs=>rw[jD];exact⟨_,rfl,rfl⟩
 obtain⟨ds,h1,h3⟩:=hv;rw[h1];unfold dz;rw[if_pos (by rw[h2];show 0+4<=ds.length;omega)];show some (D.agg (ds.take 0++w.d.cells++ds.drop (0+w.d.cells.length)))=_;rw[h2,List.drop_of_length_le oM];simp[KB]
theorem Bw{e e':Nat}(bx:ae):rV Tryz.prog (bK Tryz.prog) [] Tryz.f167 20 [.loc 2 e 0 0,.loc 3 e' 0 0] bx .ret fun m' bx'=>m'= .ret/\bx'=bx:=by
 refine iv (t:=3) _ _ 9 rfl rfl rfl aj aj (ao (ao (aR 0 [.loc 2 e 0 0,.loc 3 e' 0 0]) 3 (.raw .nilIface)) 2 (.raw .nilIface)) ?_ ?_
 ·repeat' first|exact zQ|with_reducible refine zJ (fun _=>?_) fun _=>?_|refine zK ?_|fail
 ·repeat' first|exact zQ|with_reducible refine zJ (fun _=>?_) fun _=>?_|refine zK ?_|fail
theorem G1(v:aQ)(h:okW v)(hd:eM v<=16)(hl:(bH v).length<=1099511620000):xF Tryz.prog (bK Tryz.prog) [] Tryz.f108 0 [bj (bH v)] (fun _=> .none) (fun d bx'=>∃r,bf bx' d=some r/\bk r (.tup [v.d,I 0])) (fun _ _=>False):=by
 refine my _ [.cell 2 158,.cell 3 53] 20 rfl rfl rfl aj aj ?_;have hR:=MP v h 40 0 oM oM [] (by simpa using hl);rw[List.append_nil]at hR;repeat' first|exact zQ|with_reducible refine zJ (fun _=>?_) fun _=>?_|refine zK ?_|fail
 refine qj (hR 1 _ (by simp[RD,ao,Bx.none])) rfl (fun d bx1 hp=>?_) fun d bx1 hp=>hp.elim;obtain⟨z,z1,z2,z3,z4⟩:=hp;refine⟨z,_,z1,z2,?_⟩;generalize cv bx1 [d]=B1 at *;have k2:=z4 2 oM oM;have k3:=z4 3 oM oM;have k8:B1 8=⟨1,1,1,244,[.agg [bj []]]⟩:=z3;simp only[ao,Bx.none,reduceIte,Nat.reduceEqDiff]at k2 k3;clear z1 z2 z3 z4 hR;repeat' first|exact zQ|with_reducible refine zJ (fun _=>?_) fun _=>?_|refine zK ?_|fail
 refine aB (pZ 1 _) rfl fun d bx2 hq=>?_;obtain⟨rfl,rfl⟩:=hq;repeat' first|exact zQ|with_reducible refine zJ (fun _=>?_) fun _=>?_|refine zK ?_|fail
 refine fJ _ (qw (Bw _)) fun m' bx2 hq=>?_;obtain⟨rfl,rfl⟩:=hq;repeat' first|exact zQ|with_reducible refine zJ (fun _=>?_) fun _=>?_|refine zK ?_|fail
 exact⟨_,by rw[(sr _ _ (xi v)).1];rfl,.refl _⟩
instance(v:aQ):Ct Tryz.prog 108 [bj (bH v)] (okW v/\eM v<=16/\(bH v).length<=1099511620000) (.tup [v.d,I 0]):=⟨fun h=>(zP (G1 v h.1 h.2.1 h.2.2)).to (fun _ _ h=>h) fun d' bx' h=>h⟩
instance(n:Int):Ct Tryz.prog 84 [I n] True (aQ.i n).d:=by
 refine bm (fn:=Tryz.f84) [] [.cell 2 158] fun pre=>?_;repeat' first|exact zQ|with_reducible refine zJ (fun _=>?_) fun _=>?_|refine zK ?_|fail
 exact Nf n
instance(s:ah):Ct Tryz.prog 151 [.str s] True (aQ.t s).d:=by
 refine bm (fn:=Tryz.f151) [] [.cell 2 158] fun pre=>?_;repeat' first|exact zQ|with_reducible refine zJ (fun _=>?_) fun _=>?_|refine zK ?_|fail
 exact Ng s
theorem ID{r:D}{xs:List aQ}(h:bk r (.sl 4 (xs.map aQ.d))):bk (D.agg [I 3,I 0,.str [],r]) (aQ.l xs).d:=by rw[jD];exact fj (.cons (.refl _) (.cons (.refl _) (.cons (.refl _) (.cons h .nil))))
instance(l:List Int):Ct Tryz.prog 83 [.sl 1 (l.map I),.fn (.func 84) []] (l.length<=1099511627776) (aQ.l (l.map aQ.i)).d:=by
 refine bm (fn:=Tryz.f83) [(5,[(7,4),(7,3)])] [.cell 4 158] fun pre=>?_;have hL:Lm l:=by simp[Lm];omega
 repeat' first|exact zQ|with_reducible refine zJ (fun _=>?_) fun _=>?_|refine zK ?_|fail
 refine bO l [(6,6),(10,22)] [(4,4),(6,6),(20,20)] (fun j τ β=>τ 10=I j/\∃x,β 4=⟨1,1,4,158,[.agg [I 3,I 0,.str [],x]]⟩/\aW β [20] 158 4 x (((l.take j).map aQ.i).map aQ.d)) hL ⟨by simp[go_sem],.nilsl,by simp[go_sem],.nil _ _ _ _⟩ (fun j y τ β hx hj hw hi=>?_) fun τ β hn hi=>?_
 ·obtain⟨h10,x,h4,hv⟩:=hi;have hf:=hv.facts;have htk:((l.take j).map aQ.i).map aQ.d++[(aQ.i y).d]=((l.take (j+1)).map aQ.i).map aQ.d:=by rw[List.take_add_one,hx];simp
  have htl:(((l.take j).map aQ.i).map aQ.d).length<=l.length:=by simp;omega
  replace htl:Hid _:=htl;repeat' first|exact zQ|with_reducible refine zJ (fun _=>?_) fun _=>?_|refine zK ?_|fail
  refine app [20] (hv.mix _) (fun x' β' hv'=>?_) (by have:=htl.out;simp only[List.length_cons,List.length_nil];omega);have hf':=hv'.facts;replace hv':aW β' [20] 158 4 x' (((l.take j).map aQ.i).map aQ.d++[(aQ.i y).d]):=hv';rw[htk]at hv';clear htk;repeat' first|exact zQ|with_reducible refine zJ (fun _=>?_) fun _=>?_|refine zK ?_|fail
  exact⟨x',rfl,hv'.of fun t ht=>by simp at ht;subst ht;simp[ao,aY,cm]⟩
 ·obtain⟨h10,x,h4,hv⟩:=hi;rw[List.take_length]at hv;have hf:=hv.facts;obtain⟨r,o2,o1⟩:=o4 hv (jE _);repeat' first|exact zQ|with_reducible refine zJ (fun _=>?_) fun _=>?_|refine zK ?_|fail
  rw[o1 _ fun t ht=>by simp at ht;subst ht;simp[ao,aY,cm]];exact ID o2
instance(l:List ah):Ct Tryz.prog 152 [strs l,.fn (.func 151) []] (l.length<=1099511627776) (aQ.l (l.map aQ.t)).d:=by
 refine bm (fn:=Tryz.f152) [(5,[(7,4),(7,3)])] [.cell 4 158] fun pre=>?_;have hL:Lm l:=by simp[Lm];omega
 repeat' first|exact zQ|with_reducible refine zJ (fun _=>?_) fun _=>?_|refine zK ?_|fail
 refine bO l [(6,6),(10,22)] [(4,4),(6,6),(20,20)] (fun j τ β=>τ 10=I j/\∃x,β 4=⟨1,1,4,158,[.agg [I 3,I 0,.str [],x]]⟩/\aW β [20] 158 4 x (((l.take j).map aQ.t).map aQ.d)) hL ⟨by simp[go_sem],.nilsl,by simp[go_sem],.nil _ _ _ _⟩ (fun j y τ β hx hj hw hi=>?_) fun τ β hn hi=>?_
 ·obtain⟨h10,x,h4,hv⟩:=hi;have hf:=hv.facts;have htk:((l.take j).map aQ.t).map aQ.d++[(aQ.t y).d]=((l.take (j+1)).map aQ.t).map aQ.d:=by rw[List.take_add_one,hx];simp
  have htl:(((l.take j).map aQ.t).map aQ.d).length<=l.length:=by simp;omega
  replace htl:Hid _:=htl;repeat' first|exact zQ|with_reducible refine zJ (fun _=>?_) fun _=>?_|refine zK ?_|fail
  refine app [20] (hv.mix _) (fun x' β' hv'=>?_) (by have:=htl.out;simp only[List.length_cons,List.length_nil];omega);have hf':=hv'.facts;replace hv':aW β' [20] 158 4 x' (((l.take j).map aQ.t).map aQ.d++[(aQ.t y).d]):=hv';rw[htk]at hv';clear htk;repeat' first|exact zQ|with_reducible refine zJ (fun _=>?_) fun _=>?_|refine zK ?_|fail
  exact⟨x',rfl,hv'.of fun t ht=>by simp at ht;subst ht;simp[ao,aY,cm]⟩
 ·obtain⟨h10,x,h4,hv⟩:=hi;rw[List.take_length]at hv;have hf:=hv.facts;obtain⟨r,o2,o1⟩:=o4 hv (jE _);repeat' first|exact zQ|with_reducible refine zJ (fun _=>?_) fun _=>?_|refine zK ?_|fail
  rw[o1 _ fun t ht=>by simp at ht;subst ht;simp[ao,aY,cm]];exact ID o2
@[go_sem ↓] theorem Q8{P:Program}{C:Calc}{σ:Env}{bx:ae}{dst:Option Tmp}{ty:TypeId}{pos:String}{af:Array Edge}{g:Option (Nat×Bool)}{K1:Cl->Env->ae->Prop}(T:Nat)(x:Operand):aZ P C ⟨dst,.call {callee:=.builtin .cap,args:= #[x],argTypes:= #[T]},ty,pos,af,g⟩ σ bx K1=aI (i_ .cap [ak P T] [ev σ x]) fun v=>K1 .n (put σ dst v) bx:=ax
@[go_sem] theorem T5(lo:Nat)(T:TypeId->TI)(dst:Option Tmp)(bx:ae)(x y:D):pw lo T 156 3 dst bx x y=rI lo T (T 156) (T 3) dst bx x y:=by simp only[pw];rw[if_neg (by decide)]
theorem zb{lo:Nat}{T:TypeId->TI}{el esz b size d t e:Nat}{ag ag':Bool}{z es ys:List D}{bx:ae}{K2:D×ae->Prop}(hb:bx t=⟨e,1,esz,el,es⟩)(hlo:lo<=t)(hne:ys≠[])(hz:(T el).zero.length=esz)
 (h1:ys.length * b<=140737488355328) (h2:0<esz) (h3:0<b)
 (hk:∀(e':Nat) (bx':ae),bx' d=⟨e',1,esz,el,ys⟩->(∀s,s≠d->s≠t->bx' s=bx s)->K2 (.osl d e' esz 0 ys.length,bx')):
 aI (eh lo T ⟨.slice el esz b ag,size,ag',z⟩ (some d) bx (.osl t e esz 0 0) ys) K2:=by
 have:=hk ((bx d).ep+1) (ao (ao bx t {bx t with k:=0}) d ⟨(bx d).ep+1,1,esz,el,ys⟩) (by simp[ao]) (fun s h1 h2=>by simp[ao,h1,h2]);simp only[eh,hne,if_false,hz,if_true,kX,wI];rw[if_pos (by simp[hb,hlo,h2,h3,h1]),kY];simpa using this
def U3(bx bx':ae)(d:D):Prop:=∃e es,d= .osl 102 e 4 0 0/\bx' 102=⟨e,1,4,158,es⟩/\∀q,q<80->bx' q=bx q
theorem LO(n:Nat)(h0:0<n)(hn:n<=1048576)(bx:ae):aU Tryz.prog 207 80 [.nilsl,I n] bx (fun d bx'=>U3 bx bx' d) (fun _ _=>False):=by
 refine aG (fn:=Tryz.f207) (tab:=[]) (base:=80) mixed ?_ rfl aj rfl;refine aH _ [.tmp 4] 27 rfl rfl rfl aj ?_;have c1:¬(n:Int)<0:=oM;have c2:IntKind.i64.wrap ((n:Int) - 0)=n:=by rw[iL _ oM oM];omega
 have c3:(0:Int)<n:=oM;have c4:(n:Int) - (0 - 0)=n:=oM;have c5:¬List.replicate n (D.agg [D.int .i64 0,D.int .i64 0,.str [],.nilsl])=[]:=by simp;omega
 have c6:kX 0 102 158 4 56 bx .nilsl (List.replicate n (D.agg [D.int .i64 0,D.int .i64 0,.str [],.nilsl]))=some (.osl 102 ((bx 102).ep+1) 4 0 n,ao bx 102 ⟨(bx 102).ep+1,1,4,158,List.replicate n (D.agg [D.int .i64 0,D.int .i64 0,.str [],.nilsl])⟩):=by
  simp only[kX,List.length_replicate];rw[if_pos ⟨by omega,by decide,by decide⟩]
 repeat' first|exact zQ|with_reducible refine zJ (fun _=>?_) fun _=>?_|refine zK ?_|fail
 exact⟨(bx 102).ep+1,_,rfl,by rw[cO],fun q hq=>aA oM⟩
def cN:Nat->Nat
 |0=>0
 |1=>1
 |2=>4
 |_=>5
def cL(a b1 b2 b3 c:D):Nat->List D
 |0=>[]
 |1=>[a]
 |2=>[a,b1,b2,b3]
 |_=>[a,b1,b2,b3,c]
def v4(d:D):Prop:=d.cells.length=4/\d.cells.all D.one=true/\d.pure=true
instance(a b1 b2 b3 c:D):Ct Tryz.prog 150 [.sl 1 [.sl 4 [a],.sl 4 [b1,b2,b3],.sl 4 [c]]] (a.pure=true/\b1.pure=true/\b2.pure=true/\b3.pure=true/\c.pure=true) (.sl 4 [a,b1,b2,b3,c]):=by
 refine bm (fn:=Tryz.f150) [] [.tmp 2] fun pre=>?_;obtain⟨pa,p1,p2,p3,pc⟩:=pre;repeat' first|exact zQ|with_reducible refine zJ (fun _=>?_) fun _=>?_|refine zK ?_|fail
 have x1:((1:Nat):Int)=1:=rfl;have x2:((2:Nat):Int)=2:=rfl;have x3:((3:Nat):Int)=3:=rfl;have x4:((4:Nat):Int)=4:=rfl;have x5:((5:Nat):Int)=5:=rfl;have v1:(0:Int)+1=1:=rfl;have v2:(1:Int)+1=2:=rfl;have v3:(2:Int)+1=3:=rfl;have v4':(1:Int)+3=4:=rfl;have v5:(4:Int)+1=5:=rfl;have y1:(1:Int).toNat=1:=rfl;have y2:(2:Int).toNat=2:=rfl;refine iN [(3,3),(5,5),(11,22)] [] 3 (fun k τ β=>τ 11=I k/\τ 3=I (cN k)) ⟨by simp[go_sem],by simp[go_sem,cN]⟩ (fun k τ β hk hi=>?_) fun τ β hi=>?_
 ·obtain⟨h11,h3⟩:=hi;have hk3:k=0\/k=1\/k=2:=oM;rcases hk3 with rfl|rfl|rfl;all_goals
   simp only[cN]at h3⊢;repeat' first|exact zQ|with_reducible refine zJ (fun _=>?_) fun _=>?_|refine zK ?_|fail
 ·obtain⟨h11,h3⟩:=hi;simp only[cN]at h3;have z3:¬(3:Int)<3:=by decide
  repeat' first|exact zQ|with_reducible refine zJ (fun _=>?_) fun _=>?_|refine zK ?_|fail
  have hG:=LO 5 oM oM (fun _=>Bx.none);refine aB hG rfl fun d bx1 hq=>?_;obtain⟨e,es,rfl,hb,-⟩:=hq;repeat' first|exact zQ|with_reducible refine zJ (fun _=>?_) fun _=>?_|refine zK ?_|fail
  refine iN [(6,6),(8,8),(27,34)] (kU [33,102]) 3 (fun k τ β=>τ 27=I k/\((k=0/\τ 6= .osl 102 e 4 0 0/\β 102=⟨e,1,4,158,es⟩)\/(k≠0/\aW β [33] 158 4 (τ 6) (cL a b1 b2 b3 c k)))) ⟨by simp[go_sem],.inl ⟨rfl,by simp[go_sem],hb⟩⟩ (fun k τ β hk hi=>?_) fun τ β hi=>?_
  ·obtain⟨h27,hi⟩:=hi;rcases hi with⟨rfl,h6,h102⟩|⟨hk0,hv⟩
   ·have hbb:aY (kU [33,102]) β bx1 102=⟨e,1,4,158,es⟩:=by simpa[aY,cm,kU]using h102
    repeat' first|exact zQ|with_reducible refine zJ (fun _=>?_) fun _=>?_|refine zK ?_|fail
    refine zb hbb oM sI sG sI oM oM fun e' bx' h1 h2=>?_;have kb:cd (kU [33,102]) bx' bx1:=fun q hq=>by
     simp[cm,kU]at hq;rw[h2 q oM oM];exact cd.jt q (by simp[cm,kU];omega)
    clear h2;repeat' first|exact zQ|with_reducible refine zJ (fun _=>?_) fun _=>?_|refine zK ?_|fail
    exact .inr ⟨by decide,.inr ⟨33,e',by simp,rfl,h1⟩⟩
   ·generalize hv0:τ 6=x at *;have hf:=hv.facts;have hk3:k=1\/k=2:=oM;rcases hk3 with rfl|rfl;all_goals
     simp only[cL]at hv⊢;repeat' first|exact zQ|with_reducible refine zJ (fun _=>?_) fun _=>?_|refine zK ?_|fail
     refine app [33] (hv.mix _) (fun x' β' hv'=>?_) ?_
     rotate_left
     ·simp
     have hf':=hv'.facts;repeat' first|exact zQ|with_reducible refine zJ (fun _=>?_) fun _=>?_|refine zK ?_|fail
     exact .inr ⟨by decide,hv'.of fun t ht=>by simp at ht;subst ht;simp[aY,cm]⟩
  ·obtain⟨h27,hi⟩:=hi;rcases hi with⟨h0,_⟩|⟨_,hv⟩
   ·omega
   simp only[cL]at hv;generalize hv0:τ 6=x at *;have hf:=hv.facts;repeat' first|exact zQ|with_reducible refine zJ (fun _=>?_) fun _=>?_|refine zK ?_|fail
   exact MQ (hv.mix _) rfl (by simp[D.aF,pa,p1,p2,p3,pc])
instance(n:Int):Ct Tryz.prog 109 [.agg [I 1,I n,.str [],.sl 4 []],I 1,I 0] True (.agg [I 1,I n,.str [],.sl 4 []]):=by
 refine bm (fn:=Tryz.f109) [] [.cell 6 158] fun pre=>?_;repeat' first|exact zQ|with_reducible refine zJ (fun _=>?_) fun _=>?_|refine zK ?_|fail
instance(s:ah):Ct Tryz.prog 109 [.agg [I 2,I 0,.str s,.sl 4 []],I 2,I 0] True (.agg [I 2,I 0,.str s,.sl 4 []]):=by
 refine bm (fn:=Tryz.f109) [] [.cell 6 158] fun pre=>?_;repeat' first|exact zQ|with_reducible refine zJ (fun _=>?_) fun _=>?_|refine zK ?_|fail
instance(es:List D)(m:Int):Ct Tryz.prog 109 [.agg [I 3,I 0,.str [],.sl 4 es],I 3,I m] (m<0\/m=es.length) (.agg [I 3,I 0,.str [],.sl 4 es]):=by
 refine bm (fn:=Tryz.f109) [] [.cell 6 158] fun pre=>?_;rcases pre with h|rfl
 ·have c:¬(0:Int)<=m:=oM;repeat' first|exact zQ|with_reducible refine zJ (fun _=>?_) fun _=>?_|refine zK ?_|fail
 ·have c:(0:Int)<=(es.length:Int):=oM;repeat' first|exact zQ|with_reducible refine zJ (fun _=>?_) fun _=>?_|refine zK ?_|fail
instance(s:ah):Ct Tryz.prog 110 [.agg [I 2,I 0,.str s,.sl 4 []]] True (.str s):=by
 refine bm (fn:=Tryz.f110) [] [.tmp 2] fun pre=>?_;repeat' first|exact zQ|with_reducible refine zJ (fun _=>?_) fun _=>?_|refine zK ?_|fail
instance(l:List ah):Ct Tryz.prog 113 [.agg [I 3,I 0,.str [],.sl 4 ((l.map aQ.t).map aQ.d)],.fn (.func 110) []] (l.length<=1099511627776) (strs l):=by
 refine bm (fn:=Tryz.f113) [] [.tmp 4] fun pre=>?_;have hL:Lm l:=by simp[Lm];omega
 have c1:(-1:Int)<0:=by decide
 repeat' first|exact zQ|with_reducible refine zJ (fun _=>?_) fun _=>?_|refine zK ?_|fail
 refine bO l [(4,4),(6,6),(11,21)] [(6,6),(20,20)] (fun j τ β=>τ 11=I j/\aW β [20] 9 1 (τ 4) ((l.take j).map D.str)) hL ⟨by simp[go_sem],by simpa[go_sem]using .nil _ _ _ _⟩ (fun j y τ β hx hj hw hi=>?_) fun τ β hn hi=>?_
 ·obtain⟨h10,hv⟩:=hi;generalize hv0:τ 4=x at *;have hf:=hv.facts;have htk:(l.take j).map D.str++[D.str y]=(l.take (j+1)).map D.str:=by rw[List.take_add_one,hx];simp
  have htl:((l.take j).map D.str).length<=l.length:=by simp;omega
  replace htl:Hid _:=htl;repeat' first|exact zQ|with_reducible refine zJ (fun _=>?_) fun _=>?_|refine zK ?_|fail
  refine app [20] (hv.of fun t ht=>by simp at ht;subst ht;simp[ao,aY,cm]) (fun x' β' hv'=>?_) (by have:=htl.out;simp only[List.length_cons,List.length_nil];omega);have hf':=hv'.facts;rw[htk]at hv';clear htk;repeat' first|exact zQ|with_reducible refine zJ (fun _=>?_) fun _=>?_|refine zK ?_|fail
  exact hv'.of fun t ht=>by simp at ht;subst ht;simp[ao,aY,cm]
 ·obtain⟨h10,hv⟩:=hi;rw[List.take_length]at hv;generalize hv0:τ 4=x at *;have hf:=hv.facts;repeat' first|exact zQ|with_reducible refine zJ (fun _=>?_) fun _=>?_|refine zK ?_|fail
  exact MQ (hv.mix _) rfl
def wD(w:Word):Nat->D
 |0=> .agg [.str w.t,I 0,I 0,I 0,.nilsl]
 |1=> .agg [.str w.t,I w.f,I 0,I 0,.nilsl]
 |2=> .agg [.str w.t,I w.f,I w.u,I 0,.nilsl]
 |_=> .agg [.str w.t,I w.f,I w.u,I w.s,.nilsl]
theorem CY(w:Word):(bS w).d= .agg [I 3,I 0,.str [],.sl 4 [.agg [I 2,I 0,.str w.t,.sl 4 []],.agg [I 1,I w.f,.str [],.sl 4 []],.agg [I 1,I w.u,.str [],.sl 4 []],.agg [I 1,I w.s,.str [],.sl 4 []],.agg [I 3,I 0,.str [],.sl 4 ((w.alts.map aQ.t).map aQ.d)]]]:=by simp only[bS,jD,List.map_cons,List.map_nil,xh,Eo]
def RW(bx bx':ae)(w:Word)(d:D):Prop:=d=w.d/\∀q,q≠62->q≠63->q≠79->bx' q=bx q
set_option maxHeartbeats 2000000 in
theorem Kc(w:Word)(hl:w.alts.length<=1099511627776)(e:Nat)(bx:ae)(h:bx 10=⟨e,1,1,187,[.fn (.func 110) []]⟩):
 aU Tryz.prog 112 60 [(bS w).d,.loc 10 e 0 0] bx (fun d bx'=>RW bx bx' w d) (fun _ _=>False):=by
 rw[CY];refine aG (fn:=Tryz.f112) (tab:=[(1000019,[])]) (base:=60) mixed ?_ rfl aj rfl;refine aH _ [.cell 3 123] 43 rfl rfl rfl aj ?_;generalize hX:D.agg [I 3,I 0,.str [],.sl 4 ((w.alts.map aQ.t).map aQ.d)]=X at *;replace hX:Hid _:=hX;repeat' first|exact zQ|with_reducible refine zJ (fun _=>?_) fun _=>?_|refine zK ?_|fail
 generalize hL:[D.agg [I 2,I 0,.str w.t,.sl 4 []],D.agg [I 1,I w.f,.str [],.sl 4 []],D.agg [I 1,I w.u,.str [],.sl 4 []],D.agg [I 1,I w.s,.str [],.sl 4 []],X]=L at *;refine fresh (fun σ' B=>∃e3 e9,σ' 1= .loc 10 e 0 0/\σ' 3= .loc 63 e3 0 0/\σ' 4= .sl 4 L/\σ' 19= .osl 79 e9 1 0 3/\σ' 20=I 3/\σ' 21=I 0/\B 63=⟨e3,1,5,123,[wD w 0]⟩/\B 79=⟨e9,1,1,185,[.loc 63 e3 0 1,.loc 63 e3 0 2,.loc 63 e3 0 3]⟩/\Hid (∀q,q≠62->q≠63->q≠79->B q=bx q)) ⟨(bx 63).ep+1,(bx 79).ep+1,by simp[go_sem],by simp[go_sem],by simp[go_sem],by simp[go_sem],by simp[go_sem],by simp[go_sem],by simp[ao,wD],by simp[ao],fun q h1 h2 h3=>by simp[ao,h1,h2,h3]⟩ ?_;rintro σ B ⟨e3,e9,s1,s3,s4,s19,s20,s21,b63,b79,kr⟩;have b10:=(kr.out 10 (by decide) (by decide) (by decide)).trans h;subst hL;refine iN [(5,6),(21,35)] [(63,63)] 3 (fun k τ β=>τ 21=I k/\β 63=⟨e3,1,5,123,[wD w k]⟩) ⟨s21,b63⟩ (fun k τ β hk hi=>?_) fun τ β hi=>?_
 ·obtain⟨h21,h63⟩:=hi;have hk3:k=0\/k=1\/k=2:=oM;have z1:((0:Int)+1).toNat=1:=rfl;have z2:((1:Int)+1).toNat=2:=rfl;have z3:((2:Int)+1).toNat=3:=rfl;have y1:(1:Int).toNat=1:=rfl;have y2:(2:Int).toNat=2:=rfl;have x1:((1:Nat):Int)=1:=rfl;have x2:((2:Nat):Int)=2:=rfl;have x3:((3:Nat):Int)=3:=rfl;have v1:(0:Int)+1=1:=rfl;have v2:(1:Int)+1=2:=rfl;have v3:(2:Int)+1=3:=rfl;rcases hk3 with rfl|rfl|rfl;all_goals
   simp only[wD]at h63⊢;repeat' first|exact zQ|with_reducible refine zJ (fun _=>?_) fun _=>?_|refine zK ?_|fail
 ·obtain⟨h21,h63⟩:=hi;simp only[wD]at h63;have hx:=hX.out;subst hx;have x3:¬((3:Nat):Int)<3:=by decide
  repeat' first|exact zQ|with_reducible refine zJ (fun _=>?_) fun _=>?_|refine zK ?_|fail
  refine⟨rfl,fun q h1 h2 h3=>?_⟩;rw[aA h2,aA h2];exact(cd.jt q (by simp[cm];omega)).trans (kr.out q h1 h2 h3)
def EW(bx bx':ae)(l:List Word)(d:D):Prop:=aW bx' [140] 123 5 d (l.map Word.d)/\∀q,q<60->bx' q=bx q
theorem vM{q t:Nat}(h:cm [(60,1000)] q=false)(h1:60<=t/\t<=1000:=by decide):q≠t:=by simp[cm]at h;omega
set_option maxHeartbeats 1000000 in
theorem JA(l:List Word)(hl:l.length<=1099511627776)(hla:∀w∈l,w.alts.length<=1099511627776)(e:Nat)(bx:ae)(h:bx 10=⟨e,1,1,187,[.fn (.func 110) []]⟩):
 aU Tryz.prog 111 120 [.agg [I 3,I 0,.str [],.sl 4 ((l.map bS).map aQ.d)],.fn (.func 112) [.loc 10 e 0 0]] bx (fun d bx'=>EW bx bx' l d) (fun _ _=>False):=by
 refine aG (fn:=Tryz.f111) (tab:=[]) (base:=120) mixed ?_ rfl aj rfl;refine aH _ [.tmp 4] 23 rfl rfl rfl aj ?_;have hL:Lm l:=by simp[Lm];omega
 have c1:(-1:Int)<0:=by decide
 repeat' first|exact zQ|with_reducible refine zJ (fun _=>?_) fun _=>?_|refine zK ?_|fail
 refine fresh (fun σ' B=>σ' 1= .fn (.func 112) [.loc 10 e 0 0]/\σ' 4= .nilsl/\σ' 9= .sl 4 ((l.map bS).map aQ.d)/\σ' 10=I l.length/\σ' 11=I 0/\Hid (∀q,q<60->B q=bx q)) ⟨by simp[go_sem],by simp[go_sem],by simp[go_sem],by simp[go_sem],by simp[go_sem],fun q hq=>aA oM⟩ ?_;rintro σ B ⟨s1,s4,s9,s10,s11,kr⟩;have b10:=(kr.out 10 (by decide)).trans h;refine bO l [(4,4),(6,6),(11,21)] [(60,1000)] (fun j τ β=>τ 11=I j/\aW β [140] 123 5 (τ 4) ((l.take j).map Word.d)) hL ⟨s11,by rw[s4];exact .nil _ _ _ _⟩ (fun j y τ β hx hj hw hi=>?_) fun τ β hn hi=>?_
 ·obtain⟨h10,hv⟩:=hi;generalize hv0:τ 4=x at *;have hf:=hv.facts;have htk:(l.take j).map Word.d++[y.d]=(l.take (j+1)).map Word.d:=by rw[List.take_add_one,hx];simp
  have htl:((l.take j).map Word.d).length<=l.length:=by simp;omega
  replace htl:Hid _:=htl;have hy:=hla y (List.mem_of_getElem? hx);have k10:aY [(60,1000)] β B 10=⟨e,1,1,187,[.fn (.func 110) []]⟩:=(cd.jt 10 rfl).trans b10;repeat' first|exact zQ|with_reducible refine zJ (fun _=>?_) fun _=>?_|refine zK ?_|fail
  refine aB (Kc y hy e _ ((aA (by decide)).trans ((aA (by decide)).trans k10))) rfl fun d bx1 hq=>?_;obtain⟨rfl,q2⟩:=hq;have hv1:aW bx1 [140] 123 5 x ((l.take j).map Word.d):=hv.of fun t ht=>by
   simp at ht;subst ht;rw[q2 140 (by decide) (by decide) (by decide),aA (by decide),aA (by decide)];rfl
  have kb:cd [(60,1000)] bx1 B:=fun q hq=>(q2 q (vM hq) (vM hq) (vM hq)).trans ((aA (vM hq)).trans ((aA (vM hq)).trans (cd.jt q hq)));clear q2 hv k10;repeat' first|exact zQ|with_reducible refine zJ (fun _=>?_) fun _=>?_|refine zK ?_|fail
  refine app [140] hv1 (fun x' β' hv'=>?_) (by have:=htl.out;simp only[List.length_cons,List.length_nil];omega);have hf':=hv'.facts;rw[htk]at hv';have kc:cd [(60,1000)] (aY (kU [140]) β' bx1) B:=fun q hq=>(cd.jt q (by simp[cm,kU]at *;omega)).trans (kb q hq);clear htk kb;repeat' first|exact zQ|with_reducible refine zJ (fun _=>?_) fun _=>?_|refine zK ?_|fail
  exact hv'.mix _
 ·obtain⟨h10,hv⟩:=hi;rw[List.take_length]at hv;generalize hv0:τ 4=x at *;have hf:=hv.facts;repeat' first|exact zQ|with_reducible refine zJ (fun _=>?_) fun _=>?_|refine zK ?_|fail
  exact⟨hv.mix _,fun q hq=>(cd.jt q (by simp[cm];omega)).trans (kr.out q hq)⟩
end Go.V.Jn
