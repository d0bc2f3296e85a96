/- Lemmas on plain data and programs: part B45. -/
import Derived.Test.YtkknfajchefgaaaGreatDoorB44
set_option linter.all false
set_option maxHeartbeats 8000000
set_option maxRecDepth 100000
namespace Go.V.Rp
open Go.Proofs Go.Proofs.Tryz Go.RowKit Go.V.Lx Go.V.Gr Go.V.Ty Go.V.St
def DS(m t e:Nat)(hm:m<=1099511627776)(bx:ab):az prog 119 350 [.ba t e 14 0 (m+1)] bx (fun d bx'=>d= .loc t e m 0/\bx'=bx) fun _ _=>False:=by
 refine fB 8 350 f119 [] [.tmp 2] ?_;have w:IntKind.i64.wrap (((m+1:Nat):Int) - 1)=(m:Int):=avz
 have h0:(m:Int)<((m+1:Nat):Int):=oM;exact zE
def acm(m t e:Nat)(hm:m<=1099511627776)(bx:ab):az prog 127 350 [.ba t e 8 0 (m+1)] bx (fun d bx'=>d= .loc t e m 0/\bx'=bx) fun _ _=>False:=by
 refine fB 8 350 f127 [] [.tmp 2] ?_;have w:IntKind.i64.wrap (((m+1:Nat):Int) - 1)=(m:Int):=avz
 have h0:(m:Int)<((m+1:Nat):Int):=oM;exact zE
@[go_sem] def apD(es:List D)(d:D):(es++[d])[es.length]? =some d:=sI
@[go_sem] def ap0(es:List D)(d d':D):(es++[d]).set es.length d'=es++[d']:=sI
def H5(f:FuncId)(iq:List ae->Option (Item×List ae)):Prop:=∀(e ef:Nat) (B:ab) (x:Rec) (w:ae) (n:NL) (fs:List ae),BT B e x w n->j8 B ef fs->ou fs->kh x<=1099511627->VL B n.v x.s.aC->x.s.heard=[]->
 az prog f 200 [.loc 1005 e 0 0,.loc 112 ef 0 0] B (fun d B'=>∃i m n',iq fs=some (i,m)/\d= .aL []/\BT B' e (ins x i) w n'/\VL B' n'.v (ins x i).s.aC/\T9 B' ef m/\rY B' B) (fun d B'=>iq fs=none/\d=nZ/\rY B' B)
theorem VH.nil{bx:ab}{v e:D}{vs:List aV}(h:VH bx v vs e []):e= .ak/\(bx 241).k≠1:=by
 rcases h with⟨h,h1,h2,h3⟩|⟨h,h1⟩
 ·exact awN
 ·obtain⟨_,_,l0,x,_,h2,_⟩:=h1;simp at h2
def Bl{x:Rec}{l0:List aV}{w:aV}(h:x.s.aC=l0++[w]):l0.length+eU w<=kh x:=by
 unfold kh items;have:=wS x.s.aC
 exact awN
def LW{B B2 β:ab}{k:Nat}{v:Bx}(h:fl B2 B)(hk:206<=k/\k<=253):(∀q,206<=q->q<=260->q≠k->q≠254->ah (an [(k,k)] β B2) 254 v q=B q)/\rY (ah (an [(k,k)] β B2) 254 v) B/\ah (an [(k,k)] β B2) 254 v 1005=B 1005:=by
 have key:∀q,q≠254->q≠k->q≠112->(q<300\/1000<=q)->ah (an [(k,k)] β B2) 254 v q=B q:=fun q h1 h2 h3 h4=>by
  rw[al h1];exact(show an [(k,k)] β B2 q=B2 q by simp[an,aZ];omega).trans (h q h3 h4)
 exact⟨fun q h1 h2 h3 h4=>key q h4 h3 oM oM,fun q h1 h2 h3=>key q oM oM h2 oM,key 1005 awL oM awL awL⟩
theorem AY{B2 β:ab}{k el esz:Nat}{v:Bx}{x:D}{xs:List D}(h:aP β [k] el esz x xs)(hk:k≠254:=by decide):aP (ah (an [(k,k)] β B2) 254 v) [k] el esz x xs:=h.of fun t ht=>avw
def tW:List Int->Option Item
 |[a,b,c]=>some (.gn ⟨a,b,c⟩)
 |_=>none
def Vb:H5 118 (cx 3 tW):=by
 intro e ef B x w n fs hR hF hO hz hV hh;show az _ _ _ _ _ _ _;refine fB 36 200 f118 [(1,[(16,5)])] [] ?_;obtain⟨e1,es,l0,w0,gg,kk,ss,bb,jX,hv,hb,hw,hp,o1,o2,o3,o4⟩:=hV;have gA:=hR.v;rw[hh]at gA;replace gA:=gA.nil;have tF:=Bl jX;have mG:=hw.len;rw[aa0]at mG;have zo:es.length<=1099511627776:=oM;clear mG;obtain⟨u1,u2,u3,u4,u5,u6,u7,u8,u9⟩:=hR.nX;unfold jk at *;have f1:=o1.facts;have f2:=o2.facts;have f3:=o3.facts;have f4:=o4.facts;have hB:=hR.b;have cq:n.v= .ba 254 e1 14 0 (es.length+1):=awN
 replace hR:Hid _:=hR;replace hv:Hid _:=hv;replace jX:Hid _:=jX;replace gA:Hid _:=gA;refine zW ?_;intros;refine ao (DS es.length 254 e1 zo B) rfl fun d B1 hq=>?_;obtain⟨rfl,rfl⟩:=hq;refine zW ?_;intros;refine kr 3 hF hO (fun ns B2 h1 p3 hN=>?_) fun B2 h1 hN=>?_
 ·have hl:=iv h1;have hi:=jJ h1;obtain⟨a,b,c,rfl⟩:∃a b c,ns=[a,b,c]:=by
   match ns,hl with
   |[a,b,c],_=>grind
  simp only[aaQ,abe,aeV,aeG,afu]at hi;have Nh:=(hN 254 awL awL).trans hb;have bS:cx 3 tW fs=some (.gn ⟨a,b,c⟩,fs.drop 3):=auY
  have iH:=o1.of (bx':=B2) fun t ht=>hN t awN awN;have bz:w0.bq.gs.length<=eU w0:=avD
  replace hN:Hid _:=hN;replace hB:Hid _:=hB;clear h1 hl hF hO;refine zW ?_;intros;refine app [232] iH (fun x' β vT=>?_) awN;have hf:=vT.facts;refine zW ?_;intros;obtain⟨k1,k2,k3⟩:=LW (B:=B1) (B2:=B2) hN.out (k:=232) (β:=β) (v:=⟨e1,1,14,62,es++[.agg (rV w0 x' kk ss bb)]⟩) awL;have hR:=hR.out;have oK:VL (ah (an [(232,232)] β B2) 254 ⟨e1,1,14,62,es++[.agg (rV w0 x' kk ss bb)]⟩) n.v (ins x (.gn ⟨a,b,c⟩)).s.aC:=by
   show VL _ _ (ft _ x.s.aC);rw[jX.out,dL,hv.out];refine⟨e1,es,l0,_,x',kk,ss,bb,rfl,sI,aY _ _ _,hw,hp,?_,o2.of fun t ht=>k1 t awN awN awN awN,o3.of fun t ht=>k1 t awN awN awN awN,o4.of fun t ht=>k1 t awN awN awN awN⟩
   grind [AY]
  refine⟨_,_,n,rfl,⟨k3.trans hB.out,(hR.l.of fun q hq=>k1 q ?_ ?_ ?_ ?_).v _ _ _ _,.inl ⟨.inr oK,gA.out.1,hh,?_⟩⟩,oK,.inl p3,k2⟩
  ·exact avt
  ·exact avt
  ·exact avt
  ·exact avt
  ·exact aqU
 ·have bS:cx 3 tW fs=none:=auY
  replace hN:Hid _:=hN;refine zW ?_;exact auK
def xq:List Int->Option Item
 |[a,b,c]=>some (.jw ⟨a,b,c - 4096⟩)
 |_=>none
def Zl:H5 120 (cx 3 xq):=by
 intro e ef B x w n fs hR hF hO hz hV hh;show az _ _ _ _ _ _ _;refine fB 37 200 f120 [(1,[(17,5)])] [] ?_;obtain⟨e1,es,l0,w0,gg,kk,ss,bb,jX,hv,hb,hw,hp,o1,o2,o3,o4⟩:=hV;have gA:=hR.v;rw[hh]at gA;replace gA:=gA.nil;have tF:=Bl jX;have mG:=hw.len;rw[aa0]at mG;have zo:es.length<=1099511627776:=oM;clear mG;obtain⟨u1,u2,u3,u4,u5,u6,u7,u8,u9⟩:=hR.nX;unfold jk at *;have f1:=o1.facts;have f2:=o2.facts;have f3:=o3.facts;have f4:=o4.facts;have hB:=hR.b;have cq:n.v= .ba 254 e1 14 0 (es.length+1):=awN
 replace hR:Hid _:=hR;replace hv:Hid _:=hv;replace jX:Hid _:=jX;replace gA:Hid _:=gA;refine zW ?_;intros;refine ao (DS es.length 254 e1 zo B) rfl fun d B1 hq=>?_;obtain⟨rfl,rfl⟩:=hq;refine zW ?_;intros;refine kr 3 hF hO (fun ns B2 h1 p3 hN=>?_) fun B2 h1 hN=>?_
 ·have hl:=iv h1;have hi:=jJ h1;obtain⟨a,b,c,rfl⟩:∃a b c,ns=[a,b,c]:=by
   match ns,hl with
   |[a,b,c],_=>grind
  simp only[aaQ,abe,aeV,aeG,afu]at hi;have Nh:=(hN 254 awL awL).trans hb;have bS:cx 3 xq fs=some (.jw ⟨a,b,c - 4096⟩,fs.drop 3):=auY
  have iH:=o2.of (bx':=B2) fun t ht=>hN t awN awN;have bz:w0.bq.ks.length<=eU w0:=avD
  replace hN:Hid _:=hN;replace hB:Hid _:=hB;clear h1 hl hF hO;refine zW ?_;intros;refine app [233] iH (fun x' β vT=>?_) awN;have hf:=vT.facts;refine zW ?_;intros;obtain⟨k1,k2,k3⟩:=LW (B:=B1) (B2:=B2) hN.out (k:=233) (β:=β) (v:=⟨e1,1,14,62,es++[.agg (rV w0 gg x' ss bb)]⟩) awL;have hR:=hR.out;have oK:VL (ah (an [(233,233)] β B2) 254 ⟨e1,1,14,62,es++[.agg (rV w0 gg x' ss bb)]⟩) n.v (ins x (.jw ⟨a,b,c - 4096⟩)).s.aC:=by
   show VL _ _ (ft _ x.s.aC);rw[jX.out,dL,hv.out];refine⟨e1,es,l0,_,gg,x',ss,bb,rfl,sI,aY _ _ _,hw,hp,o1.of fun t ht=>k1 t awN awN awN awN,?_,o3.of fun t ht=>k1 t awN awN awN awN,o4.of fun t ht=>k1 t awN awN awN awN⟩
   grind [AY]
  refine⟨_,_,n,rfl,⟨k3.trans hB.out,(hR.l.of fun q hq=>k1 q ?_ ?_ ?_ ?_).v _ _ _ _,.inl ⟨.inr oK,gA.out.1,hh,?_⟩⟩,oK,.inl p3,k2⟩
  ·exact avt
  ·exact avt
  ·exact avt
  ·exact avt
  ·exact aqU
 ·have bS:cx 3 xq fs=none:=auY
  replace hN:Hid _:=hN;refine zW ?_;exact auK
def tV:List Int->Option Item
 |[a,b,c,d]=>some (.block ⟨a,b,c,d⟩)
 |_=>none
def Un:H5 123 (cx 4 tV):=by
 intro e ef B x w n fs hR hF hO hz hV hh;show az _ _ _ _ _ _ _;refine fB 39 200 f123 [(1,[(19,5)])] [] ?_;obtain⟨e1,es,l0,w0,gg,kk,ss,bb,jX,hv,hb,hw,hp,o1,o2,o3,o4⟩:=hV;have gA:=hR.v;rw[hh]at gA;replace gA:=gA.nil;have tF:=Bl jX;have mG:=hw.len;rw[aa0]at mG;have zo:es.length<=1099511627776:=oM;clear mG;obtain⟨u1,u2,u3,u4,u5,u6,u7,u8,u9⟩:=hR.nX;unfold jk at *;have f1:=o1.facts;have f2:=o2.facts;have f3:=o3.facts;have f4:=o4.facts;have hB:=hR.b;have cq:n.v= .ba 254 e1 14 0 (es.length+1):=awN
 replace hR:Hid _:=hR;replace hv:Hid _:=hv;replace jX:Hid _:=jX;replace gA:Hid _:=gA;refine zW ?_;intros;refine ao (DS es.length 254 e1 zo B) rfl fun d B1 hq=>?_;obtain⟨rfl,rfl⟩:=hq;refine zW ?_;intros;refine kr 4 hF hO (fun ns B2 h1 p3 hN=>?_) fun B2 h1 hN=>?_
 ·have hl:=iv h1;have hi:=jJ h1;obtain⟨a,b,c,d,rfl⟩:∃a b c d,ns=[a,b,c,d]:=by
   match ns,hl with
   |[a,b,c,d],_=>grind
  simp only[aaQ,abe,aeV,aeG,afu]at hi;have Nh:=(hN 254 awL awL).trans hb;have bS:cx 4 tV fs=some (.block ⟨a,b,c,d⟩,fs.drop 4):=auY
  have iH:=o4.of (bx':=B2) fun t ht=>hN t awN awN;have bz:w0.br.bl.length<=eU w0:=avD
  replace hN:Hid _:=hN;replace hB:Hid _:=hB;clear h1 hl hF hO;refine zW ?_;intros;refine app [235] iH (fun x' β vT=>?_) awN;have hf:=vT.facts;refine zW ?_;intros;obtain⟨k1,k2,k3⟩:=LW (B:=B1) (B2:=B2) hN.out (k:=235) (β:=β) (v:=⟨e1,1,14,62,es++[.agg (rV w0 gg kk ss x')]⟩) awL;have hR:=hR.out;have oK:VL (ah (an [(235,235)] β B2) 254 ⟨e1,1,14,62,es++[.agg (rV w0 gg kk ss x')]⟩) n.v (ins x (.block ⟨a,b,c,d⟩)).s.aC:=by
   show VL _ _ (ft _ x.s.aC);rw[jX.out,dL,hv.out];refine⟨e1,es,l0,_,gg,kk,ss,x',rfl,sI,aY _ _ _,hw,hp,o1.of fun t ht=>k1 t awN awN awN awN,o2.of fun t ht=>k1 t awN awN awN awN,o3.of fun t ht=>k1 t awN awN awN awN,?_⟩
   grind [AY]
  refine⟨_,_,n,rfl,⟨k3.trans hB.out,(hR.l.of fun q hq=>k1 q ?_ ?_ ?_ ?_).v _ _ _ _,.inl ⟨.inr oK,gA.out.1,hh,?_⟩⟩,oK,.inl p3,k2⟩
  ·exact avt
  ·exact avt
  ·exact avt
  ·exact avt
  ·exact aqU
 ·have bS:cx 4 tV fs=none:=auY
  replace hN:Hid _:=hN;refine zW ?_;exact auK
def W_(m:List ae)(s:ae):Option (Item×List ae):=(ea m.length m).map fun c=>(.sign ⟨s,c⟩,[])
def HB(m:List ae)(l:List Int):Option (Item×List ae):=(nI l).bind (W_ m)
def sgA(k:Int)(m:List ae):Option (Item×List ae):=(ea k.toNat m).bind (HB (m.drop k.toNat))
def iX(fs:List ae):Option (Item×List ae):=(nW fs).bind fun p=>sgA p.1 p.2
theorem Rl{l m:List ae}{v:Int}(h:nW l=some (v,m)):0<=v/\v<=1099511627776:=by
 cases l with
 |nil=>cases h
 |cons f l=>
  simp only[nW]at h;cases hx:dA f with
  |none=>grind
  |some u=>
   rw[hx]at h;simp at h;unfold dA at hx;obtain⟨rfl,_⟩:=h;revert hx;cases Lib.atoiAll f<;>simp;intro h1 h2 h3;subst h3;exact h1
def Z2:H5 121 iX:=by
 intro e ef B x w n fs hR hF hO hz hV hh;show az _ _ _ _ _ _ _;refine fB 43 200 f121 [(2000003,[]),(3,[(14,6),(14,4)])] [] ?_;obtain⟨e1,es,l0,w0,gg,kk,ss,bb,jX,hv,hb,hw,hp,o1,o2,o3,o4⟩:=hV;have gA:=hR.v;rw[hh]at gA;replace gA:=gA.nil;have tF:=Bl jX;have mG:=hw.len;rw[aa0]at mG;have zo:es.length<=1099511627776:=oM;clear mG;obtain⟨u1,u2,u3,u4,u5,u6,u7,u8,u9⟩:=hR.nX;unfold jk at *;have f1:=o1.facts;have f2:=o2.facts;have f3:=o3.facts;have f4:=o4.facts;have hB:=hR.b;have cq:n.v= .ba 254 e1 14 0 (es.length+1):=awN
 replace hR:Hid _:=hR;replace hv:Hid _:=hv;replace jX:Hid _:=jX;replace gA:Hid _:=gA;refine zW ?_;intros;refine ao (DS es.length 254 e1 zo B) rfl fun d B1 hq=>?_;obtain⟨rfl,rfl⟩:=hq;refine zW ?_;intros;refine aaA hF hO (fun v m B2 h1 p2 hN=>?_) fun B2 h1 hN=>?_
 rotate_left
 ·have bS:iX fs=none:=by unfold iX;rw[h1];rfl
  replace hN:Hid _:=hN;refine zW ?_;exact auK
 have hm:=hO.num h1;have hi:=Rl h1;obtain⟨k,rfl⟩:∃k:Nat,v=k:=⟨v.toNat,oM⟩
 have hC:iX fs=(ea k m).bind (HB (m.drop k)):=by unfold iX;rw[h1];rfl
 replace hN:Hid _:=hN;replace hC:Hid _:=hC;clear h1 hF hO;refine zW ?_;intros;refine kr k p2 hm (fun ns B3 h1 p3 fA=>?_) fun B3 h1 fA=>?_
 rotate_left
 ·have bS:iX fs=none:=by rw[hC.out,h1];rfl
  replace fA:Hid _:=fA.trans hN.out;clear hN;refine zW ?_;intros;exact fl.nv fA.out
 have vR:=hm.1;replace hm:=hm.drop k;replace hC:Hid _:=(by rw[hC.out,h1];rfl:iX fs=HB (m.drop k) ns)
 replace fA:Hid _:=fA.trans hN.out;have hl:=iv h1;have hlm:Lm ns:=awN
 generalize m.drop k=m2 at *;generalize hT:nI ns=T at *;clear hN p2 h1;cases T with
 |none=>
  have hE:HR ns≠0:=fun h=>by grind [Jh]
  have bS:iX fs=none:=by rw[hC.out];grind [HB]
  repeat' first|exact zQ|with_reducible apply zJ<;>intro _|((with_reducible refine dU ?_ (fun _=>?_) fun _=>?_);exact pr)|refine zK ?_|fail
  ·exact awN
  ·exact fl.nv fA.out
 |some s=>
  have hE:HR ns=0:=(Jh ns).2 ⟨s,hT⟩;replace hC:Hid _:=(by rw[hC.out];grind [HB]:iX fs=W_ m2 s)
  have zl:=(fA.out 254 awL awL).trans hb;have Nj:B3 112=⟨ef,1,1,188,[.agg [.sl 1 (m2.map D.str)]]⟩:=p3;repeat' first|exact zQ|with_reducible apply zJ<;>intro _|((with_reducible refine dU ?_ (fun _=>?_) fun _=>?_);exact pr)|refine zK ?_|fail
  rotate_left
  ·exact awN
  refine gU (.aD 0 (.aD 1 (.aD 2 (.aD 3 (.aD 5 (.aD 6 (.aD 7 (.aD 8 (.aD 9 (.load 4 54 (.both 10 [54] (.both 11 [54] (.both 12 [54] (.aD 13 (.both 14 [54] (.both 15 [] (.aD 16 (.aD 17 (.both 18 [] .fin .stop))) .stop) .stop)) .stop) .stop) .stop))))))))))) ar ?_;refine zW ?_;intros;refine kr m2.length p3 hm (fun c B4 h1 p4 sC=>?_) fun B4 h1 sC=>?_
  rotate_left
  ·have bS:iX fs=none:=by rw[hC.out];grind [W_]
   replace sC:Hid _:=sC.trans fA.out;clear fA;repeat' first|exact zQ|with_reducible apply zJ<;>intro _|((with_reducible refine dU ?_ (fun _=>?_) fun _=>?_);exact pr)|refine zK ?_|fail
   exact fun _=>fl.nv sC.out
  have hb4:=(sC 254 awL awL).trans zl;replace sC:Hid _:=sC.trans fA.out;have bS:iX fs=some (.sign ⟨s,c⟩,[]):=by rw[hC.out];grind [W_]
  have iH:=o3.of (bx':=B4) fun t ht=>sC.out t awN awN;have bz:w0.cz.length<=eU w0:=avD
  replace p4:j8 B4 ef []:=awN
  replace hB:Hid _:=hB;clear fA hC h1 hb Nj p3;refine zW ?_;intros;refine app [240] iH (fun x' β vT=>?_) awN;have hf:=vT.facts;refine zW ?_;intros;obtain⟨k1,k2,k3⟩:=LW (B:=B1) (B2:=B4) sC.out (k:=240) (β:=β) (v:=⟨e1,1,14,62,es++[.agg (rV w0 gg kk x' bb)]⟩) awL;have hR:=hR.out;have oK:VL (ah (an [(240,240)] β B4) 254 ⟨e1,1,14,62,es++[.agg (rV w0 gg kk x' bb)]⟩) n.v (ins x (.sign ⟨s,c⟩)).s.aC:=by
   show VL _ _ (ft _ x.s.aC);rw[jX.out,dL,hv.out];refine⟨e1,es,l0,_,gg,kk,x',bb,rfl,sI,aY _ _ _,hw,hp,o1.of fun t ht=>k1 t awN awN awN awN,o2.of fun t ht=>k1 t awN awN awN awN,?_,o4.of fun t ht=>k1 t awN awN awN awN⟩
   grind [AY]
  refine⟨_,_,n,rfl,⟨k3.trans hB.out,(hR.l.of fun q hq=>k1 q ?_ ?_ ?_ ?_).v _ _ _ _,.inl ⟨.inr oK,gA.out.1,hh,?_⟩⟩,oK,.inl p4,k2⟩
  ·exact avt
  ·exact avt
  ·exact avt
  ·exact avt
  ·exact aqU
def wdA(m:List ae):List Int->Option (Item×List ae)
 |[a,b,c]=>EI (fun x l=> .word ⟨x,a,b,c,l⟩) m
 |_=>none
def iY(fs:List ae):Option (Item×List ae):=(ea 3 fs).bind (wdA (fs.drop 3))
def Z9{x:Rec}{l0:List bL}{w:bL}(h:x.s.heard=l0++[w]):l0.length+w.words.length<=kh x:=by
 unfold kh items;have:=wR x.s.heard
 exact awN
theorem VH.some{bx:ab}{v e:D}{vs:List aV}{hs:List bL}(h:VH bx v vs e hs)(hn:hs≠[]):VP bx v vs/\HL bx e hs:=by rcases h with⟨_,_,h,_⟩|h<;>grind
def aic{B B2 β:ab}{v:Bx}(h:fl B2 B):(∀q,206<=q->q<=260->q≠240->q≠241->ah (an [(240,240)] β B2) 241 v q=B q)/\rY (ah (an [(240,240)] β B2) 241 v) B/\ah (an [(240,240)] β B2) 241 v 1005=B 1005:=by
 have key:∀q,q≠241->q≠240->q≠112->(q<300\/1000<=q)->ah (an [(240,240)] β B2) 241 v q=B q:=fun q h1 h2 h3 h4=>by
  rw[al h1];exact(show an [(240,240)] β B2 q=B2 q by simp[an,aZ];omega).trans (h q h3 h4)
 exact⟨fun q h1 h2 h3 h4=>key q h4 h3 oM oM,fun q h1 h2 h3=>key q oM oM h2 oM,key 1005 awL awL awL awL⟩
def aap:wL 126 iY fun x=>x.s.heard≠[]:=by
 intro e ef B x w n fs hR hF hO hz hh;show az _ _ _ _ _ _ _;refine fB 43 200 f126 [(2000000,[]),(2000001,[]),(1,[(21,10),(18,10),(15,10),(12,10),(21,6),(18,6),(15,6),(12,6),(8,6),(21,4)])] [] ?_;obtain⟨Q0,e1,es,l0,h0,ww,jX,hv,hb,hw,hp,o1⟩:=hR.v.some hh;have tF:=Z9 jX;have mG:=hw.len;rw[aa0]at mG;have zo:es.length<=1099511627776:=oM;clear mG;obtain⟨u1,u2,u3,u4,u5,u6,u7,u8,u9⟩:=hR.nX;unfold jk at *;have f1:=o1.facts;have hB:=hR.b;have cq:n.e= .ba 241 e1 8 0 (es.length+1):=awN
 replace hR:Hid _:=hR;replace hv:Hid _:=hv;replace jX:Hid _:=jX;replace Q0:Hid _:=Q0;refine gU (.aD 0 (.aD 1 (.aD 2 (.aD 3 (.aD 4 (.aD 10 (.load 5 805 (.both 6 [] (.aD 7 (.aD 8 (.aD 9 (.both 11 [] (.aD 12 (.aD 13 .fin)) .stop)))) .stop)))))))) ar ?_;refine zW ?_;intros;refine ao (acm es.length 241 e1 zo B) rfl fun d B1 hq=>?_;obtain⟨rfl,rfl⟩:=hq;refine zW ?_;intros;refine kr 3 hF hO (fun ns B2 h1 p2 hN=>?_) fun B2 h1 hN=>?_
 rotate_left
 ·have bS:iY fs=none:=by unfold iY;rw[h1];rfl
  replace hN:Hid _:=hN;repeat' first|exact zQ|with_reducible apply zJ<;>intro _|((with_reducible refine dU ?_ (fun _=>?_) fun _=>?_);exact pr)|refine zK ?_|fail
  exact fun _=>fl.nv hN.out
 have hl:=iv h1;have hi:=jJ h1;obtain⟨a,b,c,rfl⟩:∃a b c,ns=[a,b,c]:=by
  match ns,hl with
  |[a,b,c],_=>grind
 simp only[aaQ,abe,aeV,aeG,afu]at hi;have hm:=hO.drop 3;have hC:iY fs=EI (fun x l=> .word ⟨x,a,b,c,l⟩) (fs.drop 3):=by unfold iY;rw[h1];rfl
 have oe:=(hN 241 awL awL).trans hb;generalize fs.drop 3=m at *;replace hN:Hid _:=hN;replace hC:Hid _:=hC;clear h1 hF hO hl;refine zW ?_;intros;refine gU (.aD 0 (.aD 1 (.aD 2 (.aD 3 (.aD 5 (.aD 6 (.aD 8 (.aD 9 (.aD 11 (.aD 12 (.aD 14 (.aD 18 (.load 4 41 (.load 7 41 (.load 10 41 (.load 13 41 (.both 15 [41] (.aD 16 (.load 17 41 (.both 19 [41] (.aD 20 (.both 21 [41] (.both 22 [] (.aD 23 (.aD 24 (.both 25 [] .fin .stop))) .stop) .stop)) .stop))) .stop))))))))))))))))) ar ?_;refine zW ?_;intros;refine yW 1 p2 hm (fun w1 B3 h2 p3 fA=>?_) fun B3 h2 fA=>?_
 rotate_left
 ·have bS:iY fs=none:=by
   rw[hC.out];unfold EI
   exact awN
  replace fA:Hid _:=fA.trans hN.out;clear hN;repeat' first|exact zQ|with_reducible apply zJ<;>intro _|((with_reducible refine dU ?_ (fun _=>?_) fun _=>?_);exact pr)|refine zK ?_|fail
  exact fun _=>fl.nv fA.out
 have zl:=(fA 241 awL awL).trans oe;obtain⟨s,m,rfl⟩:∃s m',m=s::m':=by
  cases m with
  |nil=>cases h2
  |cons y m=>grind
 obtain rfl:=Pb h2;replace hC:Hid _:=(by rw[hC.out,EI,h2];rfl:iY fs=(eD m.length m).map fun tg=>(.word ⟨s,a,b,c,tg⟩,[]))
 replace hm:=hm.tail;replace p3:j8 B3 ef m:=p3;replace fA:Hid _:=fA.trans hN.out;clear hN p2 h2;refine zW ?_;intros;refine Mo p3 hm (fun tg B4 h3 p4 sC=>?_) fun B4 h3 sC=>?_
 rotate_left
 ·have bS:iY fs=none:=avp
  replace sC:Hid _:=sC.trans fA.out;clear fA;repeat' first|exact zQ|with_reducible apply zJ<;>intro _|((with_reducible refine dU ?_ (fun _=>?_) fun _=>?_);exact pr)|refine zK ?_|fail
  exact fun _=>fl.nv sC.out
 have hb4:=(sC 241 awL awL).trans zl;replace sC:Hid _:=sC.trans fA.out;have bS:iY fs=some (.word ⟨s,a,b,c,tg⟩,[]):=avp
 have iH:=o1.of (bx':=B4) fun t ht=>sC.out t awN awN;have bz:h0.words.length<=kh x:=oM;replace hB:Hid _:=hB;clear fA hC h3 hb p3;refine zW ?_;intros;refine app [240] iH (fun x' β vT=>?_) awN;have hf:=vT.facts;refine zW ?_;intros;obtain⟨k1,k2,k3⟩:=aic (B:=B1) (B2:=B4) sC.out (β:=β) (v:=⟨e1,1,8,69,es++[.agg (Eo h0 x')]⟩);have hR:=hR.out;have oK:HL (ah (an [(240,240)] β B4) 241 ⟨e1,1,8,69,es++[.agg (Eo h0 x')]⟩) n.e (ins x (.word ⟨s,a,b,c,tg⟩)).s.heard:=by
  show HL _ _ (ft _ x.s.heard);rw[jX.out,dL,hv.out];refine⟨e1,es,l0,_,x',rfl,sI,aY _ _ _,hw,hp,?_⟩;rw[aeI];exact vT.of fun t ht=>by grind [al,an,aZ]
 refine⟨_,_,n,rfl,⟨k3.trans hB.out,(hR.l.of fun q hq=>k1 q ?_ ?_ ?_ ?_).v _ _ _ _,.inr ⟨pY.of Q0.out (k1 254 awL awL awL awL),oK⟩⟩,.inl p4,k2⟩
 ·exact avt
 ·exact avt
 ·exact avt
 ·exact avt
theorem lS{s:ae}(h:fr s=true):small s:=by
 unfold fr at h;rw[aas]at h;have h:=h.1;unfold small;cases s with
 |nil=>simp
 |cons c s=>
  unfold iP at h
  exact awN
theorem vk:small []:=by unfold small;simp
def agz{g:aA}(hw:wf g)(hz:Sz g):ov g:=by
 obtain⟨h1,h2,h3,h4,h5,h6⟩:=hw;refine⟨lS h1,lS h3,hz.aB,hz.dw,hz.yL,fun s hs=>lS (aaI.1 h2 s hs),fun x hx=>?_,fun x hx=>?_⟩
 ·obtain⟨a1,a2,a3,a4,a5⟩:=h5 x hx;exact⟨lS a1,lS a2,hz.JR x hx,fun s hs=>lS (aaI.1 a5 s hs)⟩
 ·obtain⟨a1,a2,a3,a4,a5,a6⟩:=h6 x hx;refine⟨lS a1,(hz.Hw x hx).1,(hz.Hw x hx).2,fun y hy=>?_,fun y hy=>?_⟩
  ·rcases(a4 y hy).2 with⟨b1,b2⟩|⟨b1,b2⟩
   ·exact⟨by grind [vk],lS b2⟩
   ·exact⟨lS b2,by grind [vk]⟩
  ·rcases a6 y hy with b|⟨_,b⟩<;>grind [vk,lS]
def Oi{s:ae}{g:aA}{a:Int}(h:cF s=(g,a,0)):ov g:=by
 have hp:=Fm s;rw[h]at hp;rcases uI s with⟨hs,l,g',hl,h1,hg,hq⟩|⟨hs,l,r,hl,h1,hg,hq⟩|⟨a',e,h1,he,hq⟩
 ·rw[h]at hq;injection hq with q1 q2;subst q1;obtain⟨f1,f2,f3⟩:=hl.facts;exact agz (AU f1 hg).2 hp.sz
 ·exact awN
 exact awN
noncomputable def ld(fs:List ae):Option (Item×List ae):=(ma (lF fs)).map fun g=>(.ej g,[])
def ada(x:Rec):x.s.grams.length<=kh x:=by unfold kh;omega
def amr(f:FuncId)(iq:List ae->Option (Item×List ae)):Prop:=∀(e ef:Nat) (B:ab) (x:Rec) (w:ae) (n:NL) (fs:List ae),BT B e x w n->j8 B ef fs->ou fs->kh x<=1099511627->(lF fs).length<=1099511627776->
 az prog f 200 [.loc 1005 e 0 0,.loc 112 ef 0 0] B (fun d B'=>∃i m n',iq fs=some (i,m)/\d= .aL []/\BT B' e (ins x i) w n'/\T9 B' ef m/\rY B' B) (fun d B'=>iq fs=none/\d=nZ/\rY B' B)
def YM:amr 107 ld:=by
 intro e ef B x w n fs hR hF hO hz hj;show az _ _ _ _ _ _ _;refine fB 61 200 f107 [(8,[(8,6)])] [] ?_;have hF':B 112=⟨ef,1,1,188,[.agg [.sl 1 (fs.map D.str)]]⟩:=hF;have hB:=hR.b;obtain⟨l,v1,v2,v3,v4⟩:=hR.l.g.own;have hs:=ada x;rw[aa0]at v4;obtain⟨u1,u2,u3,u4,u5,u6,u7,u8,u9⟩:=hR.nX;unfold jk at *;have Er:=hO.1;generalize hJ:lF fs=s at *;have bS:ld fs=(ma s).map fun g=>(.ej g,[]):=by rw[<-hJ];rfl
 haveI:Ct 14 [.sl 1 (fs.map D.str),.str [32]] True (.str s):=⟨fun _=>by grind [join_c,lF]⟩
 have hpa:=acK s oM;have zu:=Fm s;have NB:=fun g a h=>Oi (s:=s) (g:=g) (a:=a) h;have mF:ma s=open Classical in if(cF s).2.2=0/\eb (cF s).1=(s,0)/\(bF (cF s).1).2=0 then some (bF (cF s).1).1 else none:=rfl
 generalize cF s=P at *;obtain⟨g,a,ee⟩:=P;simp only at zu mF;haveI:Ct 108 [.str s] True (.aL [.agg [.str g.name,.sl 1 (g.aB.map D.str),.str g.start,I g.no,.sl 5 (g.entries.map Entry.d),.sl 5 (g.rules.map aF.d)],I a,I ee]):=⟨fun _=>hpa⟩
 have afk:=Ru g zu;generalize hQ:eb g=Q at *;obtain⟨ps,pe⟩:=Q;haveI:Ct 23 [.agg [.str g.name,.sl 1 (g.aB.map D.str),.str g.start,I g.no,.sl 5 (g.entries.map Entry.d),.sl 5 (g.rules.map aF.d)]] True (.aL [.str ps,I pe]):=⟨fun _=>afk⟩
 replace hR:Hid _:=hR;replace NB:Hid _:=NB;replace mF:Hid _:=mF;replace bS:Hid _:=bS;clear hF hO hpa afk zu;by_cases he:ee=0
 rotate_left
 ·have bS:ld fs=none:=by rw[bS.out,mF.out,aaw fun h=>he h.1];rfl
  clear mF NB;repeat' first|exact zQ|with_reducible apply zJ<;>intro _|((with_reducible refine dU ?_ (fun _=>?_) fun _=>?_);exact pr)|refine zK ?_|fail
  all_goals first|contradiction|exact fun q q1 q2 q3=>awh
 subst he;have Ny:=K6 g (NB.out g a rfl);have xS:ps=s->pe=0->(bF g).2=0->ma s=some (bF g).1:=fun h1 h2 h3=>by rw[mF.out,aaO ⟨rfl,by rw[h1,h2],h3⟩]
 have QO:(ps=s->pe=0->(bF g).2≠0)->ma s=none:=fun h=>by rw[mF.out,aaw fun k=>awN]
 generalize bF g=R at *;obtain⟨g2,re⟩:=R;haveI:Ct 109 [.agg [.str g.name,.sl 1 (g.aB.map D.str),.str g.start,I g.no,.sl 5 (g.entries.map Entry.d),.sl 5 (g.rules.map aF.d)]] True (.aL [.agg [.str g2.name,.sl 1 (g2.aB.map D.str),.str g2.start,I g2.no,.sl 5 (g2.entries.map Entry.d),.sl 5 (g2.rules.map aF.d)],I re]):=⟨fun _=>Ny⟩
 replace xS:Hid _:=xS;replace QO:Hid _:=QO;clear mF NB Ny;by_cases h1:pe=0
 rotate_left
 ·have bS:ld fs=none:=by rw[bS.out,QO.out fun _ h=>absurd h h1];rfl
  repeat' first|exact zQ|with_reducible apply zJ<;>intro _|((with_reducible refine dU ?_ (fun _=>?_) fun _=>?_);exact pr)|refine zK ?_|fail
  all_goals first|contradiction|exact fun q q1 q2 q3=>awh
 subst h1;by_cases h2:ps=s
 rotate_left
 ·have bS:ld fs=none:=by rw[bS.out,QO.out fun h=>absurd h h2];rfl
  repeat' first|exact zQ|with_reducible apply zJ<;>intro _|((with_reducible refine dU ?_ (fun _=>?_) fun _=>?_);exact pr)|refine zK ?_|fail
  all_goals first|contradiction|exact fun q q1 q2 q3=>awh
 subst h2;by_cases h3:re=0
 rotate_left
 ·have bS:ld fs=none:=by rw[bS.out,QO.out fun _ _=>h3];rfl
  repeat' first|exact zQ|with_reducible apply zJ<;>intro _|((with_reducible refine dU ?_ (fun _=>?_) fun _=>?_);exact pr)|refine zK ?_|fail
  all_goals first|contradiction|exact fun q q1 q2 q3=>awh
 subst h3;have bS:ld fs=some (.ej g2,[]):=by rw[bS.out,xS.out rfl rfl rfl];rfl
 repeat' first|exact zQ|with_reducible apply zJ<;>intro _|((with_reducible refine dU ?_ (fun _=>?_) fun _=>?_);exact pr)|refine zK ?_|fail
 rotate_left
 iterate 3 contradiction
 generalize hS:ah (ah (ah (ah B 112 _) 205 _) 205 _) 205 _=S at *;have Vo:∀q,q≠112->q≠205->S q=B q:=fun q q1 q2=>by rw[<-hS,al q2,al q2,al q2,al q1]
 have hSF:S 112=⟨ef,1,1,188,[.agg [.ak]]⟩:=by rw[<-hS,al awL,al awL,al awL,aY]
 have hSB:=(Vo 1005 awL awL).trans hB;have iH:=v1.of (bx':=S) fun t ht=>Vo t awN awN;replace Vo:Hid _:=Vo;clear hS;refine app [236,256] iH (fun x' β hv=>?_) awN;have hf:=hv.facts;refine zW ?_;intros;have k0:∀v q,q≠1005->q≠236->q≠256->q≠112->q≠205->ah (an [(236,236),(256,256)] β S) 1005 v q=B q:=fun v q q1 q2 q3 q4 q5=>by
  rw[al q1];exact(show an [(236,236),(256,256)] β S q=S q by simp[an,aZ];omega).trans (Vo.out q q4 q5)
 have kk:∀v,∀ {ts:List Nat} {el esz:Nat} {y:D} {m:List D},dS B ts el esz y m->(ts.all fun t=>decide (206<=t)&&decide (t<=260)&&decide (t≠236)&&decide (t≠256))=true->dS (ah (an [(236,236),(256,256)] β S) 1005 v) ts el esz y m:=fun v ts el esz y m h ht=>h.of fun t hm=>awN
 have hR:=hR.out;refine⟨_,_,⟨x',n.t,n.h,n.b,n.r,n.v,n.s,n.e,n.x⟩,rfl,⟨aY _ _ _,⟨?_,kk _ hR.l.t awL,kk _ hR.l.h awL,kk _ hR.l.b awL,kk _ hR.l.r awL,kk _ hR.l.s awL,kk _ hR.l.x awL⟩,hR.v.k fun q hq=>k0 _ q awN awN awN awN awN⟩,.inr ⟨rfl,?_⟩,fun q q1 q2 q3=>k0 _ q q1 oM oM q2 oM⟩
 ·show dS _ _ _ _ _ ((x.s.grams++[_]).map _);rw[aeI];exact dS.add (hv.of fun t ht=>avw) v2 v3 (rL g2) rfl ux
 exact avw
end Go.V.Rp
namespace Go.V.Rp
open Go.Proofs Go.RowKit Go.V.Lx Go.V.Gr Go.V.Ty Go.V.St
def gd(o:Option (Item×List ae)):Option Item:=o.bind fun p=>if p.2=[]then some p.1 else none
def lR(k:Nat)(mk:List Int->Option Item)(fs:List ae):gd (cx k mk fs)=(cu k fs).bind mk:=by
 unfold gd cx ea cu;by_cases h:fs.length=k
 ·rw[aaO h,aaO oM,aeu oM,alM oM];cases fs.mapM dA with
  |none=>rfl
  |some l=>
   show((mk l).map fun i=>(i,[])).bind _=mk l;cases mk l<;>rfl
 ·rw[aaw h];by_cases h2:k<=fs.length
  ·rw[aaO h2];have hd:fs.drop k≠[]:=fun e=>by
    have:=aaR List.length e
    exact awN
   cases(fs.take k).mapM dA<;>simp_all
  exact awN
theorem acF(fs:List ae):eM par CP fs=gd (cx 7 tY fs):=by
 rw[lR];show(match cu 7 fs with
  |some [a,b,c,d,e,f,g]=>some (Item.fU a b c d e f g)
  |_=>none)=_
 cases cu 7 fs with
 |none=>rfl
 |some l=>
  exact aqY
theorem acE(fs:List ae):eM par CO fs=gd (cx 10 tX fs):=by
 rw[lR];show(match cu 10 fs with
  |some [a,b,c,d,e,f,g,h,i,j]=>some (Item.bG ⟨a,b,c - 1,d,e,f - 1,g,h,i,j⟩)
  |_=>none)=_
 cases cu 10 fs with
 |none=>rfl
 |some l=>
  exact aqH
theorem acG(fs:List ae):eM par CQ fs=gd (cx 7 tZ fs):=by
 rw[lR];show(match cu 7 fs with
  |some [a,b,c,d,e,f,g]=>some (Item.fV ⟨a,b,c,d,e,f,g⟩)
  |_=>none)=_
 cases cu 7 fs with
 |none=>rfl
 |some l=>
  exact aqY
theorem ZL(fs:List ae):eM par zD fs=gd (cx 10 t_ fs):=by
 rw[lR];show(match cu 10 fs with
  |some [a,b,c,d,e,f,g,h,i,j]=>if g<=1 then some (Item.gF a b c d e f (decide (g=1)) h i j)else none
  |_=>none)=_
 cases cu 10 fs with
 |none=>rfl
 |some l=>
  exact aqH
theorem acC(fs:List ae):eM par CM fs=gd (cx 3 tW fs):=by
 rw[lR];show(match cu 3 fs with
  |some [a,b,c]=>some (Item.gn ⟨a,b,c⟩)
  |_=>none)=_
 cases cu 3 fs with
 |none=>rfl
 |some l=>
  exact arR
theorem af2(fs:List ae):eM par G2 fs=gd (cx 3 xq fs):=by
 rw[lR];show(match cu 3 fs with
  |some [a,b,c]=>some (Item.jw ⟨a,b,c - 4096⟩)
  |_=>none)=_
 cases cu 3 fs with
 |none=>rfl
 |some l=>
  exact arR
theorem acB(fs:List ae):eM par xk fs=gd (cx 4 tV fs):=by
 rw[lR];show(match cu 4 fs with
  |some [a,b,c,d]=>some (Item.block ⟨a,b,c,d⟩)
  |_=>none)=_
 cases cu 4 fs with
 |none=>rfl
 |some l=>
  exact arz
theorem acH(fs:List ae):eM par CR fs=gd (cx 4 ua fs):=by
 rw[lR];show(match cu 4 fs with
  |some [a,b,c,d]=>some (Item.visit ⟨a,b,c,d⟩)
  |_=>none)=_
 cases cu 4 fs with
 |none=>rfl
 |some l=>
  exact arz
theorem acD(fs:List ae):eM par CN fs=gd (cx 7 nN fs):=by
 rw[lR];show(match cu 7 fs with
  |some [a,b,c,d,e,f,g]=>some (Item.heard a b c d e f g)
  |_=>none)=_
 cases cu 7 fs with
 |none=>rfl
 |some l=>
  exact aqY
def af1(fs:List ae):eM par kD fs=gd (ld fs):=by
 show(ma (lF fs)).map .ej=gd ((ma (lF fs)).map fun g=>(.ej g,[]));cases ma (lF fs)<;>rfl
theorem Pc(l:List ae):eD l.length l=if l.all dG=true then some l else none:=by simp_all[eD]
theorem XC(x:ae)(l:List ae):eD 1 (x::l)=if dG x=true then some [x]else none:=by simp_all[eD]
theorem Qq(i:ae->List ae->Item)(m:List ae):gd (EI i m)=if m.all dG=true then(match m with
 |[]=>none
 |x::l=>some (i x l))else none:=by
 cases m with
 |nil=>rfl
 |cons x l=>
  show gd ((eD 1 (x::l)).bind fun _=>(eD l.length l).map fun tg=>(i x tg,[]))=if(x::l).all dG=true then some (i x l)else none
  grind [gd,XC,Pc]
theorem af5(fs:List ae):eM par G5 fs=gd (iY fs):=by
 show(match ea 3 fs with
  |some [a,b,c]=>if(fs.drop 3).all dG=true then(match fs.drop 3 with
   |[]=>none
   |x::l=>some (Item.word ⟨x,a,b,c,l⟩))else none
  |_=>none)=_
 unfold iY;cases ea 3 fs with
 |none=>rfl
 |some l=>
  rcases l with _|⟨a,_|⟨b,_|⟨c,_|⟨_,_⟩⟩⟩⟩
  all_goals first|rfl|skip
  exact(Qq (fun x l=> .word ⟨x,a,b,c,l⟩) (fs.drop 3)).symm
theorem aiW(fs:List ae):eM par NS fs=gd (lz fs):=by
 show(match ea 6 fs with
  |some [a,b,c,d,e,f]=>if(fs.drop 6).all dG=true then(match fs.drop 6 with
   |[]=>none
   |x::l=>some (Item.fix ⟨a,b,c,d,e,f,l,x⟩))else none
  |_=>none)=_
 unfold lz;cases ea 6 fs with
 |none=>rfl
 |some l=>
  rcases l with _|⟨a,_|⟨b,_|⟨c,_|⟨d,_|⟨e',_|⟨f,_|⟨_,_⟩⟩⟩⟩⟩⟩⟩
  all_goals first|rfl|skip
  exact(Qq (fun x l=> .fix ⟨a,b,c,d,e',f,l,x⟩) (fs.drop 6)).symm
theorem af4(fs:List ae):eM par G4 fs=gd (gS fs):=by
 show(match ea 5 fs with
  |some [a,b,c,d,n]=>if n<=(fs.length:Int) - 5/\(fs.drop 5).all dG=true then some (Item.term (match(fs.drop 5).drop n.toNat with
   |[]=>⟨a,b,c,d,(fs.drop 5).take n.toNat,[],[],true⟩
   |x::l=>⟨a,b,c,d,(fs.drop 5).take n.toNat,l,x,false⟩))else none
  |_=>none)=_
 unfold gS;cases hn:ea 5 fs with
 |none=>rfl
 |some l=>
  have hi:=jJ hn;have h5:5<=fs.length:=by simp_all[ea]
  rcases l with _|⟨a,_|⟨b,_|⟨c,_|⟨d,_|⟨e',_|⟨_,_⟩⟩⟩⟩⟩⟩
  all_goals first|rfl|skip
  simp only[aaQ,abe,aeV,aeG,afu]at hi;obtain⟨k,rfl⟩:∃j:Nat,e'=j:=⟨e'.toNat,oM⟩
  show _=gd ((eD k (fs.drop 5)).bind fun ws=>O1 a b c d ws ((fs.drop 5).drop k));have hl:((k:Int)<=(fs.length:Int) - 5)<->k<=(fs.drop 5).length:=awe
  simp only[hl,ae3];generalize fs.drop 5=m;have eB:m.all dG=((m.take k).all dG&&(m.drop k).all dG):=auD
  rw[eB];unfold eD;by_cases h1:k<=m.length
  ·rw[aaO h1];by_cases h2:(m.take k).all dG=true
   ·rw[aaO h2,h2];generalize m.drop k=r;cases r with
    |nil=>rw[aaO ⟨h1,rfl⟩];rfl
    |cons x l=>
     show _=gd ((eD 1 (x::l)).bind fun _=>(eD l.length l).map fun tg=>(.term ⟨a,b,c,d,m.take k,tg,x,false⟩,[]))
     grind [XC,Pc,gd]
   ·rw[aaw h2,aaw fun h=>awN];rfl
  ·rw[aaw h1,aaw fun h=>h1 h.1];rfl
theorem ZK(fs:List ae):eM par zC fs=gd (jn fs):=by
 show(match cu 5 fs with
  |some [a,b,c,d,e]=>some (Item.ey ⟨a,b,c,d,e⟩)
  |_=>none)=_
 unfold jn;cases fs with
 |nil=>rfl
 |cons f m=>
  have e1:cu 5 (f::m)=(dA f).bind fun v=>(cu 4 m).map (v::·):=by
   unfold cu;by_cases h:m.length=4
   ·rw[aaO awK,aaO h,amq];cases dA f with
    |none=>rfl
    |some v=>cases m.mapM dA<;>rfl
   exact awy
  have e2:=fun v=>lR 4 (IX v) m;rw[e1];show _=gd (((dA f).map fun v=>(v,m)).bind _);cases dA f with
  |none=>rfl
  |some v=>
   show _=gd (cx 4 (IX v) m);rw[e2];show(match(cu 4 m).map (v::·)with
    |some [a,b,c,d,e]=>some (Item.ey ⟨a,b,c,d,e⟩)
    |_=>none)=_
   cases cu 4 m with
   |none=>rfl
   |some l=>rcases l with _|⟨a,_|⟨b,_|⟨c,_|⟨d,_|⟨_,_⟩⟩⟩⟩⟩<;>rfl
theorem af3(fs:List ae):eM par G3 fs=gd (iX fs):=by
 show(match fs.mapM dA with
  |some (n::l)=>if n<=(l.length:Int)then(nI (l.take n.toNat)).map fun s=>Item.sign ⟨s,l.drop n.toNat⟩else none
  |_=>none)=_
 unfold iX;cases fs with
 |nil=>rfl
 |cons f m=>
  rw[amq];cases hf:dA f with
  |none=>
   have:nW (f::m)=none:=by show(dA f).map _=none;grind
   rw[this];rfl
  |some v=>
   have hh:nW (f::m)=some (v,m):=by show(dA f).map _=_;grind
   have hv:=Rl hh;obtain⟨k,rfl⟩:∃j:Nat,v=j:=⟨v.toNat,oM⟩
   rw[hh];show(match(m.mapM dA).bind fun l=>some ((k:Int)::l)with
    |some (n::l)=>if n<=(l.length:Int)then(nI (l.take n.toNat)).map fun s=>Item.sign ⟨s,l.drop n.toNat⟩else none
    |_=>none)=gd ((ea k m).bind (HB (m.drop k)))
   have hm:m.mapM dA=((m.take k).mapM dA).bind fun l1=>((m.drop k).mapM dA).map fun l2=>l1++l2:=by
    conv=>lhs;rw[<-aeZ k m,List.mapM_append]
    cases(m.take k).mapM dA with
    |none=>rfl
    |some l1=>cases(m.drop k).mapM dA<;>rfl
   have vR:∀l,m.mapM dA=some l->l.length=m.length:=fun l h=>by
    have:=aaR List.length ((jy mI.toOk).1 h).1
    exact awN
   have Nu:∀l,(m.take k).mapM dA=some l->l.length=(m.take k).length:=fun l h=>by
    have:=aaR List.length ((jy mI.toOk).1 h).1
    exact awN
   unfold ea;by_cases h1:k<=m.length
   ·rw[aaO h1];rw[hm]at vR⊢;cases e1:(m.take k).mapM dA with
    |none=>rfl
    |some l1=>
     have qw:=Nu l1 e1;rw[e1]at vR;show _=gd (HB (m.drop k) l1);have hsg:gd (HB (m.drop k) l1)=(nI l1).bind fun s=>((m.drop k).mapM dA).map fun c=> .sign ⟨s,c⟩:=by
      unfold HB;cases nI l1 with
      |none=>rfl
      |some s=>
       show gd ((ea (m.drop k).length (m.drop k)).map fun c=>(.sign ⟨s,c⟩,[]))=_;unfold ea;rw[aaO (aaN _),aaP];show _=((m.drop k).mapM dA).map fun c=>Item.sign ⟨s,c⟩;cases(m.drop k).mapM dA<;>rfl
     rw[hsg];cases e2:(m.drop k).mapM dA with
     |none=>simp_all
     |some l2=>
      have hk:l1.length=k:=awN
      show(if(k:Int)<=((l1++l2).length:Int)then(nI ((l1++l2).take (k:Int).toNat)).map fun s=>Item.sign ⟨s,(l1++l2).drop (k:Int).toNat⟩else none)=_;rw[aaO awe,ae3,List.take_left' hk,List.drop_left' hk];cases nI l1<;>rfl
   ·rw[aaw h1];cases e1:m.mapM dA with
    |none=>rfl
    |some l=>
     have:=vR l e1;show(if(k:Int)<=(l.length:Int)then _ else none)=_;rw[aaw oM];rfl
end Go.V.Rp
namespace Go.V.Rp
open Go.Proofs Go.Proofs.Tryz Go.RowKit Go.V.Lx Go.V.Gr Go.V.Ty Go.V.St
def Wr(k:ae):List D->Bool
 |[]=>true
 | .aL [.str k',_,_]::es=>k' != k&&Wr k es
 |_=>false
theorem AO{k:ae}:∀ {es:List D} {i:Nat},Wr k es=true->dX .str (.str k) es i=some none
 |[],_,_=>rfl
 | .aL [.str k',v,b]::es,i,h=>by
   simp only[Wr,aas,ap9,ne_eq]at h;have hb:(k==k')=false:=awN
   simp only[dX,oq,hb];exact AO h.2
def na{S0:ab}{t e ty:Nat}{k:ae}{v:D}{c c':Int}{x es es':List D}{K2:ab->Prop}(h:Wr k es=true)(he:es++[.aL [.str k,v,.int .i64 c]]=es')(hc:c+1=c')(hk:K2 (ah S0 t ⟨e,3,0,ty,.int .i64 c'::es'⟩)):aJ (Option.map (ff (ah S0 t ⟨e,3,0,ty,x⟩) t) (nj .str (.str k) v c es)) K2:=by
 have e1:nj .str (.str k) v c es=some (.int .i64 (c+1)::(es++[.aL [.str k,v,.int .i64 c]])):=by grind [nj,AO]
 have e2:ff (ah S0 t ⟨e,3,0,ty,x⟩) t (.int .i64 c'::es')=ah S0 t ⟨e,3,0,ty,.int .i64 c'::es'⟩:=by
  unfold ff
  grind [aY,al]
 rw[e1,he,hc];show K2 (ff _ t _)
 exact awN
@[reducible] def nY(w:ae)(r p:Int)(f:FuncId)(c:Int):D:=.aL [.str w,.agg [I r,I p,.fn (.func f) []],I c]
def qj:List D:=[nY CP 1 0 105 0,nY kD 2 0 107 1,nY G4 3 0 110 2,nY CO 4 0 113 3,nY zC 5 0 114 4,nY CQ 6 0 116 5,nY zD 7 0 117 6,nY CM 7 1 118 7,nY G2 7 2 120 8,nY G3 7 3 121 9,nY xk 7 4 123 10,nY CR 8 0 124 11,nY CN 9 0 125 12,nY G5 9 1 126 13,nY NS 10 0 128 14]
def ago(bx:ab):az prog 60 300 [] bx (fun d bx'=>∃e,d= .omap 301 e/\bx' 301=⟨e,3,0,178,I 15::qj⟩/\∀q,q≠301->bx' q=bx q) fun _ _=>False:=by
 refine fB 33 300 f60 [] [.tmp 0] ?_;refine zW ?_;intros;refine na (es':=qj.take 1) (c':=1) ar ar awL ?_;refine zW ?_;intros;refine na (es':=qj.take 2) (c':=2) ar ar awL ?_;refine zW ?_;intros;refine na (es':=qj.take 3) (c':=3) ar ar awL ?_;refine zW ?_;intros;refine na (es':=qj.take 4) (c':=4) ar ar awL ?_;refine zW ?_;intros;refine na (es':=qj.take 5) (c':=5) ar ar awL ?_;refine zW ?_;intros;refine na (es':=qj.take 6) (c':=6) ar ar awL ?_;refine zW ?_;intros;refine na (es':=qj.take 7) (c':=7) ar ar awL ?_;refine zW ?_;intros;refine na (es':=qj.take 8) (c':=8) ar ar awL ?_;refine zW ?_;intros;refine na (es':=qj.take 9) (c':=9) ar ar awL ?_;refine zW ?_;intros;refine na (es':=qj.take 10) (c':=10) ar ar awL ?_;refine zW ?_;intros;refine na (es':=qj.take 11) (c':=11) ar ar awL ?_;refine zW ?_;intros;refine na (es':=qj.take 12) (c':=12) ar ar awL ?_;refine zW ?_;intros;refine na (es':=qj.take 13) (c':=13) ar ar awL ?_;refine zW ?_;intros;refine na (es':=qj.take 14) (c':=14) ar ar awL ?_;refine zW ?_;intros;refine na (es':=qj.take 15) (c':=15) ar ar awL ?_;refine zW ?_;intros;exact⟨_,rfl,rfl,fun q hq=>aaw hq⟩
def Ci(r p lr lp:Int):Bool:=if r<=1 then decide (r=1)&&decide (lr=0)else if 0<p then decide (r=lr)&&decide (lp<=p)else decide (1<=lr)&&decide (lr<=r)
instance(r p lr lp:Int):Ct 62 [.agg [I r,I p],.agg [I lr,I lp]] True (.bool (Ci r p lr lp)):=by
 refine dp f62 [] [.tmp 4] fun pre=>?_;generalize hF:Ci r p lr lp=F;unfold Ci at hF;repeat' first|exact zQ|with_reducible apply zJ<;>intro _|refine zK ?_
 all_goals exact aq (by subst hF;congr 1;first|(simp[*];done)|grind)
def ly{e:Nat}{x:D}(bx:ab)(h4:bx 104=⟨e,1,1,4,[x]⟩):vM prog (dD prog) [] f57 161 [.loc 104 e 0 0] bx .ret fun m' bx'=>m'= .ret/\bx'=bx:=by
 refine iG (t:=5) _ _ 18 rfl rfl rfl ar ar (ah (ah (aM 0 [.loc 104 e 0 0]) 5 (.raw .nilIface)) 2 (.raw .nilIface)) ?_ ?_
 ·exact zE
 ·exact zE
def dB{e:Nat}{x:D}(bx:ab)(c:∀c,ed x 0 [c]=some c)(h4:bx 104=⟨e,1,1,4,[x]⟩):vM prog (dD prog) [] f57 161 [.loc 104 e 0 0] bx (.cd nZ) fun m' bx'=>m'= .ret/\bx' 104=⟨e,1,1,4,[.bool false]⟩/\∀q,q≠104->q≠164->bx' q=bx q:=by
 refine iG (t:=5) _ _ 18 rfl rfl rfl ar ar (ah (ah (aM 0 [.loc 104 e 0 0]) 5 nZ) 2 nZ) ?_ ?_
 ·exact zE
 ·refine zW ?_;intros
  exact awN
structure qh(B:ab)(e:Nat)(x:Rd)(w:ae)(n:NL):Prop where
 b:BT B e x.r w n
 l7:x.row=7->VL B n.v x.r.s.aC
 h8:x.row<9->x.r.s.heard=[]
 h9:x.row=9->x.r.s.heard≠[]
def EM(f:FuncId)(r p:Nat)(iq:List ae->Option (Item×List ae)):Prop:=∀(e ef:Nat) (B:ab) (x:Rd) (w:ae) (n:NL) (fs:List ae),qh B e x w n->dz r p x.row x.part=true->j8 B ef fs->ou fs->kh x.r<=1099511627->(lF fs).length<=1099511627776->
 az prog f 200 [.loc 1005 e 0 0,.loc 112 ef 0 0] B (fun d B'=>∃i m n',iq fs=some (i,m)/\d= .aL []/\qh B' e ⟨ins x.r i,r,p⟩ w n'/\T9 B' ef m/\rY B' B) (fun d B'=>iq fs=none/\d=nZ/\rY B' B)
theorem xZ{x:Rec}{i:Item}(h:i.row≠9):(ins x i).s.heard=x.s.heard:=by cases i<;>first|rfl|exact absurd rfl h
def r_(r p:Nat)(iq:List ae->Option (Item×List ae)):Prop:=∀fs i m,iq fs=some (i,m)->i.row=r/\i.part=p
def U7{r p lr lp:Nat}(h:dz r p lr lp=true)(h1:r≠1):1<=lr/\lr<=r:=by grind [dz]
theorem wL.u{f:FuncId}{r p:Nat}{iq:List ae->Option (Item×List ae)}{ok:Rec->Prop}(h:wL f iq ok)(hr:r_ r p iq)(h7:r≠7)(h9:r≠9)(bm:∀x,ok x):EM f r p iq:=by
 intro e ef B x w n fs hR hf hF hO hz hj;refine(h e ef B x.r w n fs hR.b hF hO hz (bm _)).mono (fun d B' ⟨i,m,n',q1,q2,q3,q4,q5⟩=>⟨i,m,n',q1,q2,⟨q3,fun h=>absurd h h7,fun h=>?_,fun h=>absurd h h9⟩,q4,q5⟩) fun _ _ h=>h;have hi:=hr _ _ _ q1;show(ins x.r i).s.heard=[]
 rw[xZ oM];refine hR.h8 ?_
 grind [dz]
def aeq:EM 107 2 0 ld:=by
 intro e ef B x w n fs hR hf hF hO hz hj;refine(YM e ef B x.r w n fs hR.b hF hO hz hj).mono (fun d B' ⟨i,m,n',q1,q2,q3,q4,q5⟩=>⟨i,m,n',q1,q2,⟨q3,fun h=>absurd h sI,fun h=>?_,fun h=>absurd h sI⟩,q4,q5⟩) fun _ _ h=>h;have hi:i.row≠9:=by grind [ld,ma,Item.row]
 show(ins x.r i).s.heard=[]
 rw[xZ hi];exact hR.h8 auE
theorem H5.u{f:FuncId}{p:Nat}{iq:List ae->Option (Item×List ae)}(h:H5 f iq)(hr:r_ 7 p iq)(hp:0<p):EM f 7 p iq:=by
 intro e ef B x w n fs hR hf hF hO hz hj;have h7:x.row=7:=by simp_all[dz]
 have h8:=hR.h8 oM;refine(h e ef B x.r w n fs hR.b hF hO hz (hR.l7 h7) h8).mono (fun d B' ⟨i,m,n',q1,q2,q3,q6,q4,q5⟩=>⟨i,m,n',q1,q2,⟨q3,fun _=>q6,fun _=>?_,fun h=>absurd h sI⟩,q4,q5⟩) fun _ _ h=>h;have hi:=hr _ _ _ q1
 grind [xZ]
theorem XY.u{f:FuncId}{iq:List ae->Option (Item×List ae)}(h:XY f iq)(hr:r_ 7 0 iq):EM f 7 0 iq:=by
 intro e ef B x w n fs hR hf hF hO hz hj;have h8:=hR.h8 auE;refine(h e ef B x.r w n fs hR.b hF hO hz h8).mono (fun d B' ⟨i,m,n',q1,q2,q3,q6,q4,q5⟩=>⟨i,m,n',q1,q2,⟨q3,fun _=>q6,fun _=>?_,fun h=>absurd h sI⟩,q4,q5⟩) fun _ _ h=>h;have hi:=hr _ _ _ q1
 grind [xZ]
theorem I0{k r p:Nat}{mk:List Int->Option Item}(h:∀l i,mk l=some i->i.row=r/\i.part=p):r_ r p (cx k mk):=fun fs i m h1=>by
 unfold cx at h1;cases hn:ea k fs with
 |none=>grind
 |some l=>
  rw[hn]at h1;cases hm:mk l<;>grind
def ab_:EM 125 9 0 (cx 7 nN):=by
 intro e ef B x w n fs hR hf hF hO hz hj;refine(VC e ef B x.r w n fs hR.b hF hO hz trivial).mono (fun d B' ⟨i,m,n',q1,q2,q3,q4,q5⟩=>⟨i,m,n',q1,q2,⟨q3,fun h=>absurd h sI,fun h=>absurd h sI,fun _=>?_⟩,q4,q5⟩) fun _ _ h=>h;unfold cx at q1;cases hn:ea 7 fs with
 |none=>grind
 |some l=>
  rw[hn]at q1;cases hm:nN l with
  |none=>grind
  |some j=>
   rw[show(some l).bind _=(nN l).map _ from rfl,hm]at q1;injection q1 with q1;injection q1 with q1 _;subst q1;unfold nN at hm;split at hm
   ·injection hm with hm;subst hm;show x.r.s.heard++[_]≠[];exact sI
   ·cases hm
theorem Xs{i:ae->List ae->Item}{r p:Nat}(h:∀x l,(i x l).row=r/\(i x l).part=p){m:List ae}{j:Item}{q:List ae}(h1:EI i m=some (j,q)):∃x l,j=i x l:=by
 cases m with
 |nil=>cases h1
 |cons x l=>
  replace h1:(eD 1 (x::l)).bind (fun _=>(eD l.length l).map fun tg=>(i x tg,([]:List ae)))=some (j,q):=h1;cases e1:eD 1 (x::l)with
  |none=>grind
  |some u=>
   rw[e1]at h1;replace h1:(eD l.length l).map (fun tg=>(i x tg,([]:List ae)))=some (j,q):=h1
   grind [eD]
theorem RQ{fs m:List ae}{i:Item}(h:iY fs=some (i,m)):∃w,i= .word w:=by
 unfold iY at h;cases hn:ea 3 fs with
 |none=>grind
 |some l=>
  rw[hn]at h;replace h:wdA (fs.drop 3) l=some (i,m):=h;unfold wdA at h;split at h
  ·obtain⟨x,t,rfl⟩:=Xs (r:=9) (p:=1) (fun _ _=>⟨rfl,rfl⟩) h;grind
  ·exact awI
theorem aei{fs m:List ae}{i:Item}(h:lz fs=some (i,m)):∃w,i= .fix w:=by
 unfold lz at h;cases hn:ea 6 fs with
 |none=>grind
 |some l=>
  rw[hn]at h;replace h:fxA (fs.drop 6) l=some (i,m):=h;unfold fxA at h;split at h
  ·obtain⟨x,t,rfl⟩:=Xs (r:=10) (p:=0) (fun _ _=>⟨rfl,rfl⟩) h;grind
  ·exact awI
def agY:EM 126 9 1 iY:=by
 intro e ef B x w n fs hR hf hF hO hz hj;have h9:x.row=9:=by grind [dz]
 have hh:=hR.h9 h9;refine(aap e ef B x.r w n fs hR.b hF hO hz hh).mono (fun d B' ⟨i,m,n',q1,q2,q3,q4,q5⟩=>⟨i,m,n',q1,q2,⟨q3,fun h=>absurd h sI,fun h=>absurd h sI,fun _=>?_⟩,q4,q5⟩) fun _ _ h=>h;obtain⟨y,rfl⟩:=RQ q1;show ft _ x.r.s.heard≠[];cases hc:x.r.s.heard with
 |nil=>grind
 |cons a l=>cases l<;>simp[ft]
theorem OY:r_ 3 0 gS:=fun fs i m h=>by
 unfold gS at h;cases hn:ea 5 fs with
 |none=>grind
 |some l=>
  rw[hn]at h;replace h:tmA (fs.drop 5) l=some (i,m):=h;unfold tmA at h;split at h
  ·rename_i a b c d k;cases hw:eD k.toNat (fs.drop 5)with
   |none=>grind
   |some ws=>
    rw[hw]at h;replace h:O1 a b c d ws ((fs.drop 5).drop k.toNat)=some (i,m):=h;generalize(fs.drop 5).drop k.toNat=q at h;cases q with
    |nil=>injection h with h;injection h with h _;subst h;exact⟨rfl,rfl⟩
    |cons y q=>
     replace h:(eD 1 (y::q)).bind (fun _=>(eD q.length q).map fun tg=>(Item.term ⟨a,b,c,d,ws,tg,y,false⟩,([]:List ae)))=some (i,m):=h;cases e1:eD 1 (y::q)with
     |none=>grind
     |some u=>
      rw[e1]at h;replace h:(eD q.length q).map (fun tg=>(Item.term ⟨a,b,c,d,ws,tg,y,false⟩,([]:List ae)))=some (i,m):=h;cases e2:eD q.length q with
      |none=>grind
      |some v=>rw[e2]at h;exact aq_
  ·exact awI
theorem F3:r_ 5 0 jn:=fun fs i m h=>by
 unfold jn at h;cases hn:nW fs with
 |none=>grind
 |some q=>
  rw[hn]at h;refine I0 (k:=4) (mk:=IX q.1) (fun l i h=>?_) q.2 i m h;unfold IX at h;split at h
  ·injection h with h;subst h;exact⟨rfl,rfl⟩
  ·exact awI
theorem ON:r_ 7 3 iX:=fun fs i m h=>by
 unfold iX at h;cases hn:nW fs with
 |none=>grind
 |some q=>
  rw[hn]at h;replace h:sgA q.1 q.2=some (i,m):=h;unfold sgA at h;cases h1:ea q.1.toNat q.2 with
  |none=>grind
  |some l=>
   rw[h1]at h;replace h:(nI l).bind (W_ (q.2.drop q.1.toNat))=some (i,m):=h;cases h2:nI l with
   |none=>grind
   |some s=>
    rw[h2]at h;replace h:(ea (q.2.drop q.1.toNat).length (q.2.drop q.1.toNat)).map (fun c=>(Item.sign ⟨s,c⟩,([]:List ae)))=some (i,m):=h;cases h3:ea (q.2.drop q.1.toNat).length (q.2.drop q.1.toNat)with
    |none=>grind
    |some c=>rw[h3]at h;exact aq_
end Go.V.Rp
