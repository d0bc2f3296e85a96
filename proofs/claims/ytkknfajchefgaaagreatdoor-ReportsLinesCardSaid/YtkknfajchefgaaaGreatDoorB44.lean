/- Lemmas on plain data and programs: part B44. -/
import Derived.Test.YtkknfajchefgaaaGreatDoorB43
set_option linter.all false
set_option maxHeartbeats 8000000
set_option maxRecDepth 100000
namespace Go.V.Rp
open Go.Proofs Go.RowKit Go.V.Lx Go.V.Gr Go.V.Ty Go.V.St
def dS(bx:ab)(ts:List Nat)(el esz:Nat)(x:D)(m:List D):Prop:=∃l,aP bx ts el esz x l/\jl l m/\D.aH l=true
theorem dS.of{bx bx':ab}{ts:List Nat}{el esz:Nat}{x:D}{m:List D}(h:dS bx ts el esz x m)(hb:∀t∈ts,bx' t=bx t):dS bx' ts el esz x m:=by obtain⟨l,h1,h2⟩:=h;exact⟨l,h1.of hb,h2⟩
def KL(k:Nat)(bx' bx:ab):Prop:=∀q,206<=q->q<=260->q≠k->bx' q=bx q
theorem dS.k{bx bx':ab}{ts:List Nat}{el esz k:Nat}{x:D}{m:List D}(h:dS bx ts el esz x m)(hb:KL k bx' bx)(ht:(ts.all fun t=>decide (206<=t)&&decide (t<=260)&&decide (t≠k))=true:=by decide):dS bx' ts el esz x m:=
 h.of fun t hm=>by
  have:=aaI.1 ht t hm;simp at this;exact hb t this.1.1 this.1.2 this.2
theorem dS.facts{bx:ab}{ts:List Nat}{el esz:Nat}{x:D}{m:List D}(h:dS bx ts el esz x m):x.cells=[x]/\x.one=true/\∀c,ed x 0 [c]=some c:=by obtain⟨l,h1,_⟩:=h;exact h1.facts
theorem jl.app{l m:List D}(h:jl l m)(d d':D)(h1:d.cells.length=d'.cells.length)(h2:∀(j:Nat) c c',d.cells[j]? =some c->d'.cells[j]? =some c'->bA c c'):jl (l++[d]) (m++[d']):=h.snoc h1 h2
structure NL where
 g:D
 t:D
 h:D
 b:D
 r:D
 v:D
 s:D
 e:D
 x:D
@[reducible] def zP(x:Rec)(n:NL)(w:ae):List D:=[I x.s.sources,I x.s.langs,I x.s.chunk,I x.s.quiet,I x.s.late,I x.s.gap,I x.s.most,n.g,n.t,n.h,n.b,n.r,n.v,n.s,n.e,n.x,.str w]
structure Jr(bx:ab)(x:Rec)(n:NL):Prop where
 g:dS bx [236,256] 78 6 n.g (x.s.grams.map aA.d)
 t:dS bx [250] 92 8 n.t (x.s.cB.map Term.d)
 h:dS bx [248] 94 10 n.h (x.s.bG.map cY.d)
 b:dS bx [219] 97 5 n.b (x.s.bp.map bn.d)
 r:dS bx [237] 100 7 n.r (x.s.cy.map cJ.d)
 s:dS bx [228] 103 4 n.s (x.s.cr.map bD.d)
 x:dS bx [239] 107 8 n.x (x.cn.map Fix.d)
def pY(bx:ab)(t el esz:Nat)(x:D)(m:List D):Prop:=(x= .ak/\m=[]/\(bx t).k≠1)\/∃e es,x= .ba t e esz 0 es.length/\bx t=⟨e,1,esz,el,es⟩/\jl es m/\D.aH es=true
theorem pY.of{bx bx':ab}{t el esz:Nat}{x:D}{m:List D}(h:pY bx t el esz x m)(hb:bx' t=bx t):pY bx' t el esz x m:=by grind [pY]
@[reducible] def rV(v:aV)(g k s b:D):List D:=[I v.no,I v.bH,I v.lines,I v.room,I v.cells,I v.speed,.bool v.right,g,I v.bq.o,k,s,I v.br.w,I v.br.h,b]
@[reducible] def Eo(h:bL)(w:D):List D:=[I h.at_,I h.src,I h.seq,I h.sY,I h.kind,I h.sR,I h.cut,w]
def VL(bx:ab)(x:D)(l:List aV):Prop:=∃e es l0 w g k s b,l=l0++[w]/\x= .ba 254 e 14 0 (es++[D.agg (rV w g k s b)]).length/\bx 254=⟨e,1,14,62,es++[.agg (rV w g k s b)]⟩/\jl es (l0.map aV.d)/\D.aH es=true/\
 aP bx [232] 127 3 g (w.bq.gs.map ia.d)/\aP bx [233] 129 3 k (w.bq.ks.map kj.d)/\aP bx [240] 163 2 s (w.cz.map Sign.d)/\aP bx [235] 131 4 b (w.br.bl.map iK.d)
def HL(bx:ab)(x:D)(l:List bL):Prop:=∃e es l0 h w,l=l0++[h]/\x= .ba 241 e 8 0 (es++[D.agg (Eo h w)]).length/\bx 241=⟨e,1,8,69,es++[.agg (Eo h w)]⟩/\jl es (l0.map bL.d)/\D.aH es=true/\aP bx [240] 105 5 w (h.words.map Word.d)
def VP(bx:ab)(x:D)(l:List aV):Prop:=pY bx 254 62 14 x (l.map aV.d)
def VH(bx:ab)(v:D)(vs:List aV)(e:D)(hs:List bL):Prop:=((VP bx v vs\/VL bx v vs)/\e= .ak/\hs=[]/\(bx 241).k≠1)\/(VP bx v vs/\HL bx e hs)
structure BT(bx:ab)(e:Nat)(x:Rec)(w:ae)(n:NL):Prop where
 b:bx 1005=⟨e,1,17,110,[.agg (zP x n w)]⟩
 l:Jr bx x n
 v:VH bx n.v x.s.aC n.e x.s.heard
theorem VL.facts{bx:ab}{x:D}{l:List aV}(h:VL bx x l):x.cells=[x]/\x.one=true/\∀c,ed x 0 [c]=some c:=by obtain⟨e,es,l0,w,g,k,s,b,_,rfl,_⟩:=h;exact⟨rfl,rfl,fun c=>avu⟩
theorem HL.facts{bx:ab}{x:D}{l:List bL}(h:HL bx x l):x.cells=[x]/\x.one=true/\∀c,ed x 0 [c]=some c:=by obtain⟨e,es,l0,w,g,_,rfl,_⟩:=h;exact⟨rfl,rfl,fun c=>avu⟩
theorem pY.facts{bx:ab}{t el esz:Nat}{x:D}{m:List D}(h:pY bx t el esz x m):x.cells=[x]/\x.one=true/\∀c,ed x 0 [c]=some c:=by rcases h with⟨rfl,_⟩|⟨e,es,rfl,_⟩<;>exact⟨rfl,rfl,fun c=>avu⟩
def jk(x:D):Prop:=x.cells=[x]/\x.one=true/\∀c,ed x 0 [c]=some c
theorem BT.nX{bx:ab}{e:Nat}{x:Rec}{w:ae}{n:NL}(h:BT bx e x w n):jk n.g/\jk n.t/\jk n.h/\jk n.b/\jk n.r/\jk n.v/\jk n.s/\jk n.e/\jk n.x:=by
 refine⟨h.l.g.facts,h.l.t.facts,h.l.h.facts,h.l.b.facts,h.l.r.facts,?_,h.l.s.facts,?_,h.l.x.facts⟩
 ·rcases h.v with⟨h|h,_⟩|⟨h,_⟩
  ·exact pY.facts h
  ·exact h.facts
  ·exact pY.facts h
 ·rcases h.v with⟨_,h,_⟩|⟨_,h⟩
  ·rw[h];exact⟨rfl,rfl,fun c=>avu⟩
  ·exact h.facts
theorem VL.k{bx bx':ab}{x:D}{l:List aV}(h:VL bx x l)(hb:∀q∈[254,232,233,240,235],bx' q=bx q):VL bx' x l:=by
 obtain⟨e,es,l0,w,g,k,s,b,h1,h2,h3,h4,h5,h6,h7,h8,h9⟩:=h;exact⟨e,es,l0,w,g,k,s,b,h1,h2,(hb 254 sI).trans h3,h4,h5,h6.of fun t ht=>hb t awN,h7.of fun t ht=>hb t awN,h8.of fun t ht=>hb t awN,h9.of fun t ht=>hb t awN⟩
theorem HL.k{bx bx':ab}{x:D}{l:List bL}(h:HL bx x l)(hb:∀q∈[241,240],bx' q=bx q):HL bx' x l:=by
 obtain⟨e,es,l0,w,g,h1,h2,h3,h4,h5,h6⟩:=h;exact⟨e,es,l0,w,g,h1,h2,(hb 241 sI).trans h3,h4,h5,h6.of fun t ht=>hb t awN⟩
theorem VH.k{bx bx':ab}{v e:D}{vs:List aV}{hs:List bL}(h:VH bx v vs e hs)(hb:∀q∈[254,232,233,240,235,241],bx' q=bx q):VH bx' v vs e hs:=by
 rcases h with⟨h|h,h1,h2,h3⟩|⟨h,h1⟩
 ·exact .inl ⟨.inl (pY.of h (hb 254 sI)),h1,h2,awN⟩
 ·exact .inl ⟨.inr (h.k fun q hq=>hb q awN),h1,h2,awN⟩
 ·exact .inr ⟨pY.of h (hb 254 sI),h1.k fun q hq=>hb q awN⟩
theorem VH.kl{bx bx':ab}{v e:D}{vs:List aV}{hs:List bL}{k:Nat}(h:VH bx v vs e hs)(hb:KL k bx' bx)(hk:k∉[254,232,233,240,235,241]:=by decide):VH bx' v vs e hs:=
 h.k fun q hq=>hb q awN awN fun e=>hk (e▸hq)
end Go.V.Rp
namespace Go.V.Rp
open Go.Proofs Go.Proofs.Tryz Go.RowKit Go.V.Lx Go.V.Gr Go.V.Ty Go.V.St
def iv{k:Nat}{l:List ae}{ns:List Int}(h:ea k l=some ns):ns.length=k:=by
 unfold ea at h;by_cases hk:k<=l.length
 ·rw[aaO hk]at h;have:=(jy mI.toOk).1 h;have:=aaR List.length this.1
  exact awN
 exact awN
def rY(bx' bx:ab):Prop:=∀q,q≠1005->q≠112->(q<200\/1000<=q)->bx' q=bx q
def cx(k:Nat)(mk:List Int->Option Item)(fs:List ae):Option (Item×List ae):=(ea k fs).bind fun l=>(mk l).map fun i=>(i,fs.drop k)
def fl(bx' bx:ab):Prop:=∀q,q≠112->(q<300\/1000<=q)->bx' q=bx q
theorem fl.trans{a b c:ab}(h:fl c b)(k:fl b a):fl c a:=fun q h1 h2=>(h q h1 h2).trans (k q h1 h2)
section
variable {tab:List (Nat×List (Nat×Nat))} {base aN ef:Nat} {yl:Option (List (List D)×Nat×Nat×Nat)} {pn df:Bool} {B:ab} {fs:List ae} {K2:Cl->D->ab->Prop}
def aaA(hF:j8 B ef fs)(hO:ou fs)(hk:∀v m B2,nW fs=some (v,m)->j8 B2 ef m->fl B2 B->K2 .wa (I v) B2)(hp:∀B2,nW fs=none->fl B2 B->K2 (.cd nZ) .undef B2):c_ ⟨dD prog,tab,base,aN,0,yl,pn,df⟩ 115 [.loc 112 ef 0 0] B K2:=
 bj (N7 fs hO ef B hF) rfl (fun d B1 ⟨v,m,h1,h2,h3,h4⟩=>by subst h2;exact hk v m B1 h1 h3 fun q q1 _=>h4 q q1) fun d B1 ⟨h1,h2,h3⟩=>by subst h2;exact hp B1 h1 fun q q1 _=>h3 q q1
def kr(k:Nat)(hF:j8 B ef fs)(hO:ou fs)(hk:∀ns B2,ea k fs=some ns->j8 B2 ef (fs.drop k)->fl B2 B->K2 .wa (ints ns) B2)(hp:∀B2,ea k fs=none->fl B2 B->K2 (.cd nZ) .undef B2):c_ ⟨dD prog,tab,base,aN,0,yl,pn,df⟩ 106 [.loc 112 ef 0 0,I k] B K2:=
 f_ (Ww k fs hO ef B hF) rfl (fun d B1 ⟨ns,h1,r,o1,o2,o3,o4⟩=>⟨r,_,o1,o2,hk ns _ h1 o3 fun q q1 q2=>o4 q q1 oM⟩) fun d B1 ⟨h1,h2,h3⟩=>arL
def yW(k:Nat)(hF:j8 B ef fs)(hO:ou fs)(hk:∀ws B2,eD k fs=some ws->j8 B2 ef (fs.drop k)->fl B2 B->K2 .wa (strs ws) B2)(hp:∀B2,eD k fs=none->fl B2 B->K2 (.cd nZ) .undef B2):c_ ⟨dD prog,tab,base,aN,0,yl,pn,df⟩ 111 [.loc 112 ef 0 0,I k] B K2:=
 f_ (RT k fs hO ef B hF) rfl (fun d B1 ⟨ns,h1,r,o1,o2,o3,o4⟩=>⟨r,_,o1,o2,hk ns _ h1 o3 fun q q1 q2=>o4 q q1 oM⟩) fun d B1 ⟨h1,h2,h3⟩=>arL
def Mo(hF:j8 B ef fs)(hO:ou fs)(hk:∀ws B2,eD fs.length fs=some ws->j8 B2 ef []->fl B2 B->K2 .wa (strs ws) B2)(hp:∀B2,eD fs.length fs=none->fl B2 B->K2 (.cd nZ) .undef B2):c_ ⟨dD prog,tab,base,aN,0,yl,pn,df⟩ 112 [.loc 112 ef 0 0] B K2:=
 f_ (agk fs hO ef B hF) rfl (fun d B1 ⟨ns,h1,r,o1,o2,o3,o4⟩=>⟨r,_,o1,o2,hk ns _ h1 o3 fun q q1 q2=>o4 q q1 oM⟩) fun d B1 ⟨h1,h2,h3⟩=>arL
end
def kh(x:Rec):Nat:=(items x).length+x.s.grams.length
def T9(bx:ab)(e:Nat)(l:List ae):Prop:=j8 bx e l\/(l=[]/\bx 112=⟨e,1,1,188,[.agg [.ak]]⟩)
def wL(f:FuncId)(iq:List ae->Option (Item×List ae))(ok:Rec->Prop):Prop:=∀(e ef:Nat) (B:ab) (x:Rec) (w:ae) (n:NL) (fs:List ae),BT B e x w n->j8 B ef fs->ou fs->kh x<=1099511627->ok x->
 az prog f 200 [.loc 1005 e 0 0,.loc 112 ef 0 0] B (fun d B'=>∃i m n',iq fs=some (i,m)/\d= .aL []/\BT B' e (ins x i) w n'/\T9 B' ef m/\rY B' B) (fun d B'=>iq fs=none/\d=nZ/\rY B' B)
theorem fl.fin{B B2 β:ab}{k:Nat}{v:Bx}(h:fl B2 B)(hk:206<=k/\k<=260:=by decide):KL k (ah (an [(k,k)] β B2) 1005 v) B/\rY (ah (an [(k,k)] β B2) 1005 v) B:=by
 refine⟨fun q h1 h2 h3=>?_,fun q h1 h2 h3=>?_⟩
 ·rw[al oM];exact(show an [(k,k)] β B2 q=B2 q by simp[an,aZ];omega).trans (h q oM oM)
 ·rw[al h1];exact(show an [(k,k)] β B2 q=B2 q by simp[an,aZ];omega).trans (h q h2 oM)
theorem fl.nv{B B2:ab}(h:fl B2 B):rY B2 B:=fun q h1 h2 h3=>h q h2 oM
theorem fl.kl{B B2:ab}(h:fl B2 B):KL 0 B2 B:=fun q h1 h2 h3=>h q oM oM
theorem dS.own{bx:ab}{ts:List Nat}{el esz:Nat}{x:D}{m:List D}(h:dS bx ts el esz x m):∃l,aP bx ts el esz x l/\jl l m/\D.aH l=true/\l.length=m.length:=by obtain⟨l,h1,h2,h3⟩:=h;exact⟨l,h1,h2,h3,h2.len⟩
theorem dS.add{bx:ab}{ts:List Nat}{el esz:Nat}{x:D}{l m:List D}{d d':D}(h:aP bx ts el esz x (l++[d]))(hw:jl l m)(hp:D.aH l=true)(hd:d.pure=true)(h1:d.cells.length=d'.cells.length)(h2:∀(j:Nat) c c',d.cells[j]? =some c->d'.cells[j]? =some c'->bA c c'):dS bx ts el esz x (m++[d']):=
 ⟨_,h,hw.snoc h1 h2,by grind [yd,D.aH]⟩
def ux{d:D}:∀(j:Nat) c c',d.cells[j]? =some c->d.cells[j]? =some c'->bA c c':=fun j c c' h1 h2=>by rw[h1]at h2;injection h2 with h2;subst h2;exact .refl _
def jJ{k:Nat}{l:List ae}{ns:List Int}(h:ea k l=some ns):∀n∈ns,0<=n/\n<=1099511627776:=((wo mI.toOk).1 h).2.2
def ue{B2 β:ab}{k el esz:Nat}{v:Bx}{x:D}{xs:List D}(h:aP β [k] el esz x xs)(hk:k≠1005:=by decide):aP (ah (an [(k,k)] β B2) 1005 v) [k] el esz x xs:=h.of fun t ht=>avw
def tX:List Int->Option Item
 |[a,b,c,d,e',f,g,h,i,j]=>some (.bG ⟨a,b,c - 1,d,e',f - 1,g,h,i,j⟩)
 |_=>none
def Z6(x:Rec):x.s.bG.length<=kh x:=auG
def VV:wL 113 (cx 10 tX) fun _=>True:=by
 intro e ef B x w n fs hR hF hO hz _;show az _ _ _ _ _ _ _;refine fB 53 200 f113 [(1,[(40,6)])] [] ?_;refine zW ?_;intros;refine kr 10 hF hO (fun ns B2 h1 o3 hN=>?_) fun B2 h1 hN=>?_
 ·have hl:=iv h1;have hi:=jJ h1;obtain⟨a,b,c,d,e',f,g,h,i,j,rfl⟩:∃a b c d e' f g h i j,ns=[a,b,c,d,e',f,g,h,i,j]:=by
   match ns,hl with
   |[a,b,c,d,e',f,g,h,i,j],_=>grind
  simp only[aaQ,abe,aeV,aeG,afu]at hi;have hB:=(hN 1005 awL awL).trans hR.b;obtain⟨l,v1,v2,v3,v4⟩:=(hR.l.h.k hN.kl).own;have hs:=Z6 x;rw[aa0]at v4;obtain⟨u1,u2,u3,u4,u5,u6,u7,u8,u9⟩:=hR.nX;have bS:cx 10 tX fs=some (.bG ⟨a,b,c - 1,d,e',f - 1,g,h,i,j⟩,fs.drop 10):=auY
  replace hN:Hid _:=hN;replace hR:Hid _:=hR;unfold jk at *;clear h1 hl hF hO;refine zW ?_;intros;refine app [248] v1 (fun x' β hv=>?_) awN;have hf:=hv.facts;refine zW ?_;intros;obtain⟨k1,k2⟩:=fl.fin (B:=B) (B2:=B2) hN.out (k:=248) (β:=β) (v:=⟨e,1,17,110,[.agg (zP (ins x (.bG ⟨a,b,c - 1,d,e',f - 1,g,h,i,j⟩)) ⟨n.g,n.t,x',n.b,n.r,n.v,n.s,n.e,n.x⟩ w)]⟩);have hR:=hR.out;refine⟨_,_,⟨n.g,n.t,x',n.b,n.r,n.v,n.s,n.e,n.x⟩,rfl,⟨aY _ _ _,⟨hR.l.g.k k1,hR.l.t.k k1,?_,hR.l.b.k k1,hR.l.r.k k1,hR.l.s.k k1,hR.l.x.k k1⟩,hR.v.kl k1⟩,.inl o3,k2⟩;show dS _ _ _ _ _ ((x.s.bG++[_]).map _);rw[aeI];exact dS.add (ue hv) v2 v3 rfl rfl ux
 ·have bS:cx 10 tX fs=none:=auY
  replace hN:Hid _:=hN;refine zW ?_;exact auK
def tZ:List Int->Option Item
 |[a,b,c,d,e',f,g]=>some (.fV ⟨a,b,c,d,e',f,g⟩)
 |_=>none
def Z7(x:Rec):x.s.cy.length<=kh x:=auG
def Xt:wL 116 (cx 7 tZ) fun _=>True:=by
 intro e ef B x w n fs hR hF hO hz _;show az _ _ _ _ _ _ _;refine fB 42 200 f116 [(1,[(29,6)])] [] ?_;refine zW ?_;intros;refine kr 7 hF hO (fun ns B2 h1 o3 hN=>?_) fun B2 h1 hN=>?_
 ·have hl:=iv h1;have hi:=jJ h1;obtain⟨a,b,c,d,e',f,g,rfl⟩:∃a b c d e' f g,ns=[a,b,c,d,e',f,g]:=by
   match ns,hl with
   |[a,b,c,d,e',f,g],_=>grind
  simp only[aaQ,abe,aeV,aeG,afu]at hi;have hB:=(hN 1005 awL awL).trans hR.b;obtain⟨l,v1,v2,v3,v4⟩:=(hR.l.r.k hN.kl).own;have hs:=Z7 x;rw[aa0]at v4;obtain⟨u1,u2,u3,u4,u5,u6,u7,u8,u9⟩:=hR.nX;have bS:cx 7 tZ fs=some (.fV ⟨a,b,c,d,e',f,g⟩,fs.drop 7):=auY
  replace hN:Hid _:=hN;replace hR:Hid _:=hR;unfold jk at *;clear h1 hl hF hO;refine zW ?_;intros;refine app [237] v1 (fun x' β hv=>?_) awN;have hf:=hv.facts;refine zW ?_;intros;obtain⟨k1,k2⟩:=fl.fin (B:=B) (B2:=B2) hN.out (k:=237) (β:=β) (v:=⟨e,1,17,110,[.agg (zP (ins x (.fV ⟨a,b,c,d,e',f,g⟩)) ⟨n.g,n.t,n.h,n.b,x',n.v,n.s,n.e,n.x⟩ w)]⟩);have hR:=hR.out;refine⟨_,_,⟨n.g,n.t,n.h,n.b,x',n.v,n.s,n.e,n.x⟩,rfl,⟨aY _ _ _,⟨hR.l.g.k k1,hR.l.t.k k1,hR.l.h.k k1,hR.l.b.k k1,?_,hR.l.s.k k1,hR.l.x.k k1⟩,hR.v.kl k1⟩,.inl o3,k2⟩;show dS _ _ _ _ _ ((x.s.cy++[_]).map _);rw[aeI];exact dS.add (ue hv) v2 v3 rfl rfl ux
 ·have bS:cx 7 tZ fs=none:=auY
  replace hN:Hid _:=hN;refine zW ?_;exact auK
def ua:List Int->Option Item
 |[a,b,c,d]=>some (.visit ⟨a,b,c,d⟩)
 |_=>none
def Z8(x:Rec):x.s.cr.length<=kh x:=auG
def Xy:wL 124 (cx 4 ua) fun _=>True:=by
 intro e ef B x w n fs hR hF hO hz _;show az _ _ _ _ _ _ _;refine fB 33 200 f124 [(1,[(20,6)])] [] ?_;refine zW ?_;intros;refine kr 4 hF hO (fun ns B2 h1 o3 hN=>?_) fun B2 h1 hN=>?_
 ·have hl:=iv h1;have hi:=jJ h1;obtain⟨a,b,c,d,rfl⟩:∃a b c d,ns=[a,b,c,d]:=by
   match ns,hl with
   |[a,b,c,d],_=>grind
  simp only[aaQ,abe,aeV,aeG,afu]at hi;have hB:=(hN 1005 awL awL).trans hR.b;obtain⟨l,v1,v2,v3,v4⟩:=(hR.l.s.k hN.kl).own;have hs:=Z8 x;rw[aa0]at v4;obtain⟨u1,u2,u3,u4,u5,u6,u7,u8,u9⟩:=hR.nX;have bS:cx 4 ua fs=some (.visit ⟨a,b,c,d⟩,fs.drop 4):=auY
  replace hN:Hid _:=hN;replace hR:Hid _:=hR;unfold jk at *;clear h1 hl hF hO;refine zW ?_;intros;refine app [228] v1 (fun x' β hv=>?_) awN;have hf:=hv.facts;refine zW ?_;intros;obtain⟨k1,k2⟩:=fl.fin (B:=B) (B2:=B2) hN.out (k:=228) (β:=β) (v:=⟨e,1,17,110,[.agg (zP (ins x (.visit ⟨a,b,c,d⟩)) ⟨n.g,n.t,n.h,n.b,n.r,n.v,x',n.e,n.x⟩ w)]⟩);have hR:=hR.out;refine⟨_,_,⟨n.g,n.t,n.h,n.b,n.r,n.v,x',n.e,n.x⟩,rfl,⟨aY _ _ _,⟨hR.l.g.k k1,hR.l.t.k k1,hR.l.h.k k1,hR.l.b.k k1,hR.l.r.k k1,?_,hR.l.x.k k1⟩,hR.v.kl k1⟩,.inl o3,k2⟩;show dS _ _ _ _ _ ((x.s.cr++[_]).map _);rw[aeI];exact dS.add (ue hv) v2 v3 rfl rfl ux
 ·have bS:cx 4 ua fs=none:=auY
  replace hN:Hid _:=hN;refine zW ?_;exact auK
end Go.V.Rp
namespace Go.V.Rp
open Go.Proofs Go.Proofs.Tryz Go.RowKit Go.V.Lx Go.V.Gr Go.V.Ty Go.V.St
def IX(v:Int):List Int->Option Item
 |[a,b,c,d]=>some (.ey ⟨v,a,b,c,d⟩)
 |_=>none
def jn(fs:List ae):Option (Item×List ae):=(nW fs).bind fun p=>(ea 4 p.2).bind fun l=>(IX p.1 l).map fun i=>(i,p.2.drop 4)
theorem ou.num{l m:List ae}{v:Int}(h:ou l)(hn:nW l=some (v,m)):ou m:=by
 cases l with
 |nil=>cases hn
 |cons f l=>
  simp only[nW]at hn;cases hx:dA f with
  |none=>grind
  |some u=>rw[hx]at hn;simp at hn;rw[<-hn.2];exact h.tail
def Xo(x:Rec):x.s.bp.length<=kh x:=auG
@[go_sem] def atC(size:Nat)(g ag:Bool)(z:List D)(a b c d:Int):yT ⟨.arr 4 1 g,size,ag,z⟩ (ints [a,b,c,d])=some (.bR (.agg [I a,I b,I c,I d]) 0):=by simp[yT,ints,D.one]
def Sb:wL 114 jn fun _=>True:=by
 intro e ef B x w n fs hR hF hO hz _;show az _ _ _ _ _ _ _;refine fB 24 200 f114 [(2000000,[]),(0,[(14,12),(14,10),(14,6)])] [] ?_;obtain⟨u1,u2,u3,u4,u5,u6,u7,u8,u9⟩:=hR.nX;have hB:=hR.b;obtain⟨l,v1,v2,v3,v4⟩:=hR.l.b.own;have hs:=Xo x;rw[aa0]at v4;replace hR:Hid _:=hR;unfold jk at *;refine gU (.aD 0 (.aD 1 (.aD 2 (.aD 3 (.aD 4 (.aD 5 (.aD 7 (.aD 9 (.load 6 805 (.both 8 [805] (.both 10 [805] (.both 11 [805] (.both 12 [805] (.aD 13 (.both 14 [805] (.both 15 [] (.aD 16 (.aD 17 (.aD 18 (.aD 19 (.both 20 [] .fin .stop))))) .stop) .stop)) .stop) .stop) .stop) .stop)))))))))) ar ?_;refine zW ?_;intros;refine aaA hF hO (fun v m B1 h1 o1 hN=>?_) fun B1 h1 hN=>?_
 ·have zi:=(hN 1005 awL awL).trans hB;have hm:=hO.num h1;have GB:∀(z:Option (Item×List ae)),((ea 4 m).bind fun l=>(IX v l).map fun i=>(i,m.drop 4))=z->jn fs=z:=fun z h=>by grind [jn]
  replace hN:Hid _:=hN;replace GB:Hid _:=GB;clear h1;refine zW ?_;intros;refine kr 4 o1 hm (fun ns B2 h2 o2 fz=>?_) fun B2 h2 fz=>?_
  ·have hl:=iv h2;have hi:=jJ h2;obtain⟨a,b,c,d,rfl⟩:∃a b c d,ns=[a,b,c,d]:=by
    match ns,hl with
    |[a,b,c,d],_=>grind
   simp only[aaQ,abe,aeV,aeG,afu]at hi;have Nh:=(fz 1005 awL awL).trans zi;have J7:=fz.trans hN.out;have iH:=v1.of (bx':=B2) fun t ht=>J7.kl t awN awN awN;have bS:jn fs=some (.ey ⟨v,a,b,c,d⟩,m.drop 4):=GB.out _ (by rw[h2];rfl);replace J7:Hid _:=J7;clear h2 hl hm hF hO o1 fz hN GB v1 hB;refine zW ?_;intros;refine app [219] iH (fun x' β hv=>?_) awN;have hf:=hv.facts;refine zW ?_;intros;obtain⟨k1,k2⟩:=fl.fin (B:=B) (B2:=B2) J7.out (k:=219) (β:=β) (v:=⟨e,1,17,110,[.agg (zP (ins x (.ey ⟨v,a,b,c,d⟩)) ⟨n.g,n.t,n.h,x',n.r,n.v,n.s,n.e,n.x⟩ w)]⟩);have hR:=hR.out;refine⟨_,_,⟨n.g,n.t,n.h,x',n.r,n.v,n.s,n.e,n.x⟩,rfl,⟨aY _ _ _,⟨hR.l.g.k k1,hR.l.t.k k1,hR.l.h.k k1,?_,hR.l.r.k k1,hR.l.s.k k1,hR.l.x.k k1⟩,hR.v.kl k1⟩,.inl o2,k2⟩;show dS _ _ _ _ _ ((x.s.bp++[_]).map _);rw[aeI];exact dS.add (ue hv) v2 v3 rfl rfl ux
  ·have bS:jn fs=none:=GB.out _ awN;have J7:=fz.trans hN.out;replace J7:Hid _:=J7;clear GB fz hN;repeat' first|exact zQ|with_reducible apply zJ<;>intro _|((with_reducible refine dU ?_ (fun _=>?_) fun _=>?_);exact pr)|refine zK ?_|fail
   exact fun _=>fl.nv J7.out
 ·have bS:jn fs=none:=by unfold jn;rw[h1];rfl
  replace hN:Hid _:=hN;repeat' first|exact zQ|with_reducible apply zJ<;>intro _|((with_reducible refine dU ?_ (fun _=>?_) fun _=>?_);exact pr)|refine zK ?_|fail
  exact fun _=>fl.nv hN.out
def RF(x:Rec):x.s.cB.length<=kh x:=auG
def O1(a b c d:Int)(ws:List ae):List ae->Option (Item×List ae)
 |[]=>some (.term ⟨a,b,c,d,ws,[],[],true⟩,[])
 |x::l=>(eD 1 (x::l)).bind fun _=>(eD l.length l).map fun tg=>(.term ⟨a,b,c,d,ws,tg,x,false⟩,[])
def tmA(m:List ae):List Int->Option (Item×List ae)
 |[a,b,c,d,k]=>(eD k.toNat m).bind fun ws=>O1 a b c d ws (m.drop k.toNat)
 |_=>none
def gS(fs:List ae):Option (Item×List ae):=(ea 5 fs).bind (tmA (fs.drop 5))
def Pb{x:ae}{l ws:List ae}(h:eD 1 (x::l)=some ws):ws=[x]:=by simp_all[eD]
def rZ(bx' bx:ab):Prop:=∀q,q≠112->q≠205->(q<300\/1000<=q)->bx' q=bx q
theorem rZ.fin{B B2 β:ab}{k:Nat}{v:Bx}(h:rZ B2 B)(hk:206<=k/\k<=260:=by decide):KL k (ah (an [(k,k)] β B2) 1005 v) B/\rY (ah (an [(k,k)] β B2) 1005 v) B:=by
 refine⟨fun q h1 h2 h3=>?_,fun q h1 h2 h3=>?_⟩
 ·rw[al oM];exact(show an [(k,k)] β B2 q=B2 q by simp[an,aZ];omega).trans (h q oM oM oM)
 ·rw[al h1];exact(show an [(k,k)] β B2 q=B2 q by simp[an,aZ];omega).trans (h q h2 oM oM)
theorem rZ.nv{B B2:ab}(h:rZ B2 B):rY B2 B:=fun q h1 h2 h3=>h q h2 oM oM
def adi{a b c d:Int}{ws:List ae}:∀(j:Nat) x x',(D.agg [I a,I b,I c,I d,strs ws,.ak,.str [],.bool true]).cells[j]? =some x->(Term.d ⟨a,b,c,d,ws,[],[],true⟩).cells[j]? =some x'->bA x x':=fun j x x' h1 h2=>by rcases j with _|_|_|_|_|_|_|_|j<;>simp[D.cells]at h1 h2<;>subst h1<;>subst h2<;>first|exact .refl _|exact .nil _
def Yo{P:Program}{C:Calc}{σ:Env}{bx:ab}{full:List Oper}{Pn:D->ab->Prop}{Q:Env->ab->Prop}(M:Env->ab->Prop)(t:sc)(h:EE full t=true)(hs:uj P ⟨C.o,C.tab,C.base,C.aN,C.lo,none,false,false⟩ full t Pn M σ bx)(hm:∀σ bx,M σ bx->Q σ bx):At P C full Pn Q σ bx:=
 gU t h (rO (fun _ _ h=>h) hm t hs)
def aad:wL 110 gS fun _=>True:=by
 intro e ef B x w n fs hR hF hO hz _;show az _ _ _ _ _ _ _;refine fB 55 200 f110 [(2000001,[]),(2000003,[]),(1,[(17,3),(14,3),(11,3),(8,3),(17,1),(14,1),(11,1),(8,1),(4,1),(3,1)]),(3,[(4,2)]),(5,[(8,6)])] [] ?_;refine zW ?_;intros;refine kr 5 hF hO (fun ns B1 h1 o1 hN=>?_) fun B1 h1 hN=>?_
 rotate_left
 ·have bS:gS fs=none:=by unfold gS;rw[h1];rfl
  replace hN:Hid _:=hN;refine zW ?_;exact auK
 have hl:=iv h1;have hi:=jJ h1;obtain⟨a,b,c,d,k,rfl⟩:∃a b c d k,ns=[a,b,c,d,k]:=by
  match ns,hl with
  |[a,b,c,d,k],_=>grind
 simp only[aaQ,abe,aeV,aeG,afu]at hi;obtain⟨k,rfl⟩:∃j:Nat,k=j:=⟨k.toNat,oM⟩
 have hm:=hO.drop 5;have hC:gS fs=(eD k (fs.drop 5)).bind fun ws=>O1 a b c d ws ((fs.drop 5).drop k):=by unfold gS;rw[h1];rfl
 have zi:=(hN 1005 awL awL).trans hR.b;generalize fs.drop 5=m at *;replace hN:Hid _:=hN;replace hC:Hid _:=hC;replace hR:Hid _:=hR;clear hF hO hl h1;refine zW ?_;intros;refine Yo (fun τ β=>τ 0= .loc 1005 e 0 0/\τ 1= .loc 112 ef 0 0/\∃e5 ws,τ 5= .loc 205 e5 0 0/\eD k m=some ws/\j8 β ef (m.drop k)/\β 205=⟨e5,1,8,92,[.agg [I a,I b,I c,I d,strs ws,.ak,.str [],.bool true]]⟩/\Hid (rZ β B)) (.aD 0 (.aD 1 (.aD 3 (.aD 4 (.aD 6 (.aD 7 (.aD 9 (.aD 10 (.aD 12 (.aD 13 (.aD 14 (.load 2 805 (.load 5 805 (.load 8 805 (.load 11 805 (.load 15 805 (.both 16 [805] (.aD 17 (.both 18 [805] (.both 19 [] .fin .stop) .stop)) (.both 18 [805] (.both 16 [805] (.aD 17 (.both 19 [] .fin .stop)) .stop) .stop)))))))))))))))))) ar ?_ fun τ β hM=>?_
 ·refine zW ?_;intros;constructor
  ·refine yW k o1 hm (fun ws B2 h2 o2 fz=>?_) fun B2 h2 fz=>?_
   ·have Nh:=(fz 1005 awL awL).trans zi;replace fz:Hid _:=fz.trans hN.out;clear hN;refine zW ?_;intros;exact⟨_,ws,rfl,rfl,o2,rfl,fun q q1 q2 q3=>(al q2).trans ((al q2).trans (fz.out q q1 q3))⟩
   ·have bS:gS fs=none:=by rw[hC.out,h2];rfl
    replace fz:Hid _:=fz.trans hN.out;clear hN;repeat' first|exact zQ|with_reducible apply zJ<;>intro _|((with_reducible refine dU ?_ (fun _=>?_) fun _=>?_);exact pr)|refine zK ?_|fail
    exact fun _=>fl.nv fz.out
  ·refine yW k (B:=ah B1 205 _) o1 hm (fun ws B2 h2 o2 fz=>?_) fun B2 h2 fz=>?_
   ·have Nh:=(fz 1005 awL awL).trans zi;have J3:=fz 205 awL awL;replace fz:Hid _:=And.intro hN.out fz;clear hN;refine zW ?_;intros;exact⟨_,ws,rfl,rfl,o2,rfl,fun q q1 q2 q3=>(al q2).trans ((fz.out.2 q q1 q3).trans ((al q2).trans (fz.out.1 q q1 q3)))⟩
   ·have bS:gS fs=none:=by rw[hC.out,h2];rfl
    replace fz:Hid _:=And.intro hN.out fz;clear hN;repeat' first|exact zQ|with_reducible apply zJ<;>intro _|((with_reducible refine dU ?_ (fun _=>?_) fun _=>?_);exact pr)|refine zK ?_|fail
    exact fun _ q q1 q2 q3=>(fz.out.2 q q2 oM).trans ((al oM).trans (fz.out.1 q q2 oM))
 ·obtain⟨t0,t1,e5,ws,t5,h2,o2,hb5,fz⟩:=hM;replace hC:Hid _:=(by rw[hC.out,h2];rfl:gS fs=O1 a b c d ws (m.drop k))
  replace hm:=hm.drop k;clear hN o1 h2 zi;generalize m.drop k=m at *;have hb:β 112=⟨ef,1,1,188,[.agg [.sl 1 (m.map D.str)]]⟩:=o2;cases m with
  |nil=>
   have h1:=(fz.out 1005 awL awL awL).trans hR.out.b;obtain⟨l,v1,v2,v3,v4⟩:=hR.out.l.t.own;have hs:=RF x;rw[aa0]at v4;obtain⟨u1,u2,u3,u4,u5,u6,u7,u8,u9⟩:=hR.out.nX;unfold jk at *;have iH:=v1.of (bx':=β) fun t ht=>fz.out t awN awN awN;have bS:gS fs=some (.term ⟨a,b,c,d,ws,[],[],true⟩,[]):=hC.out;clear hC v1;refine zW ?_;intros;refine app [250] iH (fun x' β2 hv=>?_) awN;have hf:=hv.facts;refine zW ?_;intros;obtain⟨k1,k2⟩:=rZ.fin fz.out (k:=250) (β:=β2) (v:=⟨e,1,17,110,[.agg (zP (ins x (.term ⟨a,b,c,d,ws,[],[],true⟩)) ⟨n.g,x',n.h,n.b,n.r,n.v,n.s,n.e,n.x⟩ w)]⟩);have hR:=hR.out;refine⟨_,_,⟨n.g,x',n.h,n.b,n.r,n.v,n.s,n.e,n.x⟩,rfl,⟨aY _ _ _,⟨hR.l.g.k k1,?_,hR.l.h.k k1,hR.l.b.k k1,hR.l.r.k k1,hR.l.s.k k1,hR.l.x.k k1⟩,hR.v.kl k1⟩,.inl o2,k2⟩;show dS _ _ _ _ _ ((x.s.cB++[_]).map _);rw[aeI];exact dS.add (ue hv) v2 v3 rfl rfl adi
  |cons f m=>
   have h0:(0:Int)<((m.length+1:Nat):Int):=oM;refine zW ?_;intros;refine gU (.aD 0 (.aD 4 (.both 1 [] (.aD 2 (.load 3 805 (.both 5 [805] (.aD 6 (.both 7 [] .fin .stop)) .stop))) .stop))) ar ?_;refine zW ?_;intros;refine yW 1 o2 hm (fun w1 B2 h2 o3 fA=>?_) fun B2 h2 fA=>?_
   rotate_left
   ·have bS:gS fs=none:=by rw[hC.out,O1,h2];rfl
    have h9:rZ B2 B:=fun q q1 q2 q3=>(fA q q1 q3).trans (fz.out q q1 q2 q3);replace h9:Hid _:=h9;clear fz fA;repeat' first|exact zQ|with_reducible apply zJ<;>intro _|((with_reducible refine dU ?_ (fun _=>?_) fun _=>?_);exact pr)|refine zK ?_|fail
    exact fun _=>rZ.nv h9.out
   obtain rfl:=Pb h2;have hb6:=(fA 205 awL awL).trans hb5;have h9:rZ B2 B:=fun q q1 q2 q3=>(fA q q1 q3).trans (fz.out q q1 q2 q3);replace h9:Hid _:=h9;have h1:=(h9.out 1005 awL awL awL).trans hR.out.b;have mP:=(fz.out 1005 awL awL awL).trans hR.out.b;replace hC:Hid _:=(by rw[hC.out,O1,h2];rfl:gS fs=(eD m.length m).map fun tg=>(.term ⟨a,b,c,d,ws,tg,f,false⟩,[]))
   replace hm:=hm.tail;replace o3:j8 B2 ef m:=o3;clear fz fA h2 o2 hb;refine zW ?_;intros;refine Mo (B:=ah (ah B2 205 _) 205 _) o3 hm (fun tg B3 h3 o4 fA=>?_) fun B3 h3 fA=>?_
   rotate_left
   ·have bS:gS fs=none:=avp
    have jF:rZ B3 B:=fun q q1 q2 q3=>(fA q q1 q3).trans ((al q2).trans ((al q2).trans (h9.out q q1 q2 q3)));replace jF:Hid _:=jF;clear fA;refine zW ?_;intros;exact rZ.nv jF.out
   have hb7:=(fA 205 awL awL).trans (aY _ _ _);have jF:rZ B3 B:=fun q q1 q2 q3=>(fA q q1 q3).trans ((al q2).trans ((al q2).trans (h9.out q q1 q2 q3)));replace jF:Hid _:=jF;have h1:=(jF.out 1005 awL awL awL).trans hR.out.b;obtain⟨l,v1,v2,v3,v4⟩:=hR.out.l.t.own;have hs:=RF x;rw[aa0]at v4;obtain⟨u1,u2,u3,u4,u5,u6,u7,u8,u9⟩:=hR.out.nX;unfold jk at *;have iH:=fun v=>v1.of (bx':=ah B3 205 v) fun t ht=>(al awN).trans (jF.out t awN awN awN);have gM:∀v,rZ (ah B3 205 v) B:=fun v q q1 q2 q3=>(al q2).trans (jF.out q q1 q2 q3);replace iH:Hid _:=iH;replace gM:Hid _:=gM;have bS:gS fs=some (.term ⟨a,b,c,d,ws,tg,f,false⟩,[]):=avp
   clear hC v1 fA h9 h3 hb5 hb6 mP o3;refine zW ?_;intros;refine app [250] (iH.out _) (fun x' β2 hv=>?_) awN;have hf:=hv.facts;refine zW ?_;intros;obtain⟨k1,k2⟩:=rZ.fin (gM.out _) (k:=250) (β:=β2) (v:=⟨e,1,17,110,[.agg (zP (ins x (.term ⟨a,b,c,d,ws,tg,f,false⟩)) ⟨n.g,x',n.h,n.b,n.r,n.v,n.s,n.e,n.x⟩ w)]⟩);have hR:=hR.out;refine⟨_,_,⟨n.g,x',n.h,n.b,n.r,n.v,n.s,n.e,n.x⟩,rfl,⟨aY _ _ _,⟨hR.l.g.k k1,?_,hR.l.h.k k1,hR.l.b.k k1,hR.l.r.k k1,hR.l.s.k k1,hR.l.x.k k1⟩,hR.v.kl k1⟩,.inl o4,k2⟩;show dS _ _ _ _ _ ((x.s.cB++[_]).map _);rw[aeI];exact dS.add (ue hv) v2 v3 rfl rfl ux
def agJ(x:Rec):x.cn.length<=kh x:=by grind [kh,items]
def EI(i:ae->List ae->Item):List ae->Option (Item×List ae)
 |[]=>none
 |x::l=>(eD 1 (x::l)).bind fun _=>(eD l.length l).map fun tg=>(i x tg,[])
def fxA(m:List ae):List Int->Option (Item×List ae)
 |[a,b,c,d,e,f]=>EI (fun x l=> .fix ⟨a,b,c,d,e,f,l,x⟩) m
 |_=>none
def lz(fs:List ae):Option (Item×List ae):=(ea 6 fs).bind (fxA (fs.drop 6))
def abY:wL 128 lz fun _=>True:=by
 intro e ef B x w n fs hR hF hO hz _;show az _ _ _ _ _ _ _;refine fB 43 200 f128 [(2000001,[]),(1,[(31,11),(28,11),(25,11),(22,11),(19,11),(16,11),(13,11),(31,7),(28,7),(25,7),(22,7),(19,7),(16,7),(13,7),(9,7),(31,5)])] [] ?_;repeat' first|exact zQ|with_reducible apply zJ<;>intro _|((with_reducible refine dU ?_ (fun _=>?_) fun _=>?_);exact pr)|refine zK ?_|fail
 refine kr 6 hF hO (fun ns B1 h1 o1 hN=>?_) fun B1 h1 hN=>?_
 rotate_left
 ·have bS:lz fs=none:=by unfold lz;rw[h1];rfl
  replace hN:Hid _:=hN;repeat' first|exact zQ|with_reducible apply zJ<;>intro _|((with_reducible refine dU ?_ (fun _=>?_) fun _=>?_);exact pr)|refine zK ?_|fail
  exact fl.nv hN.out
 have hl:=iv h1;have hi:=jJ h1;obtain⟨a,b,c,d,e',f,rfl⟩:∃a b c d e' f,ns=[a,b,c,d,e',f]:=by
  match ns,hl with
  |[a,b,c,d,e',f],_=>grind
 simp only[aaQ,abe,aeV,aeG,afu]at hi;have hm:=hO.drop 6;have hC:lz fs=EI (fun x l=> .fix ⟨a,b,c,d,e',f,l,x⟩) (fs.drop 6):=by unfold lz;rw[h1];rfl
 have zi:=(hN 1005 awL awL).trans hR.b;obtain⟨u1,u2,u3,u4,u5,u6,u7,u8,u9⟩:=hR.nX;obtain⟨l,v1,v2,v3,v4⟩:=hR.l.x.own;have hs:=agJ x;rw[aa0]at v4;unfold jk at *;generalize fs.drop 6=m at *;replace hN:Hid _:=hN;replace hC:Hid _:=hC;replace hR:Hid _:=hR;clear hF hO hl h1;refine zW ?_;intros;refine gU (.aD 0 (.aD 1 (.aD 2 (.aD 3 (.aD 4 (.aD 6 (.aD 7 (.aD 9 (.aD 10 (.aD 12 (.aD 13 (.aD 15 (.aD 16 (.aD 18 (.aD 19 (.aD 21 (.aD 22 (.aD 24 (.aD 28 (.load 5 805 (.load 8 805 (.load 11 805 (.load 14 805 (.load 17 805 (.load 20 805 (.load 23 805 (.both 25 [805] (.aD 26 (.load 27 805 (.both 29 [805] (.aD 30 (.both 31 [805] (.both 32 [] (.aD 33 (.aD 34 (.aD 35 (.both 36 [] .fin .stop)))) .stop) .stop)) .stop))) .stop))))))))))))))))))))))))))) ar ?_;refine zW ?_;intros;refine yW 1 o1 hm (fun w1 B2 h2 o2 fz=>?_) fun B2 h2 fz=>?_
 rotate_left
 ·have bS:lz fs=none:=by
   rw[hC.out];unfold EI
   exact awN
  replace fz:Hid _:=fz.trans hN.out;clear hN;repeat' first|exact zQ|with_reducible apply zJ<;>intro _|((with_reducible refine dU ?_ (fun _=>?_) fun _=>?_);exact pr)|refine zK ?_|fail
  exact fun _=>fl.nv fz.out
 have Nh:=(fz 1005 awL awL).trans zi;obtain⟨s,m,rfl⟩:∃s m',m=s::m':=by
  cases m with
  |nil=>cases h2
  |cons y m=>grind
 obtain rfl:=Pb h2;replace hC:Hid _:=(by rw[hC.out,EI,h2];rfl:lz fs=(eD m.length m).map fun tg=>(.fix ⟨a,b,c,d,e',f,tg,s⟩,[]))
 replace hm:=hm.tail;replace o2:j8 B2 ef m:=o2;replace fz:Hid _:=fz.trans hN.out;clear hN o1 h2;refine zW ?_;intros;refine Mo o2 hm (fun tg B3 h3 o3 fA=>?_) fun B3 h3 fA=>?_
 rotate_left
 ·have bS:lz fs=none:=avp
  replace fA:Hid _:=fA.trans fz.out;clear fz;repeat' first|exact zQ|with_reducible apply zJ<;>intro _|((with_reducible refine dU ?_ (fun _=>?_) fun _=>?_);exact pr)|refine zK ?_|fail
  exact fun _=>fl.nv fA.out
 have hB3:=(fA 1005 awL awL).trans Nh;replace fA:Hid _:=fA.trans fz.out;have iH:=v1.of (bx':=B3) fun t ht=>fA.out t awN awN;have bS:lz fs=some (.fix ⟨a,b,c,d,e',f,tg,s⟩,[]):=avp
 clear hC v1 fz h3 o2;refine zW ?_;intros;refine app [239] iH (fun x' β2 hv=>?_) awN;have hf:=hv.facts;refine zW ?_;intros;obtain⟨k1,k2⟩:=fl.fin fA.out (k:=239) (β:=β2) (v:=⟨e,1,17,110,[.agg (zP (ins x (.fix ⟨a,b,c,d,e',f,tg,s⟩)) ⟨n.g,n.t,n.h,n.b,n.r,n.v,n.s,n.e,x'⟩ w)]⟩);have hR:=hR.out;refine⟨_,_,⟨n.g,n.t,n.h,n.b,n.r,n.v,n.s,n.e,x'⟩,rfl,⟨aY _ _ _,⟨hR.l.g.k k1,hR.l.t.k k1,hR.l.h.k k1,hR.l.b.k k1,hR.l.r.k k1,hR.l.s.k k1,?_⟩,hR.v.kl k1⟩,.inl o3,k2⟩;show dS _ _ _ _ _ ((x.cn++[_]).map _);rw[aeI];exact dS.add (ue hv) v2 v3 rfl rfl ux
def tY:List Int->Option Item
 |[a,b,c,d,e',f,g]=>some (.fU a b c d e' f g)
 |_=>none
def adj(j:Nat)(x x':D)(h1:(D.agg [D.str [],D.ak,D.str [],D.int .i64 0,D.ak,D.ak]).cells[j]? =some x)(h2:(D.agg [D.str [],.sl 1 [],D.str [],D.int .i64 0,.sl 5 [],.sl 5 []]).cells[j]? =some x'):bA x x':=by rcases j with _|_|_|_|_|_|j<;>simp[D.cells]at h1 h2<;>subst h1<;>subst h2<;>first|exact .refl _|exact .nil _
def W9:wL 105 (cx 7 tY) fun _=>True:=by
 intro e ef B x w n fs hR hF hO hz _;show az _ _ _ _ _ _ _;refine fB 41 200 f105 [(1000036,[])] [] ?_;obtain⟨u1,u2,u3,u4,u5,u6,u7,u8,u9⟩:=hR.nX;unfold jk at *;refine zW ?_;intros;refine kr 7 hF hO (fun ns B2 h1 o3 hN=>?_) fun B2 h1 hN=>?_
 ·have hl:=iv h1;have hi:=jJ h1;obtain⟨a,b,c,d,e',f,g,rfl⟩:∃a b c d e' f g,ns=[a,b,c,d,e',f,g]:=by
   match ns,hl with
   |[a,b,c,d,e',f,g],_=>grind
  simp only[aaQ,abe,aeV,aeG,afu]at hi;have hB:=(hN 1005 awL awL).trans hR.b;have bS:cx 7 tY fs=some (.fU a b c d e' f g,fs.drop 7):=auY
  replace hN:Hid _:=hN;replace hR:Hid _:=hR;clear h1 hl hF hO;repeat' first|exact zQ|with_reducible apply zJ<;>intro _|((with_reducible refine dU ?_ (fun _=>?_) fun _=>?_);exact pr)|refine zK ?_|fail
  have hR:=hR.out;have k1:∀v1 v2 v3,KL 236 (ah (ah (ah B2 1005 v1) 236 v2) 1005 v3) B:=fun v1 v2 v3 q q1 q2 q3=>((al oM).trans ((al q3).trans (al oM))).trans (hN.out q oM oM);refine⟨_,_,⟨.ba 236 ((B2 236).ep+1) 6 0 1,n.t,n.h,n.b,n.r,n.v,n.s,n.e,n.x⟩,rfl,⟨aY _ _ _,⟨⟨_,.inr ⟨236,_,sI,rfl,rfl⟩,?_,rfl⟩,hR.l.t.k (k1 _ _ _),hR.l.h.k (k1 _ _ _),hR.l.b.k (k1 _ _ _),hR.l.r.k (k1 _ _ _),hR.l.s.k (k1 _ _ _),hR.l.x.k (k1 _ _ _)⟩,hR.v.kl (k1 _ _ _)⟩,.inl o3,fun q q1 q2 q3=>((al q1).trans ((al oM).trans (al q1))).trans (hN.out q q2 oM)⟩;exact jl.nil.snoc rfl adj
 ·have bS:cx 7 tY fs=none:=auY
  replace hN:Hid _:=hN;refine zW ?_;exact auK
def Xp(x:Rec):x.s.aC.length<=kh x:=by grind [kh,items,wS,List.length_append]
def H8{bx:ab}{v:D}{vs:List aV}(h:VP bx v vs\/VL bx v vs):∃M l,(((bx 254).k≠1/\M=bx)\/((bx 254).k=1/\cE bx (bx 254).es=some l/\M=Go.V.dO bx 254 l))/\(∀q,q∉[254,232,233,240,235]->M q=bx q)/\aP M [254] 62 14 v l/\jl l (vs.map aV.d)/\D.aH l=true/\VP M v vs/\(VP bx v vs->M=bx):=by
 rcases h with h|h
 ·have h0:=h;rcases h with⟨rfl,h4,h5⟩|⟨e',es,rfl,h4,h5,h6⟩
  ·exact⟨bx,[],.inl ⟨h5,rfl⟩,fun _ _=>rfl,.nil _ _ _ _,by rw[h4];exact .nil,rfl,h0,fun _=>rfl⟩
  ·obtain⟨o1,o2⟩:=kf bx es h6;have jG:(bx 254).es=es:=awM
   have hf:aS bx es=bx:=by grind [fP]
   have hM:Go.V.dO bx 254 es=bx:=by
    funext q;unfold Go.V.dO;rw[jG,hf]
    grind [aY,al]
   exact⟨_,es,.inr ⟨awM,awN,rfl⟩,fun q _=>by rw[hM],.inr ⟨254,e',sI,rfl,awy⟩,h5,h6,awN,fun _=>hM⟩
 obtain⟨e',es,l0,w,g,k,s,b,rfl,rfl,h4,h5,h6,h7,h8,h9,jF⟩:=h;have jG:(bx 254).es=es++[.agg (rV w g k s b)]:=awM
 obtain⟨o1,o2⟩:=kf bx es h6;have hn:∀q∈bY (es++[.agg (rV w g k s b)]),q∈[232,233,240,235]:=by
  intro q hq;rw[CZ,o2]at hq;simp only[bY,Go.V.names,adC,aez,abr]at hq
  grind [aP.names]
 obtain⟨r1,p1,w1,q1⟩:=ud h7 au1 (jl.refl _);obtain⟨r2,p2,w2,q2⟩:=ud h8 au1 (jl.refl _);obtain⟨r3,p3,w3,q3⟩:=ud h9 au1 (jl.refl _);obtain⟨r4,p4,w4,q4⟩:=ud jF au1 (jl.refl _);have ho:aU bx (.agg (rV w g k s b))=some (.agg (rV w r1 r2 r3 r4)):=auX
 have hol:=AX ho _ _ o1;have bh:(254:Nat)∉bY (bx 254).es:=by rw[jG];intro h;have:=hn _ h;grind
 have hM:Go.V.dO bx 254 (es++[.agg (rV w r1 r2 r3 r4)]) 254=⟨e',1,14,62,es++[.agg (rV w r1 r2 r3 r4)]⟩:=by simp_all[Go.V.dO,aY,fP]
 have hW:jl (es++[.agg (rV w r1 r2 r3 r4)]) ((l0++[w]).map aV.d):=by
  rw[aeI];refine h5.snoc rfl fun j c c' e1 e2=>?_;rcases j with _|_|_|_|_|_|_|_|_|_|_|_|_|_|j<;>simp[D.cells]at e1 e2<;>subst e1<;>subst e2<;>first|exact .refl _|assumption
 have hp:D.aH (es++[.agg (rV w r1 r2 r3 r4)])=true:=by simp_all[yd,D.aH,D.pure]
 refine⟨_,_,.inr ⟨awM,awN,rfl⟩,fun q hq=>?_,.inr ⟨254,e',sI,sI,hM⟩,hW,hp,.inr ⟨e',_,sI,hM,hW,hp⟩,fun h=>?_⟩
 ·exact arD
 ·rcases h with⟨h,_⟩|⟨_,es',_,h,_,hp⟩
  ·exact awI
  ·rw[h4]at h;injection h with _ _ _ _ h;subst h;obtain⟨p1,p2⟩:=kf bx _ hp;rw[p1]at hol;injection hol with hol;funext q;unfold Go.V.dO;rw[jG];have hf:aS bx (es++[.agg (rV w g k s b)])=bx:=by grind [fP]
   rw[hf]
   grind [aY,al]
def adD{bx:ab}{v e:D}{vs:List aV}(h:VH bx v vs e []):∃M l,(((bx 254).k≠1/\M=bx)\/((bx 254).k=1/\cE bx (bx 254).es=some l/\M=Go.V.dO bx 254 l))/\(∀q,q∉[254,232,233,240,235]->M q=bx q)/\aP M [254] 62 14 v l/\jl l (vs.map aV.d)/\D.aH l=true/\e= .ak/\(bx 241).k≠1:=by
 have key:((VP bx v vs\/VL bx v vs)/\e= .ak/\(bx 241).k≠1):=by
  rcases h with⟨h,h1,h2,h3⟩|⟨h,h1⟩
  ·exact awN
  ·obtain⟨_,_,l0,x,_,h2,_⟩:=h1;simp at h2
 obtain⟨M,l,h1,h2,h3,h4,h5,_⟩:=H8 key.1
 exact awN
def abz{bx:ab}{v:D}{hs:List bL}(h:HL bx v hs):∃M l,((bx 241).k=1/\cE bx (bx 241).es=some l/\M=Go.V.dO bx 241 l)/\(∀q,q∉[241,240]->M q=bx q)/\aP M [241] 69 8 v l/\jl l (hs.map bL.d)/\D.aH l=true:=by
 obtain⟨e',es,l0,w,g,rfl,rfl,h4,h5,h6,h7⟩:=h;have jG:(bx 241).es=es++[.agg (Eo w g)]:=awM
 obtain⟨o1,o2⟩:=kf bx es h6;have hn:∀q∈bY (es++[.agg (Eo w g)]),q=240:=by
  intro q hq;rw[CZ,o2]at hq;simp only[bY,Go.V.names,adC,aez]at hq;have:=aP.names h7 q hq;exact awN
 obtain⟨r1,p1,w1,q1⟩:=ud h7 au1 (jl.refl _);have ho:aU bx (.agg (Eo w g))=some (.agg (Eo w r1)):=auX
 have hol:=AX ho _ _ o1;have bh:(241:Nat)∉bY (bx 241).es:=awN
 refine⟨_,es++[.agg (Eo w r1)],⟨awM,awN,rfl⟩,fun q hq=>?_,.inr ⟨241,e',sI,sI,?_⟩,?_,?_⟩
 ·exact arD
 ·simp_all[Go.V.dO,aY,fP]
 ·rw[aeI];refine h5.snoc rfl fun j c c' e1 e2=>?_;rcases j with _|_|_|_|_|_|_|_|j<;>simp[D.cells]at e1 e2<;>subst e1<;>subst e2<;>first|exact .refl _|assumption
 simp_all[yd,D.aH,D.pure]
def P5{bx:ab}{v e:D}{vs:List aV}{hs:List bL}(h:VH bx v vs e hs):∃M M' l l',(((bx 254).k≠1/\M=bx)\/((bx 254).k=1/\cE bx (bx 254).es=some l/\M=Go.V.dO bx 254 l))/\(((M 241).k≠1/\M'=M)\/((M 241).k=1/\cE M (M 241).es=some l'/\M'=Go.V.dO M 241 l'))/\(∀q,q∉[254,232,233,240,235,241]->M' q=bx q)/\VP M' v vs/\aP M' [241] 69 8 e l'/\jl l' (hs.map bL.d)/\D.aH l'=true:=by
 rcases h with⟨h,rfl,rfl,h3⟩|⟨h,h1⟩
 ·obtain⟨M,l,h1,h2,Vi,h4,h5,h6,_⟩:=H8 h;refine⟨M,M,l,[],h1,.inl ⟨awN,rfl⟩,fun q hq=>h2 q fun h=>hq awN,h6,.nil _ _ _ _,.nil,rfl⟩
 ·obtain⟨M,l,mP,h2,Vi,h4,h5,h6,h7⟩:=H8 (.inl h);obtain rfl:=h7 h;obtain⟨M',l',g1,g2,g3,g4,g5⟩:=abz h1;exact⟨M,M',l,l',mP,.inr g1,fun q hq=>g2 q fun h=>hq awN,h6.of (g2 254 awL),g3,g4,g5⟩
def Uc{bx β:ab}{x':D}{l:List D}{vs:List aV}{w:aV}(hv:aP β [254] 62 14 x' (l++[.agg (rV w .ak .ak .ak .ak)]))(hw:jl l (vs.map aV.d))(hp:D.aH l=true)(hb:bx 254=β 254)(h1:w.bq.gs=[]:=by rfl)(h2:w.bq.ks=[]:=by rfl)(h3:w.cz=[]:=by rfl)(h4:w.br.bl=[]:=by rfl):VL bx x' (vs++[w]):=by
 rcases hv with⟨_,h⟩|⟨t,e,ht,rfl,h⟩
 ·exact awv
 ·simp at ht;subst ht;refine⟨e,l,vs,w,.ak,.ak,.ak,.ak,rfl,rfl,hb.trans h,hw,hp,?_,?_,?_,?_⟩
  ·rw[h1];exact .nil _ _ _ _
  ·rw[h2];exact .nil _ _ _ _
  ·rw[h3];exact .nil _ _ _ _
  ·rw[h4];exact .nil _ _ _ _
theorem Jr.of{bx bx':ab}{x:Rec}{n:NL}(h:Jr bx x n)(hb:∀q∈[236,256,250,248,219,237,228,239],bx' q=bx q):Jr bx' x n:=
 ⟨h.g.of fun t ht=>hb t awN,h.t.of fun t ht=>hb t awN,h.h.of fun t ht=>hb t awN,h.b.of fun t ht=>hb t awN,h.r.of fun t ht=>hb t awN,h.s.of fun t ht=>hb t awN,h.x.of fun t ht=>hb t awN⟩
theorem Jr.v{bx:ab}{s:cP}{fx:List Fix}{n:NL}(h:Jr bx ⟨s,fx⟩ n)(vs:List aV)(hs:List bL)(v e:D):Jr bx ⟨{s with aC:=vs,heard:=hs},fx⟩ {n with v:=v,e:=e}:=⟨h.g,h.t,h.h,h.b,h.r,h.s,h.x⟩
def Rk{B B2 M β:ab}{k:Nat}{v:Bx}{S:List Nat}(hM:∀q,q∉S->M q=B2 q)(hN:fl B2 B)(hS:S.all (fun q=>decide (206<=q)&&decide (q<=260))=true)(hk:k∈S):(∀q,206<=q->q<=260->q∉S->ah (an [(k,k)] β M) 1005 v q=B q)/\rY (ah (an [(k,k)] β M) 1005 v) B:=by
 have hS':∀q∈S,206<=q/\q<=260:=fun q hq=>awN
 have dZ:=hS' k hk;refine⟨fun q h1 h2 h3=>?_,fun q h1 h2 h3=>?_⟩
 ·have bh:q≠k:=fun h=>h3 (h▸hk);rw[al oM];exact(show an [(k,k)] β M q=M q by simp[an,aZ];omega).trans ((hM q h3).trans (hN q oM oM))
 ·rw[al h1];exact(show an [(k,k)] β M q=M q by simp[an,aZ];omega).trans ((hM q fun h=>awN).trans (hN q h2 oM))
def Qy{B B2 M:ab}{S:List Nat}(hM:∀q,q∉S->M q=B2 q)(hN:fl B2 B)(hS:S.all (fun q=>decide (206<=q)&&decide (q<=260))=true):rY M B:=fun q h1 h2 h3=>
 (hM q fun h=>awN).trans (hN q h2 oM)
def t_:List Int->Option Item
 |[a,b,c,d,e',f,g,h,i,j]=>if g<=1 then some (.gF a b c d e' f (decide (g=1)) h i j)else none
 |_=>none
def XY(f:FuncId)(iq:List ae->Option (Item×List ae)):Prop:=∀(e ef:Nat) (B:ab) (x:Rec) (w:ae) (n:NL) (fs:List ae),BT B e x w n->j8 B ef fs->ou fs->kh x<=1099511627->x.s.heard=[]->
 az prog f 200 [.loc 1005 e 0 0,.loc 112 ef 0 0] B (fun d B'=>∃i m n',iq fs=some (i,m)/\d= .aL []/\BT B' e (ins x i) w n'/\VL B' n'.v (ins x i).s.aC/\T9 B' ef m/\rY B' B) (fun d B'=>iq fs=none/\d=nZ/\rY B' B)
def TZ:XY 117 (cx 10 t_):=by
 intro e ef B x w n fs hR hF hO hz bm;show az _ _ _ _ _ _ _;refine fB 59 200 f117 [(4000001,[(0,2000000254)]),(2,[(41,6)])] [] ?_;obtain⟨u1,u2,u3,u4,u5,u6,u7,u8,u9⟩:=hR.nX;unfold jk at *;refine zW ?_;intros;refine kr 10 hF hO (fun ns B2 h1 o3 hN=>?_) fun B2 h1 hN=>?_
 ·have hl:=iv h1;have hi:=jJ h1;obtain⟨a,b,c,d,e',f,g,h,i,j,rfl⟩:∃a b c d e' f g h i j,ns=[a,b,c,d,e',f,g,h,i,j]:=by
   match ns,hl with
   |[a,b,c,d,e',f,g,h,i,j],_=>grind
  simp only[aaQ,abe,aeV,aeG,afu]at hi;have hB:=(hN 1005 awL awL).trans hR.b;have hV:=hR.v;rw[bm]at hV;have hV2:VH B2 n.v x.s.aC n.e []:=hV.k fun q hq=>hN q awN awN;obtain⟨M,l,hM,qp,iH,v2,v3,v5,v6⟩:=adD hV2;have v4:=v2.len;have hs:=Xp x;rw[aa0]at v4;have bS:cx 10 t_ fs=(if g<=1 then some (.gF a b c d e' f (decide (g=1)) h i j)else none).map fun i=>(i,fs.drop 10):=auY
  have hBM:=(qp 1005 awL).trans hB;replace o3:j8 M ef (fs.drop 10):=(qp 112 awL).trans o3;replace v5:Hid _:=v5;replace qp:Hid _:=qp;replace hN:Hid _:=hN;replace hR:Hid _:=hR;clear h1 hl hF hO hV hV2;by_cases hg:g<=1
  ·rw[aaO hg]at bS;rcases hM with⟨hk,rfl⟩|⟨hk,ho,rfl⟩
   ·repeat' first|exact zQ|with_reducible apply zJ<;>intro _|((with_reducible refine dU ?_ (fun _=>?_) fun _=>?_);exact pr)|refine zK ?_|fail
    ·refine app [254] iH (fun x' β hv=>?_) awN;have hf:=hv.facts;refine zW ?_;intros;obtain⟨k1,k2⟩:=Rk (β:=β) (k:=254) (v:=⟨e,1,17,110,[.agg (zP (ins x (.gF a b c d e' f (decide (g=1)) h i j)) ⟨n.g,n.t,n.h,n.b,n.r,x',n.s,n.e,n.x⟩ w)]⟩) qp.out hN.out awL awL;have hR:=hR.out;have oK:=fun y=>Uc (β:=β) (vs:=x.s.aC) (w:=⟨a,b,c,d,e',f,decide (g=1),⟨[],h,[]⟩,[],⟨i,j,[]⟩⟩) (bx:=ah (an [(254,254)] β M) 1005 y) hv v2 v3 avR;refine⟨_,_,⟨n.g,n.t,n.h,n.b,n.r,x',n.s,n.e,n.x⟩,rfl,⟨aY _ _ _,(hR.l.of fun q hq=>k1 q ?_ ?_ ?_).v _ _ _ _,.inl ⟨.inr (oK _),v5.out,bm,?_⟩⟩,oK _,.inl o3,k2⟩
     ·exact avt
     ·exact avt
     ·exact avs
     exact avw
    exact awN
   ·repeat' first|exact zQ|with_reducible apply zJ<;>intro _|((with_reducible refine dU ?_ (fun _=>?_) fun _=>?_);exact pr)|refine zK ?_|fail
    ·refine app [254] iH (fun x' β hv=>?_) awN;have hf:=hv.facts;refine zW ?_;intros;obtain⟨k1,k2⟩:=Rk (β:=β) (k:=254) (v:=⟨e,1,17,110,[.agg (zP (ins x (.gF a b c d e' f (decide (g=1)) h i j)) ⟨n.g,n.t,n.h,n.b,n.r,x',n.s,n.e,n.x⟩ w)]⟩) qp.out hN.out awL awL;have hR:=hR.out;have oK:=fun y=>Uc (β:=β) (vs:=x.s.aC) (w:=⟨a,b,c,d,e',f,decide (g=1),⟨[],h,[]⟩,[],⟨i,j,[]⟩⟩) (bx:=ah (an [(254,254)] β (Go.V.dO B2 254 l)) 1005 y) hv v2 v3 avR;refine⟨_,_,⟨n.g,n.t,n.h,n.b,n.r,x',n.s,n.e,n.x⟩,rfl,⟨aY _ _ _,(hR.l.of fun q hq=>k1 q ?_ ?_ ?_).v _ _ _ _,.inl ⟨.inr (oK _),v5.out,bm,?_⟩⟩,oK _,.inl o3,k2⟩
     ·exact avt
     ·exact avt
     ·exact avs
     ·rw[al awL];exact(show(an [(254,254)] β _ 241).k≠1 by simpa[an,aZ]using(by rw[qp.out 241 awL];exact v6))
    exact awN
  ·rw[aaw hg]at bS;rcases hM with⟨hk,rfl⟩|⟨hk,ho,rfl⟩
   ·repeat' first|exact zQ|with_reducible apply zJ<;>intro _|((with_reducible refine dU ?_ (fun _=>?_) fun _=>?_);exact pr)|refine zK ?_|fail
    ·exact awN
    ·exact Qy qp.out hN.out awL
   ·repeat' first|exact zQ|with_reducible apply zJ<;>intro _|((with_reducible refine dU ?_ (fun _=>?_) fun _=>?_);exact pr)|refine zK ?_|fail
    ·exact awN
    ·exact Qy qp.out hN.out awL
 ·have bS:cx 10 t_ fs=none:=auY
  replace hN:Hid _:=hN;refine zW ?_;exact auK
def Z5(x:Rec):x.s.heard.length<=kh x:=by grind [kh,items,wR]
def adA{bx β:ab}{x':D}{l:List D}{hs:List bL}{w:bL}(hv:aP β [241] 69 8 x' (l++[.agg (Eo w .ak)]))(hw:jl l (hs.map bL.d))(hp:D.aH l=true)(hb:bx 241=β 241)(h1:w.words=[]:=by rfl):HL bx x' (hs++[w]):=by
 rcases hv with⟨_,h⟩|⟨t,e,ht,rfl,h⟩
 ·exact awv
 ·simp at ht;subst ht;refine⟨e,l,hs,w,.ak,rfl,rfl,hb.trans h,hw,hp,?_⟩;rw[h1];exact .nil _ _ _ _
def Zt{B B2 β:ab}{k:Nat}{v:Bx}{S:List Nat}(h1:∀q,206<=q->q<=260->q∉S->B2 q=B q)(h2:∀q,q≠112->(q<200\/1000<=q)->B2 q=B q)(hS:S.all (fun q=>decide (206<=q)&&decide (q<=260))=true)(hk:k∈S):(∀y y' q,206<=q->q<=260->q∉S->ah (an [(k,k)] β (ah (ah B2 205 y) 205 y')) 1005 v q=B q)/\∀y y',rY (ah (an [(k,k)] β (ah (ah B2 205 y) 205 y')) 1005 v) B:=by
 have hS':∀q∈S,206<=q/\q<=260:=fun q hq=>awN
 have dZ:=hS' k hk;have e1:∀y y' q,q≠k->q≠205->an [(k,k)] β (ah (ah B2 205 y) 205 y') q=B2 q:=fun y y' q g1 g2=>(show an [(k,k)] β (ah (ah B2 205 y) 205 y') q=ah (ah B2 205 y) 205 y' q by simp[an,aZ];omega).trans ((al g2).trans (al g2));refine⟨fun y y' q g1 g2 g3=>?_,fun y y' q g1 g2 g3=>?_⟩<;>grind [al]
def nN:List Int->Option Item
 |[a,b,c,d,e',f,g]=>some (.heard a b c d e' f g)
 |_=>none
def VC:wL 125 (cx 7 nN) fun _=>True:=by
 intro e ef B x w n fs hR hF hO hz bm;show az _ _ _ _ _ _ _;refine fB 46 200 f125 [(4000000,[(0,2000000254),(0,2000000241)]),(1,[(16,1),(13,1),(10,1),(7,1),(4,1)]),(2,[(15,6)])] [] ?_;obtain⟨u1,u2,u3,u4,u5,u6,u7,u8,u9⟩:=hR.nX;unfold jk at *;obtain⟨M1,M,l1,l,hM1,hM,qp,Q0,iH,v2,v3⟩:=P5 hR.v;have v4:=v2.len;have hs:=Z5 x;rw[aa0]at v4;have hBM:=(qp 1005 awL).trans hR.b;replace hF:j8 M ef fs:=(qp 112 awL).trans hF;replace qp:Hid _:=qp;replace hR:Hid _:=hR;have xb:∀σ:Env,(if(B 254).k=1 then(cE B (B 254).es).map fun es=>(σ,Go.V.dO B 254 es)else some (σ,B))=some (σ,M1):=awN
 have GG:∀σ:Env,(if(M1 241).k=1 then(cE M1 (M1 241).es).map fun es=>(σ,Go.V.dO M1 241 es)else some (σ,M1))=some (σ,M):=awN
 clear hM hM1;refine zW ?_;intros;clear xb GG;refine kr 7 hF hO (fun ns B2 h1 o3 hN=>?_) fun B2 h1 hN=>?_
 ·have hl:=iv h1;have hi:=jJ h1;obtain⟨a,b,c,d,e',f,g,rfl⟩:∃a b c d e' f g,ns=[a,b,c,d,e',f,g]:=by
   match ns,hl with
   |[a,b,c,d,e',f,g],_=>grind
  simp only[aaQ,abe,aeV,aeG,afu]at hi;have hB:=(hN 1005 awL awL).trans hBM;have fX:=iH.of (bx':=B2) fun t ht=>hN t awN awN;have Zd:=Q0.of (hN 254 awL awL);have bS:cx 7 nN fs=some (.heard a b c d e' f g,fs.drop 7):=auY
  have vT:∀y y',aP (ah (ah B2 205 y) 205 y') [241] 69 8 n.e l:=fun y y'=>fX.of fun t ht=>(al awN).trans (al awN);replace vT:Hid _:=vT;have fH:∀q,206<=q->q<=260->q∉[254,232,233,240,235,241]->B2 q=B q:=fun q q1 q2 q3=>(hN q oM oM).trans (qp.out q q3);have Nj:∀q,q≠112->(q<200\/1000<=q)->B2 q=B q:=fun q q1 q2=>(hN q oM oM).trans (qp.out q awe);replace fH:Hid _:=fH;replace Nj:Hid _:=Nj;replace Zd:Hid _:=Zd;clear h1 hl hF hO iH hBM qp Q0 hN;refine zW ?_;intros;refine app [241] (vT.out _ _) (fun x' β hv=>?_) awN;have hf:=hv.facts;refine zW ?_;intros;obtain⟨k1,k2⟩:=Zt (β:=β) (k:=241) (v:=⟨e,1,17,110,[.agg (zP (ins x (.heard a b c d e' f g)) ⟨n.g,n.t,n.h,n.b,n.r,n.v,n.s,x',n.x⟩ w)]⟩) fH.out Nj.out awL awL;have hR:=hR.out;refine⟨_,_,⟨n.g,n.t,n.h,n.b,n.r,n.v,n.s,x',n.x⟩,rfl,⟨aY _ _ _,(hR.l.of fun q hq=>k1 _ _ q ?_ ?_ ?_).v _ _ _ _,.inr ⟨pY.of Zd.out ?_,adA hv v2 v3 avR⟩⟩,.inl o3,k2 _ _⟩
  ·exact avt
  ·exact avt
  ·exact avs
  ·exact avR
 ·have bS:cx 7 nN fs=none:=auY
  replace hN:Hid _:=hN;refine zW ?_;intros;exact fun q q1 q2 q3=>(hN.out q q2 oM).trans (qp.out q awe)
end Go.V.Rp
