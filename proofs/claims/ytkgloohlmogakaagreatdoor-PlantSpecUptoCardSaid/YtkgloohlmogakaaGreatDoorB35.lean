/- Lemmas on plain data and programs: part B35. -/
import Derived.Test.YtkgloohlmogakaaGreatDoorB34
import Derived.Test.YtkgloohlmogakaaGreatDoorB33
set_option linter.all false
set_option maxHeartbeats 8000000
set_option maxRecDepth 100000
namespace Go.V.Jn
open Go.Proofs Go.Proofs.Tryz Go.RowKit Go.V.Lx Go.V.Gr Go.V.Ty Go.V.St
instance(n t:Int):Ct 28 [I n,I t] (0<=t/\t<=1000) (hE n t).d:=by
 refine bf f28 [] [.cell 4 48] fun pre=>?_;obtain⟨h1,h2⟩:=pre;have w:IntKind.i64.wrap (t+3)=t+3:=ik _ oM oM;repeat' first|exact zQ|with_reducible apply zJ<;>intro _|refine zK ?_
 refine fF (.cons (.refl _) (.cons (.refl _) (.cons (.refl _) (.cons (.refl _) (.cons (.refl _) (.cons (.refl _) (.cons (.refl _) (.cons ?_ .nil))))))));exact uT (ps:=[]) (.cons (.refl _) (.cons (.refl _) (.cons (.refl _) (.cons (.refl _) (.cons (.nil _) .nil)))))
instance:Ct 27 [] True s1.d:=by
 refine bf f27 [(1,[(3,2)])] [.cell 0 33] fun pre=>?_;have c1:(1:Int) * ((112:Nat):Int)<=140737488355328:=by decide
 have c2:(1:Int) * ((40:Nat):Int)<=140737488355328:=by decide
 repeat' first|exact zQ|with_reducible apply zJ<;>intro _|refine zK ?_
 rw[eK _ _ _ _ _ _ (by decide) rfl rfl,eK _ _ _ _ _ _ (by decide) rfl rfl];repeat' first|exact zQ|with_reducible apply zJ<;>intro _|refine zK ?_
 refine fF (.cons (.refl _) (.cons (.refl _) (.cons (.refl _) (.cons (.refl _) (.cons (.refl _) (.cons (.refl _) (.cons (.refl _) (.cons ?_ (.cons (.nil _) (.cons (.nil _) (.cons (.refl _) (.cons (.nil _) (.cons (.nil _) (.cons (.nil _) (.cons (.nil _) .nil)))))))))))))));exact uT (ps:=[]) (.cons (.refl _) (.cons (.nil _) (.cons (.refl _) (.cons (.refl _) (.cons (.nil _) (.cons (.nil _) .nil))))))
abbrev sz:D:=.agg [I 0,I 0,I 0,I 0,I 0,I 0,I 0,.aq,.aq,.aq,.aq,.aq,.aq,.aq,.aq]
@[reducible] def xP(s:aV)(L:List D)(j:gm)(d:cI):D:=.agg [I s.sources,I s.er,I s.chunk,I s.quiet,I s.late,I s.pL,I s.most,.sl 6 (s.eD.map aS.d),.sl 8 (s.dU.map Term.d),.sl 10 (s.mN.map cj.d),.sl 5 (s.eh.map aO.d),.sl 7 (s.jX.map bS.d),.sl 14 (s.cr.map cy.d),.sl 4 (s.eL.map ca.d),.sl 8 L,
 .sl 1 (j.bh.map aU),I j.many,I j.sync,.sl 1 (d.aZ.map aU),.sl 2 (d.bC.map bX.d),I d.left,.bool d.stop]
def T2:bN sz s0.d:=fF (.cons (.refl _) (.cons (.refl _) (.cons (.refl _) (.cons (.refl _) (.cons (.refl _) (.cons (.refl _) (.cons (.refl _) (.cons (.nil _) (.cons (.nil _) (.cons (.nil _) (.cons (.nil _) (.cons (.nil _) (.cons (.nil _) (.cons (.nil _) (.cons (.nil _) .nil)))))))))))))))
def TM:bN pz p0.d:=fF (.cons (.refl _) (.cons (.refl _) (.cons (.refl _) (.cons (.refl _) (.cons (.refl _) (.cons (.refl _) (.cons (.refl _) (.cons (.nil _) (.cons (.nil _) (.cons (.nil _) (.cons (.nil _) (.cons (.nil _) (.cons (.nil _) (.cons (.nil _) (.cons (.nil _) (.cons (.nil _) (.cons (.refl _) (.cons (.refl _) (.cons (.nil _) (.cons (.nil _) (.cons (.refl _) (.cons (.refl _) .nil))))))))))))))))))))))
def XH:ao prog 7 [] (.bool true):=by
 suffices Ct 7 [] True (.bool true)from this.h trivial
 refine bf f7 [(5,[(8,7),(8,2),(7,2),(6,2)]),(9,[(8,7),(8,2),(7,2),(6,2)]),(11,[(8,7),(8,2),(7,2),(6,2)])] [.tmp 0] fun pre=>?_;obtain⟨j5,j1,jl,jk,j2,j3,jf,d5,dl,dk,d2,df,hN,q5,hH1,q1,hC0,hC9,hS,q2,hH2,q3,NF,hCf,hH3⟩:=examples;have cN:∀(s:aV) (n:Int),Ct 11 [s.d,I n] (St.eA s) (.aL [(eu s n).1.d,I (eu s n).2]):=fun s n=>inferInstance;have cH:∀(p:bI) (h:bc),Ct 13 [p.d,h.d] (rD p/\lK h/\St.eA (bL p.bY (p.bY.heard++[h]))/\(bW h).length<=1099511627776/\p.bZ.bh.length<=1048576) (.aL [(d_ p h).1.d,I (d_ p h).2]):=fun p h=>inferInstance;have cC:∀(p:bI) (n:Int),Ct 20 [p.d,I n] (rD p) (.aL [(gi p n).1.d,I (gi p n).2]):=fun p n=>inferInstance;have cS:∀(p:bI),Ct 18 [p.d] (rD p) (.aL [(n6 p).1.d,I (n6 p).2]):=fun p=>inferInstance;have o5:=y9 q5 wO sI;have o1:=y9 q1 (lP wO sI) (by simp only[List.mem_singleton];rintro _ rfl;exact HH);have o2:=y9 q2 (lP wO sI) (by simp only[List.mem_singleton];rintro _ rfl;exact HH);have o3:=y9 q3 (lP wO sI) (by simp only[List.mem_cons,List.not_mem_nil,or_false];rintro _ (rfl|rfl);exact HH;exact QA);have a1:ao prog 11 [sz,I 5] (.aL [p0.d,I 540]):=by
  have:=(cN s0 5).h Xg.bY;rw[show eu s0 5=(p0,540) by unfold eu;rw[II];rfl]at this;exact this.SN T2 (.refl _)
 have a2:ao prog 11 [s1.d,I 0] (.aL [p0.d,I 1]):=by
  have:=(cN s1 0).h wO;rwa[show eu s1 0=(p0,1) by unfold eu;rw[OD];rfl]at this
 have a3:=(cN s1 5).h wO;rw[hN]at a3;have a4:ao prog 20 [bI.d ⟨s1,j5,d5⟩,I (-1)] (.aL [p0.d,I 1]):=by
  have:=(cC ⟨s1,j5,d5⟩ (-1)).h o5;rwa[show gi ⟨s1,j5,d5⟩ (-1)=(p0,1) by unfold gi;rw[if_pos ((eH _).2 q5),if_neg oM]]at this
 have a5:=(cH ⟨s1,j5,d5⟩ (hE 0 7)).h ⟨o5,HH,lP wO sI,by have:=HH.2;omega,by have:=Aa q5;omega⟩;rw[hH1]at a5;have a6:=(cC ⟨bL s1 [hE 0 7],j1,d5⟩ 0).h o1;rw[hC0]at a6;have a7:=(cC ⟨bL s1 [hE 0 7],j1,d5⟩ 9).h o1;rw[hC9]at a7;have a8:=(cS ⟨bL s1 [hE 0 7],j1,d5⟩).h o1;rw[hS]at a8;have a9:=(cH ⟨bL s1 [hE 0 7],j2,d2⟩ (hE 1 8)).h ⟨o2,QA,lP wO sI,by have:=QA.2;omega,by have:=Aa q2;omega⟩;rw[hH2]at a9;have Rn:=(cC ⟨bL s1 [hE 0 7,hE 1 8],j3,d2⟩ 0).h o3;rw[hCf]at Rn;have Ro:=(cH ⟨bL s1 [hE 0 7,hE 1 8],j3,d2⟩ (hE 2 3)).h ⟨o3,Xd,lP wO sI,by have:=Xd.2;omega,by have:=Aa q3;omega⟩;rw[hH3]at Ro;have a12:ao prog 16 [pz] (I 580):=by
  have:=(Bs p0).h Xg;rw[Xn]at this;exact this.SM TM
 have Rp:=(Bs ⟨bL s1 [hE 0 7,hE 1 8],j3,d2⟩).h o3;rw[if_pos ((eH _).2 q3)]at Rp;have a14:ao prog 25 [.sl 8 [(hE 0 7).d],.sl 8 [(hE 0 7).d]] (.bool true):=by
  have key:∀l:List bc,Ct 25 [.sl 8 (l.map bc.d),.sl 8 (l.map bc.d)] (Lm l/\∀h∈l,Lm h.words/\∀x∈h.words,Lm x.alts) (.bool true):=fun l=>inferInstance;exact(key [hE 0 7]).h ⟨by simp[Lm],by simp[Lm]⟩
 have a15:ao prog 26 [s1.d,s1.d] (.bool true):=(SC s1).h ⟨by simp[Lm],by simp[Lm],by intro g hg;obtain rfl:=List.mem_singleton.1 hg;exact⟨by simp,by simp,by simp,by simp,by simp⟩,by simp[Lm],by simp[Lm],by simp[Lm],by simp[Lm],by simp[Lm]⟩;have cE:∀n t:Int,Ct 28 [I n,I t] (0<=t/\t<=1000) (hE n t).d:=fun n t=>inferInstance;have b1:=(cE 0 7).h (by decide);have b2:=(cE 1 8).h (by decide);have b3:=(cE 2 3).h (by decide);have b4:ao prog 27 [] s1.d:=by
  have key:Ct 27 [] True s1.d:=inferInstance;exact key.h trivial
 have NP:s1.heard.length=0:=rfl;clear cN cH cC cS cE o5 o1 o2 o3 hN q5 hH1 q1 hC0 hC9 hS q2 hH2 q3 hCf hH3;simp only at a1 a2 a3 a4 a5 a6 a7 a8 a9 Rn Ro a12 Rp;generalize hE 0 7=H7 at *;generalize hE 1 8=H8 at *;generalize hE 2 3=H3 at *;generalize s1=s at *;haveI:Ct 11 [sz,I 5] True (.aL [p0.d,I 540]):=⟨fun _=>a1⟩
 haveI:Ct 11 [s.d,I 0] True (.aL [p0.d,I 1]):=⟨fun _=>a2⟩
 haveI:Ct 11 [s.d,I 5] True (.aL [bI.d ⟨s,j5,d5⟩,I 0]):=⟨fun _=>a3⟩
 haveI:Ct 20 [bI.d ⟨s,j5,d5⟩,I (-1)] True (.aL [p0.d,I 1]):=⟨fun _=>a4⟩
 haveI:Ct 13 [bI.d ⟨s,j5,d5⟩,H7.d] True (.aL [xP s [H7.d] j1 d5,I 0]):=⟨fun _=>a5⟩
 haveI:Ct 20 [xP s [H7.d] j1 d5,I 0] True (.aL [bI.d ⟨s,jl,dl⟩,I 0]):=⟨fun _=>a6⟩
 haveI:Ct 20 [xP s [H7.d] j1 d5,I 9] True (.aL [xP s [H7.d] jk dk,I 0]):=⟨fun _=>a7⟩
 haveI:Ct 18 [xP s [H7.d] j1 d5] True (.aL [xP s [H7.d] j2 d2,I 0]):=⟨fun _=>a8⟩
 haveI:Ct 13 [xP s [H7.d] j2 d2,H8.d] True (.aL [xP s [H7.d,H8.d] j3 d2,I 0]):=⟨fun _=>a9⟩
 haveI:Ct 20 [xP s [H7.d,H8.d] j3 d2,I 0] True (.aL [xP s [H7.d] jf df,I 0]):=⟨fun _=>Rn⟩
 haveI:Ct 13 [xP s [H7.d,H8.d] j3 d2,H3.d] True (.aL [p0.d,I 1]):=⟨fun _=>Ro⟩
 haveI:Ct 16 [pz] True (I 580):=⟨fun _=>a12⟩
 haveI:Ct 16 [xP s [H7.d,H8.d] j3 d2] True (I 0):=⟨fun _=>Rp⟩
 haveI:Ct 25 [.sl 8 [H7.d],.sl 8 [H7.d]] True (.bool true):=⟨fun _=>a14⟩
 haveI:Ct 26 [s.d,s.d] True (.bool true):=⟨fun _=>a15⟩
 haveI:Ct 28 [I 0,I 7] True H7.d:=⟨fun _=>b1⟩
 haveI:Ct 28 [I 1,I 8] True H8.d:=⟨fun _=>b2⟩
 haveI:Ct 28 [I 2,I 3] True H3.d:=⟨fun _=>b3⟩
 haveI:Ct 27 [] True s.d:=⟨fun _=>b4⟩
 clear a1 a2 a3 a4 a5 a6 a7 a8 a9 Rn Ro a12 Rp a14 a15 b1 b2 b3 b4;replace NF:Hid _:=NF;repeat' first|exact zQ|with_reducible apply zJ<;>intro _|refine zK ?_
 all_goals first|exact absurd NF.out (by assumption)|(exfalso;omega)
end Go.V.Jn
namespace Go.V.Jn
open Go.Proofs Go.RowKit Go.V.Lx Go.V.Gr Go.V.Ty Go.V.St
abbrev ez:Sh:=.int .i64
def ue{n:Int}(h:(Lit.int .i64 n).wf=true):i64 n:=by
 simp[Lit.wf,IntKind.min,IntKind.max,IntKind.signed,IntKind.bits]at h;exact⟨by omega,by omega⟩
def gT{α:Type}{e:Sh}{sz:Nat}{f:α->D}{p:α->Prop}(key:∀ys,e.b_ ys->∃x:α,e.pack ys=f x/\p x){ys:List D}(h:(Sh.slice sz e).b_ ys):∃l:List α,ys=[.sl sz (l.map f)]/\Lm l/\∀x∈l,p x:=by
 simp only[Sh.b_]at h;obtain⟨es,rfl,hl,h⟩:=h;obtain⟨l,rfl,hp⟩:=qD (f:=f) (p:=p) (es:=es) fun x hx=>by
  obtain⟨zs,rfl,hz⟩:=h x hx;exact key zs hz
 rw[List.length_map]at hl;exact⟨l,rfl,fV hl,hp⟩
def Dn:Sh:=.agg [.str,ez,ez,ez,t_]
def XK:Sh:=.agg [ez,ez,ez,.slice 5 Dn]
def OC:Sh:=.agg [ez,ez,XK]
def qJ:Sh:=.agg [ez,ez,OC]
structure Uu(x:Word):Prop where
 al:Lm x.alts
 f:i64 x.f
 u:i64 x.u
 s:i64 x.s
def P7(ys:List D)(h:Dn.b_ ys):∃x:Word,Dn.pack ys=x.d/\Uu x:=by
 simp only[Dn,Sh.b_,Sh.il]at h;obtain⟨_,_,rfl,⟨t,rfl,_⟩,_,_,rfl,⟨f,rfl,h1⟩,_,_,rfl,⟨u,rfl,h2⟩,_,_,rfl,⟨s,rfl,h3⟩,_,_,rfl,h4,rfl⟩:=h;obtain⟨l,rfl,hl,_⟩:=tt h4;exact⟨⟨t,f,u,s,l⟩,rfl,⟨hl,ue h1,ue h2,ue h3⟩⟩
structure FY(x:bc):Prop where
 lw:Lm x.words
 al:∀w∈x.words,Lm w.alts
 ok:okW (cV x)
def EN(ys:List D)(h:qJ.b_ ys):∃x:bc,qJ.pack ys=x.d/\FY x:=by
 simp only[qJ,OC,XK,Sh.b_,Sh.il]at h;obtain⟨_,_,rfl,⟨a,rfl,h1⟩,_,_,rfl,⟨b,rfl,h2⟩,_,_,rfl,⟨_,_,rfl,⟨c,rfl,h3⟩,_,_,rfl,⟨d,rfl,h4⟩,_,_,rfl,⟨_,_,rfl,⟨e,rfl,h5⟩,_,_,rfl,⟨f,rfl,h6⟩,_,_,rfl,⟨g,rfl,h7⟩,_,_,rfl,h8,rfl⟩,rfl⟩,rfl⟩:=h;obtain⟨l,rfl,hl,hp⟩:=gT (f:=Word.d) (p:=Uu) P7 (sz:=5) (by simp only[Sh.b_];exact h8);refine⟨⟨a,b,c,d,e,f,g,l⟩,rfl,⟨hl,fun w hw=>(hp w hw).al,?_⟩⟩;have hw:∀x∈l,okW (cz x):=fun x hx=>by
  have o:=hp x hx;have ht:rU (x.alts.map aR.t):=by rw[wP];intro y hy;obtain⟨s,_,rfl⟩:=List.mem_map.1 hy;trivial
  have h1:=o.f;have h2:=o.u;have h3:=o.s;unfold i64 at h1 h2 h3;simp[cz,okW,rU,ht,h1,h2,h3]
 have hws:rU (l.map cz):=by rw[wP];intro y hy;obtain⟨s,hs,rfl⟩:=List.mem_map.1 hy;exact hw s hs
 replace h1:=ue h1;replace h2:=ue h2;replace h3:=ue h3;replace h4:=ue h4;replace h5:=ue h5;replace h6:=ue h6;replace h7:=ue h7;unfold i64 at h1 h2 h3 h4 h5 h6 h7;simp[cV,okW,rU,hws,h1,h2,h3,h4,h5,h6,h7]
def K7{d:D}(h:qJ.has d):∃x:bc,d=x.d/\FY x:=by
 obtain⟨ys,rfl,h⟩:=h;exact EN ys h
def Dm:Sh:=.agg [ez,ez,ez,ez,t_,t_,.str,.bool]
def P6(ys:List D)(h:Dm.b_ ys):∃x:Term,Dm.pack ys=x.d/\St.C0 x:=by
 simp only[Dm,Sh.b_,Sh.il]at h;obtain⟨_,_,rfl,⟨a,rfl,_⟩,_,_,rfl,⟨b,rfl,_⟩,_,_,rfl,⟨c,rfl,_⟩,_,_,rfl,⟨e,rfl,_⟩,_,_,rfl,h1,_,_,rfl,h2,_,_,rfl,⟨t,rfl,h3⟩,_,_,rfl,⟨g,rfl⟩,rfl⟩:=h;obtain⟨l,rfl,hl,_⟩:=tt h1;obtain⟨m,rfl,hm,_⟩:=tt h2;exact⟨⟨a,b,c,e,l,m,t,g⟩,rfl,fV h3,hl,hm⟩
def Ac:Sh:=.agg [ez,ez,ez,ez,ez,ez,ez,ez,ez,ez]
def Nu(ys:List D)(h:Ac.b_ ys):∃x:cj,Ac.pack ys=x.d/\True:=by
 simp only[Ac,Sh.b_,Sh.il]at h;obtain⟨_,_,rfl,⟨a,rfl,_⟩,_,_,rfl,⟨b,rfl,_⟩,_,_,rfl,⟨c,rfl,_⟩,_,_,rfl,⟨d,rfl,_⟩,_,_,rfl,⟨e,rfl,_⟩,_,_,rfl,⟨f,rfl,_⟩,_,_,rfl,⟨g,rfl,_⟩,_,_,rfl,⟨i,rfl,_⟩,_,_,rfl,⟨j,rfl,_⟩,_,_,rfl,⟨k,rfl,_⟩,rfl⟩:=h;exact⟨⟨a,b,c,d,e,f,g,i,j,k⟩,rfl,trivial⟩
def xk:Sh:=.agg [ez,.agg (List.replicate 4 ez)]
def K5(ys:List D)(h:xk.b_ ys):∃x:aO,xk.pack ys=x.d/\True:=by
 simp only[xk,List.replicate,Sh.b_,Sh.il]at h;obtain⟨_,_,rfl,⟨a,rfl,_⟩,_,_,rfl,⟨_,_,rfl,⟨b,rfl,_⟩,_,_,rfl,⟨c,rfl,_⟩,_,_,rfl,⟨d,rfl,_⟩,_,_,rfl,⟨e,rfl,_⟩,rfl⟩,rfl⟩:=h;exact⟨⟨a,b,c,d,e⟩,rfl,trivial⟩
def sY:Sh:=.agg [ez,ez,ez,ez,ez,ez,ez]
def Nw(ys:List D)(h:sY.b_ ys):∃x:bS,sY.pack ys=x.d/\True:=by
 simp only[sY,Sh.b_,Sh.il]at h;obtain⟨_,_,rfl,⟨a,rfl,_⟩,_,_,rfl,⟨b,rfl,_⟩,_,_,rfl,⟨c,rfl,_⟩,_,_,rfl,⟨d,rfl,_⟩,_,_,rfl,⟨e,rfl,_⟩,_,_,rfl,⟨f,rfl,_⟩,_,_,rfl,⟨g,rfl,_⟩,rfl⟩:=h;exact⟨⟨a,b,c,d,e,f,g⟩,rfl,trivial⟩
def pB:Sh:=.agg [ez,ez,ez,ez]
def Nx(ys:List D)(h:pB.b_ ys):∃x:ca,pB.pack ys=x.d/\i64 x.kind:=by
 simp only[pB,Sh.b_,Sh.il]at h;obtain⟨_,_,rfl,⟨a,rfl,_⟩,_,_,rfl,⟨b,rfl,_⟩,_,_,rfl,⟨c,rfl,h1⟩,_,_,rfl,⟨d,rfl,_⟩,rfl⟩:=h;exact⟨⟨a,b,c,d⟩,rfl,ue h1⟩
def uN:Sh:=.agg [ez,ez,ez]
def Ns(ys:List D)(h:uN.b_ ys):∃x:fK,uN.pack ys=x.d/\True:=by
 simp only[uN,Sh.b_,Sh.il]at h;obtain⟨_,_,rfl,⟨a,rfl,_⟩,_,_,rfl,⟨b,rfl,_⟩,_,_,rfl,⟨c,rfl,_⟩,rfl⟩:=h;exact⟨⟨a,b,c⟩,rfl,trivial⟩
def P0(ys:List D)(h:uN.b_ ys):∃x:iI,uN.pack ys=x.d/\True:=by
 simp only[uN,Sh.b_,Sh.il]at h;obtain⟨_,_,rfl,⟨a,rfl,_⟩,_,_,rfl,⟨b,rfl,_⟩,_,_,rfl,⟨c,rfl,_⟩,rfl⟩:=h;exact⟨⟨a,b,c⟩,rfl,trivial⟩
def P3(ys:List D)(h:pB.b_ ys):∃x:gO,pB.pack ys=x.d/\True:=by
 simp only[pB,Sh.b_,Sh.il]at h;obtain⟨_,_,rfl,⟨a,rfl,_⟩,_,_,rfl,⟨b,rfl,_⟩,_,_,rfl,⟨c,rfl,h1⟩,_,_,rfl,⟨d,rfl,_⟩,rfl⟩:=h;exact⟨⟨a,b,c,d⟩,rfl,trivial⟩
def Dl:Sh:=.agg [.str,.slice 1 ez]
def Tg(ys:List D)(h:ez.b_ ys):∃x:Int,ez.pack ys= .int .i64 x/\True:=by
 simp only[Sh.b_]at h;obtain⟨n,rfl,_⟩:=h;exact⟨n,rfl,trivial⟩
def P5(ys:List D)(h:Dl.b_ ys):∃x:Sign,Dl.pack ys=x.d/\Lm x.c:=by
 rw[Dl,Sh.b_]at h;simp only[Sh.il]at h;obtain⟨_,_,rfl,h0,_,_,rfl,h1,rfl⟩:=h;simp only[Sh.b_]at h0;obtain⟨t,rfl,_⟩:=h0;obtain⟨l,rfl,hl,_⟩:=gT (f:=D.int .i64) (p:=fun _=>True) Tg h1;exact⟨⟨t,l⟩,rfl,hl⟩
def xl:Sh:=.agg [ez,ez,ez,ez,ez,ez,.bool,.agg [.slice 3 uN,ez,.slice 3 uN],.slice 2 Dl,.agg [ez,ez,.slice 4 pB]]
def nQ{ys:List D}(h:ez.b_ ys):∃n,ys=[I n]:=by
 simp only[Sh.b_]at h;obtain⟨n,rfl,_⟩:=h;exact⟨n,rfl⟩
def RF{ys:List D}(h:Sh.bool.b_ ys):∃n,ys=[.bool n]:=by
 simp only[Sh.b_]at h;exact h
def K8(ys:List D)(h:xl.b_ ys):∃x:cy,xl.pack ys=x.d/\HJ x:=by
 rw[xl,Sh.b_]at h;simp only[Sh.il]at h;obtain⟨_,_,rfl,ha,_,_,rfl,hb,_,_,rfl,hc,_,_,rfl,hd,_,_,rfl,he,_,_,rfl,hf,_,_,rfl,hg,_,_,rfl,h1,_,_,rfl,h2,_,_,rfl,h3,rfl⟩:=h;rw[Sh.b_]at h1 h3;simp only[Sh.il]at h1 h3;obtain⟨_,_,rfl,i1,_,_,rfl,i2,_,_,rfl,i3,rfl⟩:=h1;obtain⟨_,_,rfl,j1,_,_,rfl,j2,_,_,rfl,j3,rfl⟩:=h3;obtain⟨a,rfl⟩:=nQ ha;obtain⟨b,rfl⟩:=nQ hb;obtain⟨c,rfl⟩:=nQ hc;obtain⟨d,rfl⟩:=nQ hd;obtain⟨e,rfl⟩:=nQ he;obtain⟨f,rfl⟩:=nQ hf;obtain⟨g,rfl⟩:=RF hg;obtain⟨o,rfl⟩:=nQ i2;obtain⟨w,rfl⟩:=nQ j1;obtain⟨z,rfl⟩:=nQ j2;obtain⟨gs,rfl,k1,_⟩:=gT Ns i1;obtain⟨ks,rfl,k2,_⟩:=gT P0 i3;obtain⟨ss,rfl,k3,k4⟩:=gT P5 h2;obtain⟨bl,rfl,k5,_⟩:=gT P3 j3;exact⟨⟨a,b,c,d,e,f,g,⟨gs,o,ks⟩,ss,⟨w,z,bl⟩⟩,rfl,⟨k1,k2⟩,⟨k3,k4⟩,k5⟩
def Ks:Sh:=sY
def Ae:Sh:=.agg [Ks,.slice 6 zu,.slice 8 Dm,.slice 10 Ac,.slice 5 xk,.slice 7 sY,.slice 14 xl,.slice 4 pB,.slice 8 qJ]
structure qX(s:aV):Prop where
 gr:Lm s.eD/\∀g∈s.eD,mK g
 te:Lm s.dU/\∀x∈s.dU,St.C0 x
 ho:Lm s.mN
 lb:Lm s.eh
 lt:Lm s.jX
 vi:Lm s.cr/\∀v∈s.cr,HJ v
 vs:Lm s.eL/\∀v∈s.eL,i64 v.kind
 he:Lm s.heard/\∀h∈s.heard,FY h
def Nt(ys:List D)(h:zu.b_ ys):∃g:aS,zu.pack ys=g.d/\mK g:=PY ⟨ys,rfl,h⟩
def GV(ys:List D)(h:Ae.b_ ys):∃s:aV,.agg ys=s.d/\qX s:=by
 rw[Ae,Sh.b_]at h;simp only[Sh.il]at h;obtain⟨_,_,rfl,h0,_,_,rfl,h1,_,_,rfl,h2,_,_,rfl,h3,_,_,rfl,h4,_,_,rfl,h5,_,_,rfl,h6,_,_,rfl,h7,_,_,rfl,h8,rfl⟩:=h;simp only[Ks,sY,Sh.b_,Sh.il]at h0;obtain⟨_,_,rfl,⟨a,rfl,_⟩,_,_,rfl,⟨b,rfl,_⟩,_,_,rfl,⟨c,rfl,_⟩,_,_,rfl,⟨d,rfl,_⟩,_,_,rfl,⟨e,rfl,_⟩,_,_,rfl,⟨f,rfl,_⟩,_,_,rfl,⟨g,rfl,_⟩,rfl⟩:=h0;obtain⟨l1,rfl,k1,p1⟩:=gT Nt h1;obtain⟨l2,rfl,k2,p2⟩:=gT P6 h2;obtain⟨l3,rfl,k3,p3⟩:=gT Nu h3;obtain⟨l4,rfl,k4,p4⟩:=gT K5 h4;obtain⟨l5,rfl,k5,p5⟩:=gT Nw h5;obtain⟨l6,rfl,k6,p6⟩:=gT K8 h6;obtain⟨l7,rfl,k7,p7⟩:=gT Nx h7;obtain⟨l8,rfl,k8,p8⟩:=gT EN h8;exact⟨⟨a,b,c,d,e,f,g,l1,l2,l3,l4,l5,l6,l7,l8⟩,rfl,⟨⟨k1,p1⟩,⟨k2,p2⟩,k3,k4,k5,⟨k6,p6⟩,⟨k7,p7⟩,⟨k8,p8⟩⟩⟩
def Th{d:D}(h:Ae.has d):∃s:aV,d=s.d/\qX s:=by
 obtain⟨ys,rfl,h⟩:=h;exact GV ys h
def GU(ys:List D)(h:(Sh.int .u8).b_ ys):∃x:UInt8,(Sh.int .u8).pack ys= .int .u8 (x.toNat:Int)/\True:=by
 simp only[Sh.b_]at h;obtain⟨n,rfl,hw⟩:=h;simp[Lit.wf,IntKind.min,IntKind.max,IntKind.signed,IntKind.bits]at hw;refine⟨UInt8.ofNat n.toNat,?_,trivial⟩;show D.int .u8 n=_
 congr 1
 rw[UInt8.toNat_ofNat_of_lt' (by simp[UInt8.size];omega)];omega
def EM(ys:List D)(h:pA.b_ ys):∃b:ah,pA.pack ys=aU b/\Lm b:=by
 rw[pA]at h;obtain⟨l,rfl,hl,_⟩:=gT GU h;exact⟨l,rfl,hl⟩
def K6{ys:List D}(h:pA.b_ ys):∃b:ah,ys=[aU b]/\Lm b:=by
 rw[pA]at h;obtain⟨l,rfl,hl,_⟩:=gT GU h;exact⟨l,rfl,hl⟩
def Af:Sh:=.agg [ez,pA]
def Ny(ys:List D)(h:Af.b_ ys):∃x:bX,Af.pack ys=x.d/\Lm x.data:=by
 rw[Af,Sh.b_]at h;simp only[Sh.il]at h;obtain⟨_,_,rfl,h0,_,_,rfl,h1,rfl⟩:=h;obtain⟨a,rfl⟩:=nQ h0;obtain⟨b,rfl,hb⟩:=K6 h1;exact⟨⟨a,b⟩,rfl,hb⟩
def Ad:Sh:=.agg [Ae,.agg [.slice 1 pA,ez,ez],.agg [.slice 1 pA,.slice 2 Af,ez,.bool]]
structure vT(p:bI):Prop where
 bY:qX p.bY
 rcs:Lm p.bZ.bh/\∀b∈p.bZ.bh,Lm b
 sec:Lm p.cu.aZ/\∀b∈p.cu.aZ,Lm b
 Xm:Lm p.cu.bC/\∀w∈p.cu.bC,Lm w.data
def Nv{d:D}(h:Ad.has d):∃p:bI,d=p.d/\vT p:=by
 obtain⟨ys,rfl,h⟩:=h;rw[Ad,Sh.b_]at h;simp only[Sh.il]at h;obtain⟨_,_,rfl,h0,_,_,rfl,h1,_,_,rfl,h2,rfl⟩:=h;rw[Sh.b_]at h1 h2;simp only[Sh.il]at h1 h2;obtain⟨_,_,rfl,i1,_,_,rfl,i2,_,_,rfl,i3,rfl⟩:=h1;obtain⟨_,_,rfl,j1,_,_,rfl,j2,_,_,rfl,j3,_,_,rfl,j4,rfl⟩:=h2;obtain⟨s,hs,os⟩:=GV _ h0;injection hs with hs;subst hs;obtain⟨R,rfl,hR⟩:=gT EM i1;obtain⟨m,rfl⟩:=nQ i2;obtain⟨y,rfl⟩:=nQ i3;obtain⟨S,rfl,hS⟩:=gT EM j1;obtain⟨W,rfl,hW⟩:=gT Ny j2;obtain⟨L,rfl⟩:=nQ j3;obtain⟨t,rfl⟩:=RF j4;exact⟨⟨s,⟨R,m,y⟩,⟨S,W,L,t⟩⟩,rfl,⟨os,hR,hS,hW⟩⟩
def qN{n:Int}(h:okW (.i n)):(cp (.i n)).length<=11:=by
 rw[okW]at h;have:=iX (DA h.1 h.2);simp only[cp,List.length_cons];omega
def Rv{s:ah}(h:s.length<=1048576):(cp (.t s)).length<=11+s.length:=by
 have:=iX (u:=s.length) oM;simp only[cp,List.length_cons,List.length_append];omega
def FN{xs:List aR}(h:xs.length<=1048576):(cp (.l xs)).length<=11+(dN xs).length:=by
 have:=iX (u:=xs.length) oM;simp only[cp,List.length_cons,List.length_append];omega
theorem re{α:Type}{f:α->D}(hf:∀x,1<=(f x).bulk):∀l:List α,l.length<=D.dz (l.map f)
 |[]=>Nat.zero_le _
 |x::l=>by
  rw[mC,D.dz,List.length_cons];have:=re hf l;have:=hf x;omega
theorem M3:∀ {l:List ah},D.dz (l.map D.str)<=1048576->(dN (l.map .t)).length<=15 * D.dz (l.map D.str)
 |[],_=>Nat.zero_le _
 |s::l,h=>by
  simp only[mC,dN,List.length_append,D.dz,D.bulk]at h⊢;have:=Rv (s:=s) oM;have:=M3 (l:=l) oM;omega
def FA(w:Word):w.d.bulk=w.t.length+5+D.dz (w.alts.map D.str):=by simp only[Word.d,strs,D.bulk,D.dz];omega
def Px{w:Word}(ok:okW (cz w))(h:w.d.bulk<=1048576):(cp (cz w)).length<=15 * w.d.bulk:=by
 rw[FA]at h⊢;have ha:=re (f:=D.str) (fun x=>by simp[D.bulk]) w.alts;unfold cz at ok⊢;rw[C1]at ok;have h0:=FN (xs:=[.t w.t,.i w.f,.i w.u,.i w.s,.l (w.alts.map .t)]) sI;have h1:=Rv (s:=w.t) oM;have h2:=qN (n:=w.f) (ok _ sI);have h3:=qN (n:=w.u) (ok _ sI);have h4:=qN (n:=w.s) (ok _ sI);have h5:=FN (xs:=w.alts.map aR.t) (by rw[List.length_map];omega);have h6:=M3 (l:=w.alts) oM;simp only[dN,List.length_append,List.length_nil]at h0;omega
theorem EC:∀ {l:List Word},(∀w∈l,okW (cz w))->D.dz (l.map Word.d)<=1048576->(dN (l.map cz)).length<=15 * D.dz (l.map Word.d)
 |[],_,_=>Nat.zero_le _
 |w::l,ok,h=>by
  simp only[mC,dN,List.length_append,D.dz]at h⊢;have:=Px (ok w sI) oM;have:=EC (l:=l) (fun x hx=>ok x (by simp[hx])) oM;omega
def CC(h:bc):h.d.bulk=8+D.dz (h.words.map Word.d):=by simp only[bc.d,D.bulk,D.dz];omega
def TP{h:bc}(ok:okW (cV h))(hb:h.d.bulk<=1048576):(bW h).length<=15 * h.d.bulk:=by
 rw[CC]at hb⊢;have ha:=re (f:=Word.d) (fun x=>by rw[FA];omega) h.words;unfold bW;unfold cV at ok⊢;rw[C1]at ok;have h0:=FN (xs:=[.i h.at_,.i h.src,.i h.seq,.i h.ir,.i h.kind,.i h.jy,.i h.cut,.l (h.words.map cz)]) sI;have h1:=qN (n:=h.at_) (ok _ sI);have h2:=qN (n:=h.src) (ok _ sI);have h3:=qN (n:=h.seq) (ok _ sI);have h4:=qN (n:=h.ir) (ok _ sI);have h5:=qN (n:=h.kind) (ok _ sI);have h6:=qN (n:=h.jy) (ok _ sI);have h7:=qN (n:=h.cut) (ok _ sI);have h8:=FN (xs:=h.words.map cz) (by rw[List.length_map];omega);have okw:=ok (.l (h.words.map cz)) sI;rw[C1]at okw;have h9:=EC (l:=h.words) (fun w hw=>okw _ (List.mem_map_of_mem hw)) oM;simp only[dN,List.length_append,List.length_nil]at h0;omega
def Kd{h:bc}(o:FY h)(hb:h.d.bulk<=1048576):lK h:=⟨o.ok,by have:=TP o.ok hb;omega⟩
def vh{xs:List D}{i n:Nat}{es:List D}(h:xs[i]? =some (.sl n es)):D.dz es+1<=(D.agg xs).bulk:=by
 have:=rf (mG h);simp only[D.bulk]at this⊢;exact this
def LL{p:bI}{h:bc}(hh:h∈p.bY.heard):h.d.bulk<=p.d.bulk:=by
 have h1:=rf (l:=p.bY.heard.map bc.d) (List.mem_map_of_mem hh);have h2:=vh (xs:=p.d.cells) (i:=14) (n:=8) (es:=p.bY.heard.map bc.d) rfl;exact Nat.le_trans h1 (Nat.le_of_succ_le h2)
def HT(p:bI):p.bY.heard.length<=p.d.bulk:=by
 have h1:=re (f:=bc.d) (fun x=>by rw[CC];omega) p.bY.heard;have h2:=vh (xs:=p.d.cells) (i:=14) (n:=8) (es:=p.bY.heard.map bc.d) rfl;exact Nat.le_trans h1 (Nat.le_of_succ_le h2)
theorem Fv:∀b:ah,D.dz (a_ b)=b.length
 |[]=>rfl
 |x::b=>by
  have:=Fv b;simp only[a_,mC,D.dz,D.bulk,List.length_cons]at this⊢;omega
def DL(b:ah):(aU b).bulk=b.length+1:=by rw[aU,D.bulk,Fv]
def LM(p:bI):p.bZ.bh.length<=p.d.bulk:=by
 have h1:=re (f:=aU) (fun x=>by rw[DL];omega) p.bZ.bh;have h2:=vh (xs:=p.d.cells) (i:=15) (n:=1) (es:=p.bZ.bh.map aU) rfl;exact Nat.le_trans h1 (Nat.le_of_succ_le h2)
def QU{p:bI}{b:ah}(hb:b∈p.cu.aZ):b.length<=p.d.bulk:=by
 have h1:=rf (l:=p.cu.aZ.map aU) (List.mem_map_of_mem hb);rw[DL]at h1;have h2:=vh (xs:=p.d.cells) (i:=18) (n:=1) (es:=p.cu.aZ.map aU) rfl;exact Nat.le_trans (Nat.le_of_succ_le h1) (Nat.le_of_succ_le h2)
def Mj(w:bX):w.d.bulk=w.data.length+2:=by
 have:=DL w.data;simp only[bX.d,D.dz,D.bulk]at this⊢;omega
def Oe{p:bI}{w:bX}(hb:w∈p.cu.bC):w.data.length<=p.d.bulk:=by
 have h1:=rf (l:=p.cu.bC.map bX.d) (List.mem_map_of_mem hb);rw[Mj]at h1;have h2:=vh (xs:=p.d.cells) (i:=19) (n:=2) (es:=p.cu.bC.map bX.d) rfl;exact Nat.le_trans (Nat.le_trans (Nat.le_add_right _ 2) h1) (Nat.le_of_succ_le h2)
theorem qX.s{s:aV}(o:qX s)(hf:tq s=true):St.eA s:=by
 refine⟨fun g hg=>⟨o.gr.2 g hg,fun x hx=>?_⟩,o.te.2,fun v hv=>(o.vi.2 v hv).1,o.vs.2,o.gr.1,o.te.1,o.vi.1,o.vs.1,o.he.1⟩;unfold tq at hf;simp only[bA,List.all_eq_true]at hf;have h1:=hf.1.1.2 g hg;unfold KS at h1;have h2:tp g=true:=by
  cases h:tp g with
  |true=>rfl
  |false=>rw[h]at h1;simp at h1
 unfold tp at h2;simp only[bA,List.all_eq_true]at h2;have h3:=h2.2.2 x hx;simp only[yh,bA,decide_eq_true_eq]at h3;omega
theorem qX.f4{s:aV}(o:qX s):Xe s:=⟨o.gr.2,o.gr.1,o.te.1,o.vi.1,o.he.1,fun h hh=>(o.he.2 h hh).lw⟩
theorem qX.ss{s:aV}(o:qX s):HI s:=⟨⟨o.te.1,fun x hx=>(o.te.2 x hx).2⟩,o.ho,fun g hg=>OG (o.gr.2 g hg),o.gr.1,o.lb,o.lt,⟨o.vi.1,o.vs.1,o.vi.2⟩,⟨o.he.1,fun h hh=>⟨(o.he.2 h hh).lw,(o.he.2 h hh).al⟩⟩⟩
def qX.bL{s:aV}(o:qX s){l:List bc}(hl:Lm l)(hh:∀h∈l,FY h):qX (bL s l):=⟨o.gr,o.te,o.ho,o.lb,o.lt,o.vi,o.vs,⟨hl,hh⟩⟩
theorem qX.zero:qX s0:=⟨⟨by simp[Lm],by simp⟩,⟨by simp[Lm],by simp⟩,by simp[Lm],by simp[Lm],by simp[Lm],⟨by simp[Lm],by simp⟩,⟨by simp[Lm],by simp⟩,⟨by simp[Lm],by simp⟩⟩
theorem IE:∀ {l:List ah},(∀b∈l,b.length<=2000)->aW l<=19 * l.length
 |[],_=>Nat.zero_le _
 |b::l,h=>by
  have h1:=IE fun x hx=>h x (List.mem_cons_of_mem _ hx);have h2:=h b (List.mem_cons_self ..);have h3:bM b<=19:=by unfold bM;omega
  simp only[aW,mC,List.sum_cons,List.length_cons]at h1⊢;omega
theorem vT.f{p:bI}(o:vT p)(hb:p.d.bulk<=1048576):okF p:=
 ⟨o.bY.f4,⟨⟨o.sec.1,o.Xm.1⟩,fun b hm=>by have:=QU hm;omega,fun w hm=>by have:=Oe hm;omega⟩,o.rcs.1,o.rcs.2⟩
theorem vT.hr{p:bI}(o:vT p)(hb:p.d.bulk<=1048576):∀h∈p.bY.heard,lK h:=fun h hh=>Kd (o.bY.he.2 h hh) (by have:=LL hh;omega)
theorem vT.p{p:bI}(o:vT p)(hb:p.d.bulk<=1048576)(hf:wv p=true):rD p:=by
 unfold wv at hf;simp only[bA,List.all_eq_true]at hf;obtain⟨hf,hr⟩:=hf;have pP:tq p.bY=true/\¬(40:Int)<p.bZ.bh.length:=by
  cases h:tq p.bY with
  |false=>rw[h]at hf;simp at hf
  |true=>rw[h]at hf;simp at hf;exact⟨rfl,by omega⟩
 have hu:=IE (l:=p.bZ.bh) fun b hm=>by have:=hr b hm;simp at this;omega
 refine⟨o.bY.s pP.1,?_,o.hr hb,?_,⟨o.sec.1,o.Xm.1⟩⟩
 ·have:=HT p;omega
 ·unfold oK;omega
structure Mn(p:bI):Prop where
 a:HI p.bY
 b:Lm p.bZ.bh
 c:okD p.cu
theorem Mn.zero:Mn p0:=⟨qX.zero.ss,by simp[Lm],by simp[Lm],by simp[Lm]⟩
def aff{s:aV}(o:qX s)(n:Int):Mn (eu s n).1:=by
 by_cases h:(eu s n).2=0
 ·obtain⟨h1,h2,e,_⟩:=D0 h;rw[e];exact⟨o.ss,by simp[Lm],by simp[Lm];omega,by simp[Lm]⟩
 ·unfold eu at h⊢;split
  ·rename_i c1;split
   ·rename_i c2;split
    ·rename_i c3;rw[if_pos c1,if_pos c2,if_pos c3]at h;exact absurd rfl h
    ·exact .zero
   ·exact .zero
  ·exact .zero
def Zq{p:bI}(o:vT p){h:bc}(oh:FY h):Mn (d_ p h).1:=by
 by_cases hp:iN p=true
 ·have hg:=(eH p).1 hp;by_cases hh:(d_ p h).2=0
  ·obtain⟨e,g⟩:=Bd hg hh;have h1:=Ef g.bY;have h2:=Aa g;rw[e]at h1 h2⊢;exact⟨(o.bY.bL (by simp only[Lm]at *;omega) fun y hy=>by
    rcases List.mem_append.1 hy with hy|hy
    ·exact o.bY.he.2 y hy
    ·rw[List.mem_singleton.1 hy];exact oh).ss,by simp only[Lm]at *;omega,⟨o.sec.1,o.Xm.1⟩⟩
  ·unfold d_ at hh⊢;rw[if_pos hp]at hh⊢;split
   ·rename_i c1;split
    ·rename_i c2;rw[if_pos c1,if_pos c2]at hh;exact absurd rfl hh
    ·exact .zero
   ·exact .zero
 ·unfold d_;rw[if_neg hp];exact .zero
end Go.V.Jn
namespace Go.V.Jn
open Go.Proofs Go.Proofs.Tryz Go.RowKit Go.V.Lx Go.V.Gr Go.V.Ty Go.V.St
def OA{p:bI}(o:Mn p):ao prog 15 [p.d,p.d] (.bool true):=by
 have key:∀p:bI,Ct 15 [p.d,p.d] (HI p.bY/\Lm p.bZ.bh/\okD p.cu) (.bool true):=fun p=>inferInstance;exact(key p).h ⟨o.a,o.b,o.c⟩
def XP(s:aV)(n:Int)(p:bI)(h:bc)(os:qX s)(op:vT p)(oh:FY h)(hb:p.d.bulk<=1048576)(oy:h.d.bulk<=1048576):ao prog 3 [s.d,I n,p.d,h.d] (.bool true):=by
 suffices Ct 3 [s.d,I n,p.d,h.d] True (.bool true)from this.h trivial
 refine bf f3 [(9,[(15,14)])] [.tmp 8] fun pre=>?_;haveI:Ct 7 [] True (.bool true):=⟨fun _=>XH⟩
 have hF1:=(Rw s).h os.f4;have hF2:ao prog 9 [p.d] (.bool (wv p)):=by
  have key:∀p:bI,Ct 9 [p.d] (okF p) (.bool (wv p)):=fun p=>inferInstance;exact(key p).h (op.f hb)
 have hF3:ao prog 10 [.agg [I h.seq,I h.ir,I h.kind,I h.jy,I h.cut,.sl 5 (h.words.map Word.d)]] (.bool (wx h.words)):=by
  have key:Ct 10 [.agg [I h.seq,I h.ir,I h.kind,I h.jy,I h.cut,.sl 5 (h.words.map Word.d)]] (Lm h.words) (.bool (wx h.words)):=inferInstance;exact key.h oh.lw
 have hA:=fun hf=>os.s hf;have hB:=fun hf=>op.p hb hf;have hS:wv p=true->tq p.bY=true:=fun hf=>by
  unfold wv at hf;cases hc:tq p.bY with
  |true=>rfl
  |false=>rw[hc]at hf;simp at hf
 generalize tq s=A at *;generalize wv p=B at *;generalize wx h.words=C at *;haveI:Ct 8 [s.d] True (.bool A):=⟨fun _=>hF1⟩
 haveI:Ct 9 [p.d] True (.bool B):=⟨fun _=>hF2⟩
 haveI:Ct 10 [.agg [I h.seq,I h.ir,I h.kind,I h.jy,I h.cut,.sl 5 (h.words.map Word.d)]] True (.bool C):=⟨fun _=>hF3⟩
 clear hF1 hF2 hF3;cases A
 ·clear hA hB hS os op oh hb oy;repeat' first|exact zQ|with_reducible apply zJ<;>intro _|refine zK ?_
 cases B
 ·clear hA hB hS os op oh hb oy;repeat' first|exact zQ|with_reducible apply zJ<;>intro _|refine zK ?_
 cases C
 ·clear hA hB hS os op oh hb oy;repeat' first|exact zQ|with_reducible apply zJ<;>intro _|refine zK ?_
 have k1:=hA rfl;have k2:=hB rfl;have k3:=op.bY.s (hS rfl);have k4:=Kd oh oy;clear hA hB hS;have a1:ao prog 11 [s.d,I n] (.aL [(eu s n).1.d,I (eu s n).2]):=by
  have key:∀(s:aV) (n:Int),Ct 11 [s.d,I n] (St.eA s) (.aL [(eu s n).1.d,I (eu s n).2]):=fun s n=>inferInstance;exact(key s n).h k1
 have a2:ao prog 12 [s.d,I n] (.aL [(eu s n).1.d,I (eu s n).2]):=by
  have key:∀(s:aV) (n:Int),Ct 12 [s.d,I n] (St.eA s) (.aL [(eu s n).1.d,I (eu s n).2]):=fun s n=>inferInstance;exact(key s n).h k1
 have hl:p.bZ.bh.length<=1048576:=by
  have:=LM p;omega
 have k5:rD p/\lK h/\St.eA (bL p.bY (p.bY.heard++[h]))/\(bW h).length<=1099511627776/\p.bZ.bh.length<=1048576:=by
  refine⟨k2,k4,lP k3 ?_,by have:=k4.2;omega,hl⟩;have:=k2.hl;simp;omega
 have a3:ao prog 13 [p.d,h.d] (.aL [(d_ p h).1.d,I (d_ p h).2]):=by
  have key:∀(p:bI) (h:bc),Ct 13 [p.d,h.d] (rD p/\lK h/\St.eA (bL p.bY (p.bY.heard++[h]))/\(bW h).length<=1099511627776/\p.bZ.bh.length<=1048576) (.aL [(d_ p h).1.d,I (d_ p h).2]):=fun p h=>inferInstance;exact(key p h).h k5
 have a4:ao prog 14 [p.d,h.d] (.aL [(d_ p h).1.d,I (d_ p h).2]):=by
  have key:∀(p:bI) (h:bc),Ct 14 [p.d,h.d] (rD p/\lK h/\St.eA (bL p.bY (p.bY.heard++[h]))/\(bW h).length<=1099511627776/\p.bZ.bh.length<=1048576) (.aL [(d_ p h).1.d,I (d_ p h).2]):=fun p h=>inferInstance;exact(key p h).h k5
 have a5:=(Bs p).h k2;have a6:=(Xx p).h k2;have a7:=OA (aff os n);have a8:=OA (Zq op oh);clear os op oh hb oy k1 k2 k3 k4 k5 hl;generalize(eu s n).1=X at *;generalize(eu s n).2=e at *;generalize(d_ p h).1=Y at *;generalize(d_ p h).2=g at *;generalize(if iN p then 0 else 580:Int)=c at *;haveI:Ct 11 [s.d,I n] True (.aL [X.d,I e]):=⟨fun _=>a1⟩
 haveI:Ct 12 [s.d,I n] True (.aL [X.d,I e]):=⟨fun _=>a2⟩
 haveI:Ct 13 [p.d,h.d] True (.aL [Y.d,I g]):=⟨fun _=>a3⟩
 haveI:Ct 14 [p.d,h.d] True (.aL [Y.d,I g]):=⟨fun _=>a4⟩
 haveI:Ct 16 [p.d] True (I c):=⟨fun _=>a5⟩
 haveI:Ct 17 [p.d] True (I c):=⟨fun _=>a6⟩
 haveI:Ct 15 [X.d,X.d] True (.bool true):=⟨fun _=>a7⟩
 haveI:Ct 15 [Y.d,Y.d] True (.bool true):=⟨fun _=>a8⟩
 clear a1 a2 a3 a4 a5 a6 a7 a8;repeat' first|exact zQ|with_reducible apply zJ<;>intro _|refine zK ?_
structure KI(s:aV)(p:bI)(all:List bc)(safe g:Nat)(B:List bc):Prop where
 pg:PG p
 bY:p.bY=bL s B
 pre:B=all.take B.length
 SH:p.bZ.sync=safe
 gen:cP p.cu.aZ<=g
theorem KI.safe{s:aV}{p:bI}{all:List bc}{safe g:Nat}{B:List bc}(h:KI s p all safe g B):safe<=B.length/\B.length<=4096/\B.length<=all.length:=by
 have h1:=Ef h.pg.bY;obtain⟨_,j3,j4,_⟩:=kJ h.pg.bZ;rw[h.pg.bh,List.length_map,h.bY,h.SH]at j4;rw[h.bY]at h1;simp only at h1 j4;have h2:=congrArg List.length h.pre;rw[List.length_take]at h2;omega
theorem KI.ajV{s:aV}{p:bI}{all:List bc}{safe g:Nat}{B:List bc}(h:KI s p all safe g B){n:Int}(h0:0<=n)(h1:n<=65536)(hg:g<4294967296):
 ∃(C:List bc) (J:gm) (K:cI),gi p n=(⟨bL s C,J,K⟩,0)/\KI s ⟨bL s C,J,K⟩ all C.length (g+1) C/\safe<=C.length/\C.length<=all.length:=by
 have hs:=h.safe;have hgn:=h.gen;obtain⟨S,q,e,g1,g2,g3,g4,_⟩:=ur h.pg h0 h1 oM;rw[h.bY]at e g4;rw[h.SH]at g3;simp only at e g4;have hq:(B.take q).length=q:=by rw[List.length_take];omega
 refine⟨B.take q,⟨p.bZ.bh.take q,p.bZ.many,q⟩,⟨S,[],-1,false⟩,e,⟨by rw[e]at g1;exact g1,rfl,?_,by rw[hq],by simp only;omega⟩,by rw[hq];omega,by rw[hq];omega⟩;rw[hq,show B.take q=(all.take B.length).take q by rw[<-h.pre],List.take_take,Nat.min_eq_left oM]
theorem KI.ok{s:aV}{p:bI}{all:List bc}{safe g:Nat}{B:List bc}(h:KI s p all safe g B)(os:St.eA s)(oh:∀h∈all,lK h):rD p:=by
 have hs:=h.safe;refine y9 h.pg (by rw[h.bY];exact lP os oM) ?_;rw[h.bY];intro x hx;simp only at hx;rw[h.pre]at hx;exact oh x (List.mem_of_mem_take hx)
def Jr{p:bI}(h:rD p)(g:PG p):ao prog 16 [p.d] (I 0):=by
 have:=(Bs p).h h;rwa[if_pos ((eH p).2 g)]at this
end Go.V.Jn
