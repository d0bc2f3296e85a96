/- Plain laws: B31. -/
import Derived.Test.YtkgloohlmogakaaGreatDoorB30
import Derived.Test.YtkgloohlmogakaaGreatDoorB29
set_option linter.all false
set_option maxHeartbeats 8000000
set_option maxRecDepth 100000
namespace Go.V.Jn
open Go.Proofs Go.Proofs.Tryz Go.RowKit Go.V.Lx Go.V.Gr Go.V.Ty Go.V.St
instance(n t:Int):Ct 28 [I n,I t] (0<=t/\t<=1000) (hE n t).d:=by
 refine bf f28 [] [.cell 4 48] fun pre=>?_;obtain⟨h1,h2⟩:=pre;have w:IntKind.i64.wrap (t+3)=t+3:=gp _ oM oM;repeat' first|exact zQ|with_reducible apply zJ<;>intro _|refine zK ?_
 refine gh (.cons (.refl _) (.cons (.refl _) (.cons (.refl _) (.cons (.refl _) (.cons (.refl _) (.cons (.refl _) (.cons (.refl _) (.cons ?_ .nil))))))));exact vn (ps:=[]) (.cons (.refl _) (.cons (.refl _) (.cons (.refl _) (.cons (.refl _) (.cons (.nil _) .nil)))))
instance:Ct 27 [] True s1.d:=by
 refine bf f27 [(1,[(3,2)])] [.cell 0 33] fun pre=>?_;have c1:(1:Int) * ((112:Nat):Int)<=140737488355328:=by decide
 have c2:(1:Int) * ((40:Nat):Int)<=140737488355328:=by decide
 repeat' first|exact zQ|with_reducible apply zJ<;>intro _|refine zK ?_
 rw[ej _ _ _ _ _ _ (by decide) rfl rfl,ej _ _ _ _ _ _ (by decide) rfl rfl];repeat' first|exact zQ|with_reducible apply zJ<;>intro _|refine zK ?_
 refine gh (.cons (.refl _) (.cons (.refl _) (.cons (.refl _) (.cons (.refl _) (.cons (.refl _) (.cons (.refl _) (.cons (.refl _) (.cons ?_ (.cons (.nil _) (.cons (.nil _) (.cons (.refl _) (.cons (.nil _) (.cons (.nil _) (.cons (.nil _) (.cons (.nil _) .nil)))))))))))))));exact vn (ps:=[]) (.cons (.refl _) (.cons (.nil _) (.cons (.refl _) (.cons (.refl _) (.cons (.nil _) (.cons (.nil _) .nil))))))
abbrev sz:D:=.agg [I 0,I 0,I 0,I 0,I 0,I 0,I 0,.aq,.aq,.aq,.aq,.aq,.aq,.aq,.aq]
@[reducible] def yd(s:bg)(L:List D)(j:gy)(d:bV):D:=.agg [I s.sources,I s.eG,I s.chunk,I s.quiet,I s.late,I s.qA,I s.most,.sl 6 (s.eK.map aW.d),.sl 8 (s.eh.map Term.d),.sl 10 (s.nZ.map cu.d),.sl 5 (s.eF.map aP.d),.sl 7 (s.lj.map bS.d),.sl 14 (s.cx.map cM.d),.sl 4 (s.eZ.map cj.d),.sl 8 L,
 .sl 1 (j.bJ.map aT),I j.many,I j.sync,.sl 1 (d.a_.map aT),.sl 2 (d.br.map bE.d),I d.left,.bool d.stop]
def Uu:bN sz s0.d:=gh (.cons (.refl _) (.cons (.refl _) (.cons (.refl _) (.cons (.refl _) (.cons (.refl _) (.cons (.refl _) (.cons (.refl _) (.cons (.nil _) (.cons (.nil _) (.cons (.nil _) (.cons (.nil _) (.cons (.nil _) (.cons (.nil _) (.cons (.nil _) (.cons (.nil _) .nil)))))))))))))))
def Ue:bN pz p0.d:=gh (.cons (.refl _) (.cons (.refl _) (.cons (.refl _) (.cons (.refl _) (.cons (.refl _) (.cons (.refl _) (.cons (.refl _) (.cons (.nil _) (.cons (.nil _) (.cons (.nil _) (.cons (.nil _) (.cons (.nil _) (.cons (.nil _) (.cons (.nil _) (.cons (.nil _) (.cons (.nil _) (.cons (.refl _) (.cons (.refl _) (.cons (.nil _) (.cons (.nil _) (.cons (.refl _) (.cons (.refl _) .nil))))))))))))))))))))))
def Ye:ao prog 7 [] (.bool true):=by
 suffices Ct 7 [] True (.bool true)from this.h trivial
 refine bf f7 [(5,[(8,7),(8,2),(7,2),(6,2)]),(9,[(8,7),(8,2),(7,2),(6,2)]),(11,[(8,7),(8,2),(7,2),(6,2)])] [.tmp 0] fun pre=>?_;obtain⟨j5,j1,jl,jk,j2,j3,jf,d5,dl,dk,d2,df,hN,q5,hH1,q1,hC0,hC9,hS,q2,hH2,q3,N8,hCf,hH3⟩:=examples;have cN:∀(s:bg) (n:Int),Ct 11 [s.d,I n] (St.fB s) (.aI [(jg s n).1.d,I (jg s n).2]):=fun s n=>inferInstance;have cH:∀(p:bG) (h:bn),Ct 13 [p.d,h.d] (qi p/\oG h/\St.fB (cb p.cn (p.cn.heard++[h]))/\(cz h).length<=1099511627776/\p.cm.bJ.length<=1048576) (.aI [(j7 p h).1.d,I (j7 p h).2]):=fun p h=>inferInstance;have cC:∀(p:bG) (n:Int),Ct 20 [p.d,I n] (qi p) (.aI [(cZ p n).1.d,I (cZ p n).2]):=fun p n=>inferInstance;have cS:∀(p:bG),Ct 18 [p.d] (qi p) (.aI [(fh p).1.d,I (fh p).2]):=fun p=>inferInstance;have o5:=zn q5 xg sI;have o1:=zn q1 (nI xg sI) (by simp only[List.mem_singleton];rintro _ rfl;exact H0);have o2:=zn q2 (nI xg sI) (by simp only[List.mem_singleton];rintro _ rfl;exact H0);have o3:=zn q3 (nI xg sI) (by simp only[List.mem_cons,List.not_mem_nil,or_false];rintro _ (rfl|rfl);exact H0;exact Q1);have a1:ao prog 11 [sz,I 5] (.aI [p0.d,I 540]):=by
  have:=(cN s0 5).h XN.cn;rw[show jg s0 5=(p0,540) by unfold jg;rw[I6];rfl]at this;exact this.Tj Uu (.refl _)
 have a2:ao prog 11 [s1.d,I 0] (.aI [p0.d,I 1]):=by
  have:=(cN s1 0).h xg;rwa[show jg s1 0=(p0,1) by unfold jg;rw[O2];rfl]at this
 have a3:=(cN s1 5).h xg;rw[hN]at a3;have a4:ao prog 20 [bG.d ⟨s1,j5,d5⟩,I (-1)] (.aI [p0.d,I 1]):=by
  have:=(cC ⟨s1,j5,d5⟩ (-1)).h o5;rwa[show cZ ⟨s1,j5,d5⟩ (-1)=(p0,1) by unfold cZ;rw[if_pos ((eg _).2 q5),if_neg oM]]at this
 have a5:=(cH ⟨s1,j5,d5⟩ (hE 0 7)).h ⟨o5,H0,nI xg sI,by have:=H0.2;omega,by have:=Aq q5;omega⟩;rw[hH1]at a5;have a6:=(cC ⟨cb s1 [hE 0 7],j1,d5⟩ 0).h o1;rw[hC0]at a6;have a7:=(cC ⟨cb s1 [hE 0 7],j1,d5⟩ 9).h o1;rw[hC9]at a7;have a8:=(cS ⟨cb s1 [hE 0 7],j1,d5⟩).h o1;rw[hS]at a8;have a9:=(cH ⟨cb s1 [hE 0 7],j2,d2⟩ (hE 1 8)).h ⟨o2,Q1,nI xg sI,by have:=Q1.2;omega,by have:=Aq q2;omega⟩;rw[hH2]at a9;have RT:=(cC ⟨cb s1 [hE 0 7,hE 1 8],j3,d2⟩ 0).h o3;rw[hCf]at RT;have RU:=(cH ⟨cb s1 [hE 0 7,hE 1 8],j3,d2⟩ (hE 2 3)).h ⟨o3,XK,nI xg sI,by have:=XK.2;omega,by have:=Aq q3;omega⟩;rw[hH3]at RU;have a12:ao prog 16 [pz] (I 580):=by
  have:=(Ef p0).h XN;rw[XT]at this;exact this.Ti Ue
 have RV:=(Ef ⟨cb s1 [hE 0 7,hE 1 8],j3,d2⟩).h o3;rw[if_pos ((eg _).2 q3)]at RV;have a14:ao prog 25 [.sl 8 [(hE 0 7).d],.sl 8 [(hE 0 7).d]] (.bool true):=by
  have key:∀l:List bn,Ct 25 [.sl 8 (l.map bn.d),.sl 8 (l.map bn.d)] (Lm l/\∀h∈l,Lm h.words/\∀x∈h.words,Lm x.alts) (.bool true):=fun l=>inferInstance;exact(key [hE 0 7]).h ⟨by simp[Lm],by simp[Lm]⟩
 have a15:ao prog 26 [s1.d,s1.d] (.bool true):=(S9 s1).h ⟨by simp[Lm],by simp[Lm],by intro g hg;obtain rfl:=List.mem_singleton.1 hg;exact⟨by simp,by simp,by simp,by simp,by simp⟩,by simp[Lm],by simp[Lm],by simp[Lm],by simp[Lm],by simp[Lm]⟩;have cE:∀n t:Int,Ct 28 [I n,I t] (0<=t/\t<=1000) (hE n t).d:=fun n t=>inferInstance;have b1:=(cE 0 7).h (by decide);have b2:=(cE 1 8).h (by decide);have b3:=(cE 2 3).h (by decide);have b4:ao prog 27 [] s1.d:=by
  have key:Ct 27 [] True s1.d:=inferInstance;exact key.h trivial
 have Og:s1.heard.length=0:=rfl;clear cN cH cC cS cE o5 o1 o2 o3 hN q5 hH1 q1 hC0 hC9 hS q2 hH2 q3 hCf hH3;simp only at a1 a2 a3 a4 a5 a6 a7 a8 a9 RT RU a12 RV;generalize hE 0 7=H7 at *;generalize hE 1 8=H8 at *;generalize hE 2 3=H3 at *;generalize s1=s at *;haveI:Ct 11 [sz,I 5] True (.aI [p0.d,I 540]):=⟨fun _=>a1⟩
 haveI:Ct 11 [s.d,I 0] True (.aI [p0.d,I 1]):=⟨fun _=>a2⟩
 haveI:Ct 11 [s.d,I 5] True (.aI [bG.d ⟨s,j5,d5⟩,I 0]):=⟨fun _=>a3⟩
 haveI:Ct 20 [bG.d ⟨s,j5,d5⟩,I (-1)] True (.aI [p0.d,I 1]):=⟨fun _=>a4⟩
 haveI:Ct 13 [bG.d ⟨s,j5,d5⟩,H7.d] True (.aI [yd s [H7.d] j1 d5,I 0]):=⟨fun _=>a5⟩
 haveI:Ct 20 [yd s [H7.d] j1 d5,I 0] True (.aI [bG.d ⟨s,jl,dl⟩,I 0]):=⟨fun _=>a6⟩
 haveI:Ct 20 [yd s [H7.d] j1 d5,I 9] True (.aI [yd s [H7.d] jk dk,I 0]):=⟨fun _=>a7⟩
 haveI:Ct 18 [yd s [H7.d] j1 d5] True (.aI [yd s [H7.d] j2 d2,I 0]):=⟨fun _=>a8⟩
 haveI:Ct 13 [yd s [H7.d] j2 d2,H8.d] True (.aI [yd s [H7.d,H8.d] j3 d2,I 0]):=⟨fun _=>a9⟩
 haveI:Ct 20 [yd s [H7.d,H8.d] j3 d2,I 0] True (.aI [yd s [H7.d] jf df,I 0]):=⟨fun _=>RT⟩
 haveI:Ct 13 [yd s [H7.d,H8.d] j3 d2,H3.d] True (.aI [p0.d,I 1]):=⟨fun _=>RU⟩
 haveI:Ct 16 [pz] True (I 580):=⟨fun _=>a12⟩
 haveI:Ct 16 [yd s [H7.d,H8.d] j3 d2] True (I 0):=⟨fun _=>RV⟩
 haveI:Ct 25 [.sl 8 [H7.d],.sl 8 [H7.d]] True (.bool true):=⟨fun _=>a14⟩
 haveI:Ct 26 [s.d,s.d] True (.bool true):=⟨fun _=>a15⟩
 haveI:Ct 28 [I 0,I 7] True H7.d:=⟨fun _=>b1⟩
 haveI:Ct 28 [I 1,I 8] True H8.d:=⟨fun _=>b2⟩
 haveI:Ct 28 [I 2,I 3] True H3.d:=⟨fun _=>b3⟩
 haveI:Ct 27 [] True s.d:=⟨fun _=>b4⟩
 clear a1 a2 a3 a4 a5 a6 a7 a8 a9 RT RU a12 RV a14 a15 b1 b2 b3 b4;replace N8:Hid _:=N8;repeat' first|exact zQ|with_reducible apply zJ<;>intro _|refine zK ?_
 all_goals first|exact absurd N8.out (by assumption)|(exfalso;omega)
end Go.V.Jn
namespace Go.V.Jn
open Go.Proofs Go.RowKit Go.V.Lx Go.V.Gr Go.V.Ty Go.V.St
abbrev eB:Sh:=.int .i64
def uz{n:Int}(h:(Lit.int .i64 n).wf=true):i64 n:=by
 simp[Lit.wf,IntKind.min,IntKind.max,IntKind.signed,IntKind.bits]at h;exact⟨by omega,by omega⟩
def gU{α:Type}{e:Sh}{sz:Nat}{f:α->D}{p:α->Prop}(key:∀ys,e.bX ys->∃x:α,e.pack ys=f x/\p x){ys:List D}(h:(Sh.slice sz e).bX ys):∃l:List α,ys=[.sl sz (l.map f)]/\Lm l/\∀x∈l,p x:=by
 simp only[Sh.bX]at h;obtain⟨es,rfl,hl,h⟩:=h;obtain⟨l,rfl,hp⟩:=qT (f:=f) (p:=p) (es:=es) fun x hx=>by
  obtain⟨zs,rfl,hz⟩:=h x hx;exact key zs hz
 rw[List.length_map]at hl;exact⟨l,rfl,fZ hl,hp⟩
def DD:Sh:=.agg [.str,eB,eB,eB,ur]
def Yh:Sh:=.agg [eB,eB,eB,.slice 5 DD]
def O1:Sh:=.agg [eB,eB,Yh]
def As:Sh:=.agg [eB,eB,O1]
structure UX(x:Word):Prop where
 al:Lm x.alts
 f:i64 x.f
 u:i64 x.u
 s:i64 x.s
def QB(ys:List D)(h:DD.bX ys):∃x:Word,DD.pack ys=x.d/\UX x:=by
 simp only[DD,Sh.bX,Sh.iz]at h;obtain⟨_,_,rfl,⟨t,rfl,_⟩,_,_,rfl,⟨f,rfl,h1⟩,_,_,rfl,⟨u,rfl,h2⟩,_,_,rfl,⟨s,rfl,h3⟩,_,_,rfl,h4,rfl⟩:=h;obtain⟨l,rfl,hl,_⟩:=tP h4;exact⟨⟨t,f,u,s,l⟩,rfl,⟨hl,uz h1,uz h2,uz h3⟩⟩
structure RS(x:bn):Prop where
 lw:Lm x.words
 al:∀w∈x.words,Lm w.alts
 ok:okW (c_ x)
def NX(ys:List D)(h:As.bX ys):∃x:bn,As.pack ys=x.d/\RS x:=by
 simp only[As,O1,Yh,Sh.bX,Sh.iz]at h;obtain⟨_,_,rfl,⟨a,rfl,h1⟩,_,_,rfl,⟨b,rfl,h2⟩,_,_,rfl,⟨_,_,rfl,⟨c,rfl,h3⟩,_,_,rfl,⟨d,rfl,h4⟩,_,_,rfl,⟨_,_,rfl,⟨e,rfl,h5⟩,_,_,rfl,⟨f,rfl,h6⟩,_,_,rfl,⟨g,rfl,h7⟩,_,_,rfl,h8,rfl⟩,rfl⟩,rfl⟩:=h;obtain⟨l,rfl,hl,hp⟩:=gU (f:=Word.d) (p:=UX) QB (sz:=5) (by simp only[Sh.bX];exact h8);refine⟨⟨a,b,c,d,e,f,g,l⟩,rfl,⟨hl,fun w hw=>(hp w hw).al,?_⟩⟩;have hw:∀x∈l,okW (cF x):=fun x hx=>by
  have o:=hp x hx;have ht:sb (x.alts.map aU.t):=by rw[xh];intro y hy;obtain⟨s,_,rfl⟩:=List.mem_map.1 hy;trivial
  have h1:=o.f;have h2:=o.u;have h3:=o.s;unfold i64 at h1 h2 h3;simp[cF,okW,sb,ht,h1,h2,h3]
 have hws:sb (l.map cF):=by rw[xh];intro y hy;obtain⟨s,hs,rfl⟩:=List.mem_map.1 hy;exact hw s hs
 replace h1:=uz h1;replace h2:=uz h2;replace h3:=uz h3;replace h4:=uz h4;replace h5:=uz h5;replace h6:=uz h6;replace h7:=uz h7;unfold i64 at h1 h2 h3 h4 h5 h6 h7;simp[c_,okW,sb,hws,h1,h2,h3,h4,h5,h6,h7]
def DC:Sh:=.agg [eB,eB,eB,eB,ur,ur,.str,.bool]
def QA(ys:List D)(h:DC.bX ys):∃x:Term,DC.pack ys=x.d/\St.Dd x:=by
 simp only[DC,Sh.bX,Sh.iz]at h;obtain⟨_,_,rfl,⟨a,rfl,_⟩,_,_,rfl,⟨b,rfl,_⟩,_,_,rfl,⟨c,rfl,_⟩,_,_,rfl,⟨e,rfl,_⟩,_,_,rfl,h1,_,_,rfl,h2,_,_,rfl,⟨t,rfl,h3⟩,_,_,rfl,⟨g,rfl⟩,rfl⟩:=h;obtain⟨l,rfl,hl,_⟩:=tP h1;obtain⟨m,rfl,hm,_⟩:=tP h2;exact⟨⟨a,b,c,e,l,m,t,g⟩,rfl,fZ h3,hl,hm⟩
def At:Sh:=.agg [eB,eB,eB,eB,eB,eB,eB,eB,eB,eB]
def NY(ys:List D)(h:At.bX ys):∃x:cu,At.pack ys=x.d/\True:=by
 simp only[At,Sh.bX,Sh.iz]at h;obtain⟨_,_,rfl,⟨a,rfl,_⟩,_,_,rfl,⟨b,rfl,_⟩,_,_,rfl,⟨c,rfl,_⟩,_,_,rfl,⟨d,rfl,_⟩,_,_,rfl,⟨e,rfl,_⟩,_,_,rfl,⟨f,rfl,_⟩,_,_,rfl,⟨g,rfl,_⟩,_,_,rfl,⟨i,rfl,_⟩,_,_,rfl,⟨j,rfl,_⟩,_,_,rfl,⟨k,rfl,_⟩,rfl⟩:=h;exact⟨⟨a,b,c,d,e,f,g,i,j,k⟩,rfl,trivial⟩
def xE:Sh:=.agg [eB,.agg (List.replicate 4 eB)]
def Lv(ys:List D)(h:xE.bX ys):∃x:aP,xE.pack ys=x.d/\True:=by
 simp only[xE,List.replicate,Sh.bX,Sh.iz]at h;obtain⟨_,_,rfl,⟨a,rfl,_⟩,_,_,rfl,⟨_,_,rfl,⟨b,rfl,_⟩,_,_,rfl,⟨c,rfl,_⟩,_,_,rfl,⟨d,rfl,_⟩,_,_,rfl,⟨e,rfl,_⟩,rfl⟩,rfl⟩:=h;exact⟨⟨a,b,c,d,e⟩,rfl,trivial⟩
def tA:Sh:=.agg [eB,eB,eB,eB,eB,eB,eB]
def N0(ys:List D)(h:tA.bX ys):∃x:bS,tA.pack ys=x.d/\True:=by
 simp only[tA,Sh.bX,Sh.iz]at h;obtain⟨_,_,rfl,⟨a,rfl,_⟩,_,_,rfl,⟨b,rfl,_⟩,_,_,rfl,⟨c,rfl,_⟩,_,_,rfl,⟨d,rfl,_⟩,_,_,rfl,⟨e,rfl,_⟩,_,_,rfl,⟨f,rfl,_⟩,_,_,rfl,⟨g,rfl,_⟩,rfl⟩:=h;exact⟨⟨a,b,c,d,e,f,g⟩,rfl,trivial⟩
def pO:Sh:=.agg [eB,eB,eB,eB]
def N1(ys:List D)(h:pO.bX ys):∃x:cj,pO.pack ys=x.d/\i64 x.kind:=by
 simp only[pO,Sh.bX,Sh.iz]at h;obtain⟨_,_,rfl,⟨a,rfl,_⟩,_,_,rfl,⟨b,rfl,_⟩,_,_,rfl,⟨c,rfl,h1⟩,_,_,rfl,⟨d,rfl,_⟩,rfl⟩:=h;exact⟨⟨a,b,c,d⟩,rfl,uz h1⟩
def ve:Sh:=.agg [eB,eB,eB]
def NU(ys:List D)(h:ve.bX ys):∃x:fM,ve.pack ys=x.d/\True:=by
 simp only[ve,Sh.bX,Sh.iz]at h;obtain⟨_,_,rfl,⟨a,rfl,_⟩,_,_,rfl,⟨b,rfl,_⟩,_,_,rfl,⟨c,rfl,_⟩,rfl⟩:=h;exact⟨⟨a,b,c⟩,rfl,trivial⟩
def Qu(ys:List D)(h:ve.bX ys):∃x:iK,ve.pack ys=x.d/\True:=by
 simp only[ve,Sh.bX,Sh.iz]at h;obtain⟨_,_,rfl,⟨a,rfl,_⟩,_,_,rfl,⟨b,rfl,_⟩,_,_,rfl,⟨c,rfl,_⟩,rfl⟩:=h;exact⟨⟨a,b,c⟩,rfl,trivial⟩
def Qw(ys:List D)(h:pO.bX ys):∃x:gP,pO.pack ys=x.d/\True:=by
 simp only[pO,Sh.bX,Sh.iz]at h;obtain⟨_,_,rfl,⟨a,rfl,_⟩,_,_,rfl,⟨b,rfl,_⟩,_,_,rfl,⟨c,rfl,h1⟩,_,_,rfl,⟨d,rfl,_⟩,rfl⟩:=h;exact⟨⟨a,b,c,d⟩,rfl,trivial⟩
def DB:Sh:=.agg [.str,.slice 1 eB]
def TM(ys:List D)(h:eB.bX ys):∃x:Int,eB.pack ys= .int .i64 x/\True:=by
 simp only[Sh.bX]at h;obtain⟨n,rfl,_⟩:=h;exact⟨n,rfl,trivial⟩
def Qy(ys:List D)(h:DB.bX ys):∃x:Sign,DB.pack ys=x.d/\Lm x.c:=by
 rw[DB,Sh.bX]at h;simp only[Sh.iz]at h;obtain⟨_,_,rfl,h0,_,_,rfl,h1,rfl⟩:=h;simp only[Sh.bX]at h0;obtain⟨t,rfl,_⟩:=h0;obtain⟨l,rfl,hl,_⟩:=gU (f:=D.int .i64) (p:=fun _=>True) TM h1;exact⟨⟨t,l⟩,rfl,hl⟩
def xF:Sh:=.agg [eB,eB,eB,eB,eB,eB,.bool,.agg [.slice 3 ve,eB,.slice 3 ve],.slice 2 DB,.agg [eB,eB,.slice 4 pO]]
def nY{ys:List D}(h:eB.bX ys):∃n,ys=[I n]:=by
 simp only[Sh.bX]at h;obtain⟨n,rfl,_⟩:=h;exact⟨n,rfl⟩
def R_{ys:List D}(h:Sh.bool.bX ys):∃n,ys=[.bool n]:=by
 simp only[Sh.bX]at h;exact h
def Ly(ys:List D)(h:xF.bX ys):∃x:cM,xF.pack ys=x.d/\H4 x:=by
 rw[xF,Sh.bX]at h;simp only[Sh.iz]at h;obtain⟨_,_,rfl,ha,_,_,rfl,hb,_,_,rfl,hc,_,_,rfl,hd,_,_,rfl,he,_,_,rfl,hf,_,_,rfl,hg,_,_,rfl,h1,_,_,rfl,h2,_,_,rfl,h3,rfl⟩:=h;rw[Sh.bX]at h1 h3;simp only[Sh.iz]at h1 h3;obtain⟨_,_,rfl,i1,_,_,rfl,i2,_,_,rfl,i3,rfl⟩:=h1;obtain⟨_,_,rfl,j1,_,_,rfl,j2,_,_,rfl,j3,rfl⟩:=h3;obtain⟨a,rfl⟩:=nY ha;obtain⟨b,rfl⟩:=nY hb;obtain⟨c,rfl⟩:=nY hc;obtain⟨d,rfl⟩:=nY hd;obtain⟨e,rfl⟩:=nY he;obtain⟨f,rfl⟩:=nY hf;obtain⟨g,rfl⟩:=R_ hg;obtain⟨o,rfl⟩:=nY i2;obtain⟨w,rfl⟩:=nY j1;obtain⟨z,rfl⟩:=nY j2;obtain⟨gs,rfl,k1,_⟩:=gU NU i1;obtain⟨ks,rfl,k2,_⟩:=gU Qu i3;obtain⟨ss,rfl,k3,k4⟩:=gU Qy h2;obtain⟨bl,rfl,k5,_⟩:=gU Qw j3;exact⟨⟨a,b,c,d,e,f,g,⟨gs,o,ks⟩,ss,⟨w,z,bl⟩⟩,rfl,⟨k1,k2⟩,⟨k3,k4⟩,k5⟩
def KS:Sh:=tA
def My:Sh:=.agg [KS,.slice 6 zM,.slice 8 DC,.slice 10 At,.slice 5 xE,.slice 7 tA,.slice 14 xF,.slice 4 pO,.slice 8 As]
structure uC(s:bg):Prop where
 gr:Lm s.eK/\∀g∈s.eK,mP g
 te:Lm s.eh/\∀x∈s.eh,St.Dd x
 ho:Lm s.nZ
 lb:Lm s.eF
 lt:Lm s.lj
 vi:Lm s.cx/\∀v∈s.cx,H4 v
 vs:Lm s.eZ/\∀v∈s.eZ,i64 v.kind
 he:Lm s.heard/\∀h∈s.heard,RS h
def NV(ys:List D)(h:zM.bX ys):∃g:aW,zM.pack ys=g.d/\mP g:=Qs ⟨ys,rfl,h⟩
def Qz(ys:List D)(h:My.bX ys):∃s:bg,.agg ys=s.d/\uC s:=by
 rw[My,Sh.bX]at h;simp only[Sh.iz]at h;obtain⟨_,_,rfl,h0,_,_,rfl,h1,_,_,rfl,h2,_,_,rfl,h3,_,_,rfl,h4,_,_,rfl,h5,_,_,rfl,h6,_,_,rfl,h7,_,_,rfl,h8,rfl⟩:=h;simp only[KS,tA,Sh.bX,Sh.iz]at h0;obtain⟨_,_,rfl,⟨a,rfl,_⟩,_,_,rfl,⟨b,rfl,_⟩,_,_,rfl,⟨c,rfl,_⟩,_,_,rfl,⟨d,rfl,_⟩,_,_,rfl,⟨e,rfl,_⟩,_,_,rfl,⟨f,rfl,_⟩,_,_,rfl,⟨g,rfl,_⟩,rfl⟩:=h0;obtain⟨l1,rfl,k1,p1⟩:=gU NV h1;obtain⟨l2,rfl,k2,p2⟩:=gU QA h2;obtain⟨l3,rfl,k3,p3⟩:=gU NY h3;obtain⟨l4,rfl,k4,p4⟩:=gU Lv h4;obtain⟨l5,rfl,k5,p5⟩:=gU N0 h5;obtain⟨l6,rfl,k6,p6⟩:=gU Ly h6;obtain⟨l7,rfl,k7,p7⟩:=gU N1 h7;obtain⟨l8,rfl,k8,p8⟩:=gU NX h8;exact⟨⟨a,b,c,d,e,f,g,l1,l2,l3,l4,l5,l6,l7,l8⟩,rfl,⟨⟨k1,p1⟩,⟨k2,p2⟩,k3,k4,k5,⟨k6,p6⟩,⟨k7,p7⟩,⟨k8,p8⟩⟩⟩
def Ha(ys:List D)(h:(Sh.int .u8).bX ys):∃x:UInt8,(Sh.int .u8).pack ys= .int .u8 (x.toNat:Int)/\True:=by
 simp only[Sh.bX]at h;obtain⟨n,rfl,hw⟩:=h;simp[Lit.wf,IntKind.min,IntKind.max,IntKind.signed,IntKind.bits]at hw;refine⟨UInt8.ofNat n.toNat,?_,trivial⟩;show D.int .u8 n=_
 congr 1
 rw[UInt8.toNat_ofNat_of_lt' (by simp[UInt8.size];omega)];omega
def E1(ys:List D)(h:pN.bX ys):∃b:ah,pN.pack ys=aT b/\Lm b:=by
 rw[pN]at h;obtain⟨l,rfl,hl,_⟩:=gU Ha h;exact⟨l,rfl,hl⟩
def Lw{ys:List D}(h:pN.bX ys):∃b:ah,ys=[aT b]/\Lm b:=by
 rw[pN]at h;obtain⟨l,rfl,hl,_⟩:=gU Ha h;exact⟨l,rfl,hl⟩
def Av:Sh:=.agg [eB,pN]
def N2(ys:List D)(h:Av.bX ys):∃x:bE,Av.pack ys=x.d/\Lm x.data:=by
 rw[Av,Sh.bX]at h;simp only[Sh.iz]at h;obtain⟨_,_,rfl,h0,_,_,rfl,h1,rfl⟩:=h;obtain⟨a,rfl⟩:=nY h0;obtain⟨b,rfl,hb⟩:=Lw h1;exact⟨⟨a,b⟩,rfl,hb⟩
def Au:Sh:=.agg [My,.agg [.slice 1 pN,eB,eB],.agg [.slice 1 pN,.slice 2 Av,eB,.bool]]
structure vq(p:bG):Prop where
 cn:uC p.cn
 rcs:Lm p.cm.bJ/\∀b∈p.cm.bJ,Lm b
 sec:Lm p.cg.a_/\∀b∈p.cg.a_,Lm b
 pen:Lm p.cg.br/\∀w∈p.cg.br,Lm w.data
def NZ{d:D}(h:Au.has d):∃p:bG,d=p.d/\vq p:=by
 obtain⟨ys,rfl,h⟩:=h;rw[Au,Sh.bX]at h;simp only[Sh.iz]at h;obtain⟨_,_,rfl,h0,_,_,rfl,h1,_,_,rfl,h2,rfl⟩:=h;rw[Sh.bX]at h1 h2;simp only[Sh.iz]at h1 h2;obtain⟨_,_,rfl,i1,_,_,rfl,i2,_,_,rfl,i3,rfl⟩:=h1;obtain⟨_,_,rfl,j1,_,_,rfl,j2,_,_,rfl,j3,_,_,rfl,j4,rfl⟩:=h2;obtain⟨s,hs,os⟩:=Qz _ h0;injection hs with hs;subst hs;obtain⟨R,rfl,hR⟩:=gU E1 i1;obtain⟨m,rfl⟩:=nY i2;obtain⟨y,rfl⟩:=nY i3;obtain⟨S,rfl,hS⟩:=gU E1 j1;obtain⟨W,rfl,hW⟩:=gU N2 j2;obtain⟨L,rfl⟩:=nY j3;obtain⟨t,rfl⟩:=R_ j4;exact⟨⟨s,⟨R,m,y⟩,⟨S,W,L,t⟩⟩,rfl,⟨os,hR,hS,hW⟩⟩
def rf{n:Int}(h:okW (.i n)):(cr (.i n)).length<=11:=by
 rw[okW]at h;have:=i_ (DP h.1 h.2);simp only[cr,List.length_cons];omega
def R3{s:ah}(h:s.length<=1048576):(cr (.t s)).length<=11+s.length:=by
 have:=i_ (u:=s.length) oM;simp only[cr,List.length_cons,List.length_append];omega
def F5{xs:List aU}(h:xs.length<=1048576):(cr (.l xs)).length<=11+(dW xs).length:=by
 have:=i_ (u:=xs.length) oM;simp only[cr,List.length_cons,List.length_append];omega
theorem uJ{α:Type}{f:α->D}(hf:∀x,1<=(f x).bulk):∀l:List α,l.length<=D.dG (l.map f)
 |[]=>Nat.zero_le _
 |x::l=>by
  rw[mC,D.dG,List.length_cons];have:=uJ hf l;have:=hf x;omega
theorem Nu:∀ {l:List ah},D.dG (l.map D.str)<=1048576->(dW (l.map .t)).length<=15 * D.dG (l.map D.str)
 |[],_=>Nat.zero_le _
 |s::l,h=>by
  simp only[mC,dW,List.length_append,D.dG,D.bulk]at h⊢;have:=R3 (s:=s) oM;have:=Nu (l:=l) oM;omega
def FQ(w:Word):w.d.bulk=w.t.length+5+D.dG (w.alts.map D.str):=by simp only[Word.d,strs,D.bulk,D.dG];omega
def PZ{w:Word}(ok:okW (cF w))(h:w.d.bulk<=1048576):(cr (cF w)).length<=15 * w.d.bulk:=by
 rw[FQ]at h⊢;have ha:=uJ (f:=D.str) (fun x=>by simp[D.bulk]) w.alts;unfold cF at ok⊢;rw[De]at ok;have h0:=F5 (xs:=[.t w.t,.i w.f,.i w.u,.i w.s,.l (w.alts.map .t)]) sI;have h1:=R3 (s:=w.t) oM;have h2:=rf (n:=w.f) (ok _ sI);have h3:=rf (n:=w.u) (ok _ sI);have h4:=rf (n:=w.s) (ok _ sI);have h5:=F5 (xs:=w.alts.map aU.t) (by rw[List.length_map];omega);have h6:=Nu (l:=w.alts) oM;simp only[dW,List.length_append,List.length_nil]at h0;omega
theorem EO:∀ {l:List Word},(∀w∈l,okW (cF w))->D.dG (l.map Word.d)<=1048576->(dW (l.map cF)).length<=15 * D.dG (l.map Word.d)
 |[],_,_=>Nat.zero_le _
 |w::l,ok,h=>by
  simp only[mC,dW,List.length_append,D.dG]at h⊢;have:=PZ (ok w sI) oM;have:=EO (l:=l) (fun x hx=>ok x (by simp[hx])) oM;omega
def CP(h:bn):h.d.bulk=8+D.dG (h.words.map Word.d):=by simp only[bn.d,D.bulk,D.dG];omega
def Uh{h:bn}(ok:okW (c_ h))(hb:h.d.bulk<=1048576):(cz h).length<=15 * h.d.bulk:=by
 rw[CP]at hb⊢;have ha:=uJ (f:=Word.d) (fun x=>by rw[FQ];omega) h.words;unfold cz;unfold c_ at ok⊢;rw[De]at ok;have h0:=F5 (xs:=[.i h.at_,.i h.src,.i h.seq,.i h.jX,.i h.kind,.i h.lQ,.i h.cut,.l (h.words.map cF)]) sI;have h1:=rf (n:=h.at_) (ok _ sI);have h2:=rf (n:=h.src) (ok _ sI);have h3:=rf (n:=h.seq) (ok _ sI);have h4:=rf (n:=h.jX) (ok _ sI);have h5:=rf (n:=h.kind) (ok _ sI);have h6:=rf (n:=h.lQ) (ok _ sI);have h7:=rf (n:=h.cut) (ok _ sI);have h8:=F5 (xs:=h.words.map cF) (by rw[List.length_map];omega);have okw:=ok (.l (h.words.map cF)) sI;rw[De]at okw;have h9:=EO (l:=h.words) (fun w hw=>okw _ (List.mem_map_of_mem hw)) oM;simp only[dW,List.length_append,List.length_nil]at h0;omega
def Ua{h:bn}(o:RS h)(hb:h.d.bulk<=1048576):oG h:=⟨o.ok,by have:=Uh o.ok hb;omega⟩
def Ab{xs:List D}{i n:Nat}{es:List D}(h:xs[i]? =some (.sl n es)):D.dG es+1<=(D.agg xs).bulk:=by
 have:=rC (mG h);simp only[D.bulk]at this⊢;exact this
def Me{p:bG}{h:bn}(hh:h∈p.cn.heard):h.d.bulk<=p.d.bulk:=by
 have h1:=rC (l:=p.cn.heard.map bn.d) (List.mem_map_of_mem hh);have h2:=Ab (xs:=p.d.cells) (i:=14) (n:=8) (es:=p.cn.heard.map bn.d) rfl;exact Nat.le_trans h1 (Nat.le_of_succ_le h2)
def Ij(p:bG):p.cn.heard.length<=p.d.bulk:=by
 have h1:=uJ (f:=bn.d) (fun x=>by rw[CP];omega) p.cn.heard;have h2:=Ab (xs:=p.d.cells) (i:=14) (n:=8) (es:=p.cn.heard.map bn.d) rfl;exact Nat.le_trans h1 (Nat.le_of_succ_le h2)
theorem FM:∀b:ah,D.dG (aB b)=b.length
 |[]=>rfl
 |x::b=>by
  have:=FM b;simp only[aB,mC,D.dG,D.bulk,List.length_cons]at this⊢;omega
def JK(b:ah):(aT b).bulk=b.length+1:=by rw[aT,D.bulk,FM]
def Rk{p:bG}{b:ah}(hb:b∈p.cg.a_):b.length<=p.d.bulk:=by
 have h1:=rC (l:=p.cg.a_.map aT) (List.mem_map_of_mem hb);rw[JK]at h1;have h2:=Ab (xs:=p.d.cells) (i:=18) (n:=1) (es:=p.cg.a_.map aT) rfl;exact Nat.le_trans (Nat.le_of_succ_le h1) (Nat.le_of_succ_le h2)
def ML(w:bE):w.d.bulk=w.data.length+2:=by
 have:=JK w.data;simp only[bE.d,D.dG,D.bulk]at this⊢;omega
def OJ{p:bG}{w:bE}(hb:w∈p.cg.br):w.data.length<=p.d.bulk:=by
 have h1:=rC (l:=p.cg.br.map bE.d) (List.mem_map_of_mem hb);rw[ML]at h1;have h2:=Ab (xs:=p.d.cells) (i:=19) (n:=2) (es:=p.cg.br.map bE.d) rfl;exact Nat.le_trans (Nat.le_trans (Nat.le_add_right _ 2) h1) (Nat.le_of_succ_le h2)
theorem uC.s{s:bg}(o:uC s)(hf:yF s=true):St.fB s:=by
 refine⟨fun g hg=>⟨o.gr.2 g hg,fun x hx=>?_⟩,o.te.2,fun v hv=>(o.vi.2 v hv).1,o.vs.2,o.gr.1,o.te.1,o.vi.1,o.vs.1,o.he.1⟩;unfold yF at hf;simp only[bA,List.all_eq_true]at hf;have h1:=hf.1.1.2 g hg;unfold Lk at h1;have h2:tO g=true:=by
  cases h:tO g with
  |true=>rfl
  |false=>rw[h]at h1;simp at h1
 unfold tO at h2;simp only[bA,List.all_eq_true]at h2;have h3:=h2.2.2 x hx;simp only[yD,bA,decide_eq_true_eq]at h3;omega
theorem uC.f4{s:bg}(o:uC s):XL s:=⟨o.gr.2,o.gr.1,o.te.1,o.vi.1,o.he.1,fun h hh=>(o.he.2 h hh).lw⟩
theorem uC.ss{s:bg}(o:uC s):H2 s:=⟨⟨o.te.1,fun x hx=>(o.te.2 x hx).2⟩,o.ho,fun g hg=>O4 (o.gr.2 g hg),o.gr.1,o.lb,o.lt,⟨o.vi.1,o.vs.1,o.vi.2⟩,⟨o.he.1,fun h hh=>⟨(o.he.2 h hh).lw,(o.he.2 h hh).al⟩⟩⟩
def uC.cb{s:bg}(o:uC s){l:List bn}(hl:Lm l)(hh:∀h∈l,RS h):uC (cb s l):=⟨o.gr,o.te,o.ho,o.lb,o.lt,o.vi,o.vs,⟨hl,hh⟩⟩
theorem uC.zero:uC s0:=⟨⟨by simp[Lm],by simp⟩,⟨by simp[Lm],by simp⟩,by simp[Lm],by simp[Lm],by simp[Lm],⟨by simp[Lm],by simp⟩,⟨by simp[Lm],by simp⟩,⟨by simp[Lm],by simp⟩⟩
theorem I1:∀ {l:List ah},(∀b∈l,b.length<=2000)->aV l<=19 * l.length
 |[],_=>Nat.zero_le _
 |b::l,h=>by
  have h1:=I1 fun x hx=>h x (List.mem_cons_of_mem _ hx);have h2:=h b (List.mem_cons_self ..);have h3:bm b<=19:=by unfold bm;omega
  simp only[aV,mC,List.sum_cons,List.length_cons]at h1⊢;omega
theorem vq.f{p:bG}(o:vq p)(hb:p.d.bulk<=1048576):okF p:=
 ⟨o.cn.f4,⟨⟨o.sec.1,o.pen.1⟩,fun b hm=>by have:=Rk hm;omega,fun w hm=>by have:=OJ hm;omega⟩,o.rcs.1,o.rcs.2⟩
theorem vq.hr{p:bG}(o:vq p)(hb:p.d.bulk<=1048576):∀h∈p.cn.heard,oG h:=fun h hh=>Ua (o.cn.he.2 h hh) (by have:=Me hh;omega)
theorem vq.p{p:bG}(o:vq p)(hb:p.d.bulk<=1048576)(hf:Br p=true):qi p:=by
 unfold Br at hf;simp only[bA,List.all_eq_true]at hf;obtain⟨hf,hr⟩:=hf;have pC:yF p.cn=true/\¬(40:Int)<p.cm.bJ.length:=by
  cases h:yF p.cn with
  |false=>rw[h]at hf;simp at hf
  |true=>rw[h]at hf;simp at hf;exact⟨rfl,by omega⟩
 have hu:=I1 (l:=p.cm.bJ) fun b hm=>by have:=hr b hm;simp at this;omega
 refine⟨o.cn.s pC.1,?_,o.hr hb,?_,⟨o.sec.1,o.pen.1⟩⟩
 ·have:=Ij p;omega
 ·unfold pK;omega
structure MO(p:bG):Prop where
 a:H2 p.cn
 b:Lm p.cm.bJ
 c:okD p.cg
theorem MO.zero:MO p0:=⟨uC.zero.ss,by simp[Lm],by simp[Lm],by simp[Lm]⟩
def aaS{p:bG}(o:vq p):MO (fh p).1:=by
 by_cases hp:iw p=true
 ·have hg:=(eg p).1 hp;by_cases hG:cB p.cg.a_<4294967296
  ·obtain⟨S,e,g,_⟩:=zB hg hG;have h2:=Aq g;have h3:=kG g.cg;rw[e]at h2 h3⊢;exact⟨o.cn.ss,by simp only[Lm]at *;omega,by simp only[Lm]at *;omega,by simp[Lm]⟩
  ·have hd:uY p.cg (-1)=p.cg:=by unfold uY;rw[<-hg.left]
   rcases tf hg (n:= -1) oM oM with⟨f1,_⟩|⟨_,_,_,_,_,_,_,_,_,_,_,_,_,f10,_⟩
   ·rw[hd]at f1;unfold fh;rw[if_pos hp,f1,if_neg oM];exact .zero
   ·exact absurd f10 hG
 ·unfold fh;rw[if_neg hp];exact .zero
def Vz{p:bG}(o:vq p)(n:Int):MO (cZ p n).1:=by
 by_cases hp:iw p=true
 ·by_cases hn:0<=n/\n<=65536
  ·have hg:=(eg p).1 hp;have h1:=Et hg.cn;rcases xc hg hn.1 hn.2 with⟨_,e⟩|⟨q,_,hq,hd,_,e⟩
   ·rw[e];exact .zero
   ·rw[e];exact⟨(o.cn.cb (by simp only[Lm,List.length_take];omega) fun y hy=>o.cn.he.2 y (List.mem_of_mem_take hy)).ss,by simp only[Lm,List.length_map,List.length_take];omega,hd⟩
  ·unfold cZ;rw[if_pos hp,if_neg hn];exact .zero
 ·unfold cZ;rw[if_neg hp];exact .zero
end Go.V.Jn
namespace Go.V.Jn
open Go.Proofs Go.Proofs.Tryz Go.RowKit Go.V.Lx Go.V.Gr Go.V.Ty Go.V.St
def OZ{p:bG}(o:MO p):ao prog 15 [p.d,p.d] (.bool true):=by
 have key:∀p:bG,Ct 15 [p.d,p.d] (H2 p.cn/\Lm p.cm.bJ/\okD p.cg) (.bool true):=fun p=>inferInstance;exact(key p).h ⟨o.a,o.b,o.c⟩
def Jd(p:bG)(n:Int)(op:vq p)(hb:p.d.bulk<=1048576):ao prog 4 [p.d,I n] (.bool true):=by
 suffices Ct 4 [p.d,I n] True (.bool true)from this.h trivial
 refine bf f4 [] [.tmp 4] fun pre=>?_;haveI:Ct 7 [] True (.bool true):=⟨fun _=>Ye⟩
 have hF2:ao prog 9 [p.d] (.bool (Br p)):=by
  have key:∀p:bG,Ct 9 [p.d] (okF p) (.bool (Br p)):=fun p=>inferInstance;exact(key p).h (op.f hb)
 have hB:=fun hf=>op.p hb hf;generalize Br p=B at *;haveI:Ct 9 [p.d] True (.bool B):=⟨fun _=>hF2⟩
 clear hF2;cases B
 ·clear hB op hb;repeat' first|exact zQ|with_reducible apply zJ<;>intro _|refine zK ?_
 have k2:=hB rfl;clear hB;have a1:ao prog 18 [p.d] (.aI [(fh p).1.d,I (fh p).2]):=by
  have key:∀(p:bG),Ct 18 [p.d] (qi p) (.aI [(fh p).1.d,I (fh p).2]):=fun p=>inferInstance;exact(key p).h k2
 have a2:ao prog 19 [p.d] (.aI [(fh p).1.d,I (fh p).2]):=by
  have key:∀(p:bG),Ct 19 [p.d] (qi p) (.aI [(fh p).1.d,I (fh p).2]):=fun p=>inferInstance;exact(key p).h k2
 have a3:ao prog 20 [p.d,I n] (.aI [(cZ p n).1.d,I (cZ p n).2]):=by
  have key:∀(p:bG) (n:Int),Ct 20 [p.d,I n] (qi p) (.aI [(cZ p n).1.d,I (cZ p n).2]):=fun p n=>inferInstance;exact(key p n).h k2
 have a4:ao prog 21 [p.d,I n] (.aI [(cZ p n).1.d,I (cZ p n).2]):=by
  have key:∀(p:bG) (n:Int),Ct 21 [p.d,I n] (qi p) (.aI [(cZ p n).1.d,I (cZ p n).2]):=fun p n=>inferInstance;exact(key p n).h k2
 have a7:=OZ (aaS op);have a8:=OZ (Vz op n);clear op hb k2;generalize(fh p).1=X at *;generalize(fh p).2=e at *;generalize(cZ p n).1=Y at *;generalize(cZ p n).2=g at *;haveI:Ct 18 [p.d] True (.aI [X.d,I e]):=⟨fun _=>a1⟩
 haveI:Ct 19 [p.d] True (.aI [X.d,I e]):=⟨fun _=>a2⟩
 haveI:Ct 20 [p.d,I n] True (.aI [Y.d,I g]):=⟨fun _=>a3⟩
 haveI:Ct 21 [p.d,I n] True (.aI [Y.d,I g]):=⟨fun _=>a4⟩
 haveI:Ct 15 [X.d,X.d] True (.bool true):=⟨fun _=>a7⟩
 haveI:Ct 15 [Y.d,Y.d] True (.bool true):=⟨fun _=>a8⟩
 clear a1 a2 a3 a4 a7 a8;repeat' first|exact zQ|with_reducible apply zJ<;>intro _|refine zK ?_
structure KI(s:bg)(p:bG)(all:List bn)(safe g:Nat)(B:List bn):Prop where
 pg:PG p
 cn:p.cn=cb s B
 pre:B=all.take B.length
 Td:p.cm.sync=safe
 gen:cB p.cg.a_<=g
theorem KI.safe{s:bg}{p:bG}{all:List bn}{safe g:Nat}{B:List bn}(h:KI s p all safe g B):safe<=B.length/\B.length<=4096/\B.length<=all.length:=by
 have h1:=Et h.pg.cn;obtain⟨_,j3,j4,_⟩:=kT h.pg.cm;rw[h.pg.bJ,List.length_map,h.cn,h.Td]at j4;rw[h.cn]at h1;simp only at h1 j4;have h2:=congrArg List.length h.pre;rw[List.length_take]at h2;omega
theorem KI.akH{s:bg}{p:bG}{all:List bn}{safe g:Nat}{B:List bn}(h:KI s p all safe g B){n:Int}(h0:0<=n)(h1:n<=65536)(hg:g<4294967296):
 ∃(C:List bn) (J:gy) (K:bV),cZ p n=(⟨cb s C,J,K⟩,0)/\KI s ⟨cb s C,J,K⟩ all C.length (g+1) C/\safe<=C.length/\C.length<=all.length:=by
 have hs:=h.safe;have hgn:=h.gen;obtain⟨S,q,e,g1,g2,g3,g4,_⟩:=uL h.pg h0 h1 oM;rw[h.cn]at e g4;rw[h.Td]at g3;simp only at e g4;have hq:(B.take q).length=q:=by rw[List.length_take];omega
 refine⟨B.take q,⟨p.cm.bJ.take q,p.cm.many,q⟩,⟨S,[],-1,false⟩,e,⟨by rw[e]at g1;exact g1,rfl,?_,by rw[hq],by simp only;omega⟩,by rw[hq];omega,by rw[hq];omega⟩;rw[hq,show B.take q=(all.take B.length).take q by rw[<-h.pre],List.take_take,Nat.min_eq_left oM]
theorem KI.ok{s:bg}{p:bG}{all:List bn}{safe g:Nat}{B:List bn}(h:KI s p all safe g B)(os:St.fB s)(oh:∀h∈all,oG h):qi p:=by
 have hs:=h.safe;refine zn h.pg (by rw[h.cn];exact nI os oM) ?_;rw[h.cn];intro x hx;simp only at hx;rw[h.pre]at hx;exact oh x (List.mem_of_mem_take hx)
def JN{p:bG}(h:qi p)(g:PG p):ao prog 16 [p.d] (I 0):=by
 have:=(Ef p).h h;rwa[if_pos ((eg p).2 g)]at this
end Go.V.Jn
