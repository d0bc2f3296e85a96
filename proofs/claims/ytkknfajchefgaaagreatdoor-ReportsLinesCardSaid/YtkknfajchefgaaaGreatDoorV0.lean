/- Lemmas on plain data and programs: part V0. -/
import Derived.WalkKit
import Derived.OrdersIn
import Derived.KernelRfl
set_option linter.all false
set_option maxHeartbeats 8000000
namespace Go.V
universe u
open Go.RowKit
def AI{p:Prop}(h:p:=by obtain⟨es',c',hu⟩:=Km true (v.bH);simp(disch:=omega) only[go_sem,hb,g1,g3,ck,bD.d,eO,kU,kV,k0,k1,aaX,aaV,hl,hu,ff];exact yes _ true v.bH c' es' hu (fun s hs dq=>by simp only[ah];grind) (by simp[ah]) (by grind [mr]) (by grind [lO])):p:=h
def AS{p:Prop}(h:p:=by obtain⟨es',c',hu⟩:=Km true (0);simp(disch:=omega) only[go_sem,hb,g1,g3,ck,bD.d,eO,kU,kV,k0,k1,aaX,aaV,hl,hu,ff];exact yes _ true 0 c' es' hu (fun s hs dq=>by simp only[ah];grind) (by simp[ah]) (by grind [mr]) (by grind [lO])):p:=h
def AT{p:Prop}(h:p:=by rw[fE Cw]at hy;exact(h2.Dw h' hy).Jc hh (.inr mG) (.inl tP) sI rfl rfl (rM w' l _) (World.putObj_heap_same (aaW.1 (zt rc hh)).1) (BD _ _ _ hy fun k hk=>aaw fun e:k=l=>Cy (e▸hk))):p:=h
def By{p:Prop}(h:p:=by rintro σ bx ⟨h0,h1,h2,wZ,zf,zg,dq⟩;have au:¬(a.length:Int)<(a.length:Int):=oM;simp(disch:=omega) only[go_sem,h0,h1,h2,wZ,zf,zg,au];rw[aaP,he,aaP]at dq;simp_all[aq]):p:=h
def BY{p:Prop}(h:p:=by rintro σ bx ⟨h0,h1,h5,hn⟩;have au:¬((l.length - 1:Nat):Int)+1<(l.length:Int):=oM;simp(disch:=omega) only[go_sem,h0,h1,h5,au];rw[aeu oM]at hn;simp_all[aq]):p:=h
def IN{p:Prop}(h:p:=by rintro σ bx ⟨h0,mP,h7,h8,hn⟩;have au:¬(l.length:Int)<(l.length:Int):=oM;simp(disch:=omega) only[go_sem,h0,mP,h7,h8,au];rw[aaP,h1,aaP]at hn;simp_all[aq]):p:=h
def IS{p:Prop}(h:p:=by rintro σ bx ⟨q1,q2,Hq,Hr,Hs,hn⟩;have au:¬(l.length:Int)<(l.length:Int):=oM;simp(disch:=omega) only[go_sem,q1,q2,Hq,Hr,Hs,au];simp_all[aq,aeu,nR]):p:=h
def IT{p:Prop}(h:p:=by rintro σ bx' ⟨h0,h1,h7,h8,hn⟩;have au:¬(l.length:Int)<(l.length:Int):=oM;simp(disch:=omega) only[go_sem,h0,h1,h7,h8,au];simp_all[aq,m_]):p:=h
def OF{p:Prop}(h:p:=by subst hn;exact⟨A,cap,b,off,us,rfl,fun bh=>(hA bh).1,bz,fun i d j c hi hj=>⟨hc i d j c hi hj,.pure (hr i d j c hi hj),h1 i d j c hi hj⟩⟩):p:=h
def abi{p:Prop}(h:p:=by simp(disch:=omega) only[go_sem,h2,h7,h8,h9];rw[zH]at hc;refine⟨rfl,fun _=>by grind,by grind,fun s hs=>(eQ s oM).trans (dZ s hs)⟩):p:=h
def aqi{p:Prop}(h:p:=by simp only[yj,Sh.cp,Sh.jo]at h;obtain⟨_,_,rfl,⟨a,rfl,_⟩,_,_,rfl,⟨b,rfl,_⟩,_,_,rfl,⟨c,rfl,_⟩,rfl⟩:=h;exact⟨⟨a,b,c⟩,rfl,trivial⟩):p:=h
def aqj{p:Prop}(h:p:=by rintro σ bx ⟨h0,h1,h7,h8,hn⟩;have au:¬(l.length:Int)<(l.length:Int):=oM;simp(disch:=omega) only[go_sem,h7,h8,au];simp_all[aq]):p:=h
def aql{p:Prop}(h:p:=by simp(disch:=omega) only[go_sem];exact fun _=>⟨r,by simp_all[gI,Rd.bind],rfl,fun q q1 q2=>(f5 q q1 oM).trans (qn q q1 q2)⟩):p:=h
def aqp{p:Prop}(h:p:=by have h8:σ 8=I 0:=h8;have au:(0:Int)<(l.length:Int):=oM;simp(disch:=omega) only[go_sem,h0,h1,h7,h8,au];simp_all[wr,RN]):p:=h
def aqq{p:Prop}(h:p:=by obtain⟨r,h4,rfl,f5⟩:=hp;simp(disch:=omega) only[go_sem];exact⟨r,h4,rfl,fun q q1 q2=>(f5 q q1 oM).trans (qn q q1 q2)⟩):p:=h
def aqr{p:Prop}(h:p:=by simp(disch:=omega) only[go_sem,h2,h3,h5,b2,b3];exact aq (aaR D.bool (aeH fun e=>wI hx hy hv (by injection e)).symm)):p:=h
def aqs{p:Prop}(h:p:=by rw[BJ];simp only[Builtin.delete_,aa9,aaD sJ,Result.andThen,ae0 hw,agd hu Eu,age hu hn,ajQ _ hw,afl,aet,ajG,adB];rfl):p:=h
def aqt{p:Prop}(h:p:=by simp only[execOp,Instr.indexAt,Instr.sureAddr,hy,ig,asIntOf,aa9,adB,aa4,aaD hu,qt,ajD,abo,cI (he▸fR),Addr.ei,<-he]):p:=h
def aqu{p:Prop}(h:p:=by obtain⟨h1,o,h2,_⟩:=ake.1 (show i∈Region.ready .any ops listed by grind);have hi:i<ops.size:=(aaW.1 h2).1;simp_all):p:=h
def aqw{p:Prop}(h:p:=by obtain⟨r,h1,rfl,h2⟩:=hp;simp(disch:=omega) only[go_sem,s0,s1];exact⟨r,by rw[eJ,xo he h0 og h1];rfl,rfl,h2⟩):p:=h
def aqy{p:Prop}(h:p:=by obtain⟨p,hp,h2,h3,h4,h5⟩:=h.box t hk;exact⟨p,hp,h2,h3,h4,h5.fh (fS _) (fun k _=>fS k) hS (fun _ _ _ h=>h)⟩):p:=h
def aqz{p:Prop}(h:p:=by obtain⟨p',bu,_,_,jH,hh⟩:=g1.box t hk;rw[hp]at bu;injection bu with bu;subst bu;exact .inr ⟨jH.1,hh.lt⟩):p:=h
def aqA{p:Prop}(h:p:=by simp only[execOp,Instr.indexAt,hy,ig,asIntOf,aa9,adB,aa4,aaD hu,qt,ajD,abo,cI (he▸fR),Addr.ei,<-he]):p:=h
def aqB{p:Prop}(h:p:=by simp only[e,aa_]at gW;obtain⟨k1,k2⟩:=h.hold k o1 gW;exact⟨(hw.block k (aaW.1 k1).1 e).trans k1,k2⟩):p:=h
def aqC{p:Prop}(h:p:=by rename_i he;injection h with h;subst h;exact AL ok he hw (by simp[Item.ns]) rfl fun g=>⟨g,trivial⟩):p:=h
def aqD{p:Prop}(h:p:=by all_goals first|exact aq (aaR D.bool (Xv hy hx (by assumption)).symm)|(rw[aR oM];simp_all[O6])):p:=h
def aqE{p:Prop}(h:p:=by simp(disch:=omega) only[go_sem,s0,s1];rw[xn og]at eJ;exact⟨xs,l',by rw[eJ];simp[glue],hv,hj⟩):p:=h
def aqF{p:Prop}(h:p:=by rename_i hy;injection h with h;subst h;exact⟨_,by simp[binOp,Op.intDiv,hy],.pure (.int _ _)⟩):p:=h
def aqG{p:Prop}(h:p:=by all_goals first|exact nq.out _ _ (.inl (nA.out (cH.out zz))) ag|exact⟨by simp,zz⟩|exact zz):p:=h
def aqH{p:Prop}(h:p:=by rcases l with _|⟨a,_|⟨b,_|⟨c,_|⟨d,_|⟨e',_|⟨f,_|⟨g,_|⟨h,_|⟨i,_|⟨j,_|⟨_,_⟩⟩⟩⟩⟩⟩⟩⟩⟩⟩⟩<;>rfl):p:=h
def aqI{p:Prop}(h:p:=by simp(disch:=omega) only[go_sem,h0,h1,h2,wZ,zf,zg];rw[aR oM];exact⟨rfl,nP hx hy dq hv⟩):p:=h
def aqJ{p:Prop}(h:p:=by simp(disch:=omega) only[go_sem];exact aq (aaR D.bool (aeH fun e=>hn (by rw[e])).symm)):p:=h
def aqK{p:Prop}(h:p:=by simp only[execOp,Instr.alloc,aa9,oO,aa4,newVar,newRow,newObj,adB,Sem.run,World.alloc]):p:=h
def aqL{p:Prop}(h:p:=by rename_i he;injection h with h;subst h;exact AL ok he hw rfl rfl fun g=>⟨g,trivial⟩):p:=h
def aqM{p:Prop}(h:p:=by grind [execOp,resolve,invoke,builtin,Sem.run_bind,Sem.run_pure,Result.andThen_ok]):p:=h
def aqN{p:Prop}(h:p:=by obtain⟨h1,rfl,h3⟩:=hp;simp(disch:=omega) only[go_sem];exact⟨by grind [ew],rfl,h3⟩):p:=h
def aqO{p:Prop}(h:p:=by intro h;exact⟨h 0 a b rfl rfl,fun i x y hx hy=>h (i+1) x y (by grind) (by grind)⟩):p:=h
def aqP{p:Prop}(h:p:=by refine⟨by simp_all[Instr.sliceBounds,Instr.sliceBound,asIntOf],by omega,by omega⟩):p:=h
def aqQ{p:Prop}(h:p:=by simp(disch:=omega) only[go_sem,h0,h1,h7,h8];exact aq (aaR I (pv hn hx hc).symm)):p:=h
def aqR{p:Prop}(h:p:=by have xj:fM[i * esz+j]? =some fM[i * esz+j]:=abd qe;exact⟨_,xj,gR.2 _ _ _ hf xj⟩):p:=h
def aqS{p:Prop}(h:p:=by rintro v w' ⟨c,d,bx',ρ',g0,g1,g2,g3⟩;exact hK _ _ _ _ _ _ g0 g1 (g2.put bV g3)):p:=h
def aqT{p:Prop}(h:p:=by simp only[execOp,aa9,hx.cV,hy.cV,uA op t x y _ _ (.inl ⟨_,_,rfl⟩),aa4,bZ,adB]):p:=h
def aqU{p:Prop}(h:p:=by rw[k1 241 (by decide) (by decide) (by decide) (by decide)];exact gA.out.2):p:=h
def aqV{p:Prop}(h:p:=by simp(disch:=omega) only[go_sem,c];exact aq (aaR D.bool (P8 hx hy c).symm)):p:=h
def aqW{p:Prop}(h:p:=by have he:a.eval (.const .nilIface)= .nilIface:=rfl;simp_all[binOp,execOp]):p:=h
def aqX{p:Prop}(h:p:=by rintro v w' ⟨d,bx',ρ',g1,g2,g3⟩;exact hP _ _ _ _ _ _ _ g1 (g2.ZQ bV) g3):p:=h
def aqY{p:Prop}(h:p:=by rcases l with _|⟨a,_|⟨b,_|⟨c,_|⟨d,_|⟨e',_|⟨f,_|⟨g,_|⟨_,_⟩⟩⟩⟩⟩⟩⟩⟩<;>rfl):p:=h
def aqZ{p:Prop}(h:p:=by obtain rfl:=ae4 gz;exact⟨[],rfl,⟨rfl,fun j c hj=>by simp at hj⟩,aes _⟩):p:=h
def aq0{p:Prop}(h:p:=by have:¬l=m:=fun e=>h1 (by rw[e]);exact aq (aaR D.bool (aeH this).symm)):p:=h
def aq1{p:Prop}(h:p:=by simp(disch:=omega) only[go_sem,hp,aaX,q1,q2,Hq,Hr,Hs,nx];simp_all[xF]):p:=h
def aq2{p:Prop}(h:p:=by intro e;exact absurd (hd t rfl) (by rw[<-e];exact Nat.not_lt.2 h.qA)):p:=h
def aq3{p:Prop}(h:p:=by simp(disch:=omega) only[go_sem,h0,h1,h7,h8];rw[aR oM];simp_all[mU]):p:=h
def aq4{p:Prop}(h:p:=by intro q h2 h3;have:q≠b+2:=oM;simp[aS,cK,ah,this,k3 q h2,qs q this]):p:=h
def aq5{p:Prop}(h:p:=by exact⟨rfl,by simp only;omega,iff_of_true rfl (by simp only;omega)⟩):p:=h
def aq6{p:Prop}(h:p:=by rw[rz];exact(aG.pure (w:=w) (S:=ay X ρ bx w) (ρ:=ρ) (nO u)).one h1):p:=h
def aq7{p:Prop}(h:p:=by all_goals first|contradiction|exact fun q q1 q2 q3=>by grind [al]):p:=h
def aq8{p:Prop}(h:p:=by simp only[Sh.cp]at h1;obtain⟨b',rfl,_⟩:=h1;exact single _ rfl rfl):p:=h
def aq9{p:Prop}(h:p:=by rename_i hk;simp only[afa]at hk;exact⟨aaw oM,fun _ _ _=>trivial⟩):p:=h
def aq_{p:Prop}(h:p:=by injection h with h;injection h with h _;subst h;exact⟨rfl,rfl⟩):p:=h
def ara{p:Prop}(h:p:=by intro i d j c hi hj;obtain⟨u,xj,hr⟩:=iO i d j c hi hj;simp_all):p:=h
def arb{p:Prop}(h:p:=by injection hv with hv;exact⟨none,0,0,hx.gv,aaN _,_,hv.symm,hx⟩):p:=h
def arc{p:Prop}(h:p:=by cases h;exact⟨_,by simp[binOp,Op.shift,hy],.pure (.int _ _)⟩):p:=h
def ard{p:Prop}(h:p:=by grind [execOp,Sem.run_bind,Result.andThen_ok,Sem.run_pure]):p:=h
def arf{p:Prop}(h:p:=by simp(disch:=omega) only[go_sem,h0,h1,h5,nG,c];simp_all[Ju]):p:=h
def arh{p:Prop}(h:p:=by exact⟨hw,g1,g2,fun s dq=>aaI.1 hc s (by rw[hd];exact dq)⟩):p:=h
def ari{p:Prop}(h:p:=by injection h with h;injection h with _ h;exact⟨1,by grind⟩):p:=h
def arj{p:Prop}(h:p:=by simp only[aU,aaM]at ho;subst ho;exact(hr.fw rfl).nf hS.1):p:=h
def ark{p:Prop}(h:p:=by rw[f8 q q1];simp(disch:=omega) only[al];exact xO q q1 q2):p:=h
def arl{p:Prop}(h:p:=by simp[go_sem,I1,D.cells,D.aH,D.pure,D.one,jZ,ah,cE,lv,I]):p:=h
def arn{p:Prop}(h:p:=by rw[jH bh];exact hS.2 t (by simp[names]) hk p (by grind)):p:=h
def aro{p:Prop}(h:p:=by rintro b hb ⟨t,p,hk,hp,rfl⟩;exact hb.2.2 t hk p hp rfl):p:=h
def arp{p:Prop}(h:p:=by have hR:=hR.out;rw[aaw hc]at hR;subst hR;exact .refl _):p:=h
def arq{p:Prop}(h:p:=by rename_i e;rw[e]at hs;simp only[names,aey]at hs;grind):p:=h
def ars{p:Prop}(h:p:=by obtain⟨k2,k3⟩:=Ic (k1.vd hv) h2;exact⟨k1.trans k2,k3⟩):p:=h
def art{p:Prop}(h:p:=by with_reducible first|exact trivial|exact .refl _|fail):p:=h
def aru{p:Prop}(h:p:=by rw[<-hB];simp(disch:=omega) only[al];exact J0 q q1 q2):p:=h
def arv{p:Prop}(h:p:=by simp(disch:=omega) only[go_sem,c2,c3,c4];simp_all[aq]):p:=h
def arw{p:Prop}(h:p:=by simp_all[Instr.sliceBounds,Instr.sliceBound,asIntOf]):p:=h
def arx{p:Prop}(h:p:=by rw[akx];exact⟨(x,y),aat (agP.2 ⟨hx,hy⟩),by simp[hp]⟩):p:=h
def ary{p:Prop}(h:p:=by rw[zy]at fQ;simp only[aep,agv,afN]at fQ;simp[fD fQ]):p:=h
def arz{p:Prop}(h:p:=by rcases l with _|⟨a,_|⟨b,_|⟨c,_|⟨d,_|⟨_,_⟩⟩⟩⟩⟩<;>rfl):p:=h
def arA{p:Prop}(h:p:=by rw[g1,g2];simp only[Item.ns];rw[aaO (by grind)];rfl):p:=h
def arB{p:Prop}(h:p:=by rcases ho with rfl|rfl<;>simp[yC]at hv<;>simp[<-hv]):p:=h
def arC{p:Prop}(h:p:=by rw[hZ _ _ (hR.own _ _ _ h2 g2),hZ _ _ hj];exact au):p:=h
def arD{p:Prop}(h:p:=by unfold Go.V.dO;rw[al (by grind),fP,aaw (by grind)]):p:=h
def arE{p:Prop}(h:p:=by show aP bx [b+11] _ _ .ak [];exact aP.nil _ _ _ _):p:=h
def arF{p:Prop}(h:p:=by rw[jQ,hb];exact ja _ _ _ _ _ _ (by decide) rfl hp):p:=h
def arG{p:Prop}(h:p:=by unfold items;simp only[aaQ,abr,aa1,afm,aku];grind):p:=h
def arH{p:Prop}(h:p:=by rcases h' with⟨j',g1,g2,g3,rfl⟩|⟨g1,rfl⟩<;>grind):p:=h
def arI{p:Prop}(h:p:=by have:q≠b+2:=oM;exact(k3 q h2).trans (qs q this)):p:=h
def arJ{p:Prop}(h:p:=by intros;rw[cH.out (by assumption)];exact .refl _):p:=h
def arK{p:Prop}(h:p:=by simp(disch:=omega) only[go_sem];simp_all[aq,lk]):p:=h
def arL{p:Prop}(h:p:=by subst h2;exact hp B1 h1 fun q q1 q2=>h3 q q1 oM):p:=h
def arM{p:Prop}(h:p:=by rename_i sM;rw[aR oM];exact⟨rfl,nP hx hy hn sM⟩):p:=h
def arN{p:Prop}(h:p:=by simp[execOp,resolve,kY,Deferred.ofValue,invoke]):p:=h
def arO{p:Prop}(h:p:=by rw[h p.2 (by simp only[Op.operands,aa1];grind)]):p:=h
def arP{p:Prop}(h:p:=by cases hz:i.zero<;>simp_all[zeroValue,typeInfo]):p:=h
def arQ{p:Prop}(h:p:=by simp(disch:=omega) only[go_sem];exact .refl _):p:=h
def arR{p:Prop}(h:p:=by rcases l with _|⟨a,_|⟨b,_|⟨c,_|⟨_,_⟩⟩⟩⟩<;>rfl):p:=h
def arS{p:Prop}(h:p:=by intros;exact⟨_,rfl,rX Pd (.refl _) (.refl _)⟩):p:=h
def arT{p:Prop}(h:p:=by rw[aeC];exact⟨_,abd hi,hxr i d _ hd (abd hi)⟩):p:=h
def arU{p:Prop}(h:p:=by rw[hna]at mF;exact⟨_,_,hr,mF.1,mF.2,.inr rfl⟩):p:=h
def arV{p:Prop}(h:p:=by grind [List.mem_iff_getElem,List.getElem_inj]):p:=h
def arW{p:Prop}(h:p:=by intro a;induction a<;>simp_all[fL,Ne.symm]):p:=h
def arX{p:Prop}(h:p:=by all_goals exact hQ _ _ _ _ _ _ _ hx hq h'):p:=h
def arY{p:Prop}(h:p:=by have ho:=ho.out;simp_all[Item.ns,Arg.ok]):p:=h
def arZ{p:Prop}(h:p:=by rw[ajR.2 hf]at this;clear ok hf;exact zE):p:=h
def ar2{p:Prop}(h:p:=by injection hj with hj;subst hj;exact rB.2):p:=h
def ar5{p:Prop}(h:p:=by cases e<;>first|exact hK _ _ he|exact he):p:=h
def ar6{p:Prop}(h:p:=by have ho:=ho.out;grind [Arg.ok,Item.ns]):p:=h
def ar_{p:Prop}(h:p:=by have ho:=ho.out;grind [Item.ns,Arg.ok]):p:=h
def asa{p:Prop}(h:p:=by simp only[ah,aaw n1,hz];exact hit.out):p:=h
def asb{p:Prop}(h:p:=by simp[Item.f,Item.ns,Item.ts,Arg.f,eJ]):p:=h
def asc{p:Prop}(h:p:=by intro τ β hn h8 ha;subst ha;exact zE):p:=h
def asg{p:Prop}(h:p:=by have:=kf bx ds h;simp[aU,names,this]):p:=h
def ash{p:Prop}(h:p:=by simp only[cK,names];exact fP bx t ds):p:=h
def asl{p:Prop}(h:p:=by injection h with h;exact⟨0,by grind⟩):p:=h
def asm{p:Prop}(h:p:=by simp only[execOp,aa9,bZ,aa4,adB];rfl):p:=h
def asn{p:Prop}(h:p:=by simp(disch:=omega) only[go_sem,put]):p:=h
def ats{p:Prop}(h:p:=by by_cases he:g.entries=[]<;>simp_all):p:=h
def atT{p:Prop}(h:p:=by rw[hx.gv];grind [World.ownsRow_nil]):p:=h
def aul{p:Prop}(h:p:=by simp[Item.f,Item.ns,Item.ts,Arg.f]):p:=h
def aum{p:Prop}(h:p:=by have:=hr n it _ h1 h2;simp_all[cD]):p:=h
def aun{p:Prop}(h:p:=by grind [Op.operands,Call.operands]):p:=h
def auo{p:Prop}(h:p:=by grind [List.drop_eq_getElem_cons]):p:=h
def aup{p:Prop}(h:p:=by grind [rowOf,run_firstCells_none]):p:=h
def auq{p:Prop}(h:p:=by by_cases he:g.rules=[]<;>simp_all):p:=h
def aur{p:Prop}(h:p:=by cases h with|pure h=>cases h;rfl):p:=h
def aus{p:Prop}(h:p:=by show jK (jK r _) _=_;rw[tu];simp):p:=h
def aut{p:Prop}(h:p:=by simp[stepG,stepG.exec,Frame.atR]):p:=h
def auu{p:Prop}(h:p:=by simp[Op.operands,Call.operands]):p:=h
def auv{p:Prop}(h:p:=by rw[f8 q this.1];simp[ah,this.2]):p:=h
def auw{p:Prop}(h:p:=by simp(disch:=omega) only[al,aaw]):p:=h
def auy{p:Prop}(h:p:=by rw[<-Bool.not_eq_true,gH];omega):p:=h
def auz{p:Prop}(h:p:=by simpa[go_sem]using .nil _ _ _ _):p:=h
def auA{p:Prop}(h:p:=by have:=aaR List.length hm;grind):p:=h
def auB{p:Prop}(h:p:=by rw[hx.gv];simp[Value.ownBlock]):p:=h
def auC{p:Prop}(h:p:=by have:=h2.1;grind [Value.cells]):p:=h
def auD{p:Prop}(h:p:=by grind [List.take_append_drop]):p:=h
def auE{p:Prop}(h:p:=by have:=U7 hf (by decide);omega):p:=h
def auF{p:Prop}(h:p:=by grind [List.length_pos_iff]):p:=h
def auG{p:Prop}(h:p:=by unfold kh items;simp;omega):p:=h
def auH{p:Prop}(h:p:=by simp[go_sem,aM,ah,Bx.none]):p:=h
def auI{p:Prop}(h:p:=by obtain⟨rfl,h4⟩:=FK h;omega):p:=h
def auJ{p:Prop}(h:p:=by grind [List.take_add_one]):p:=h
def auK{p:Prop}(h:p:=by intros;exact fl.nv hN.out):p:=h
def auL{p:Prop}(h:p:=by simp[Rd.zero,Rec.zero,Lm]):p:=h
def auM{p:Prop}(h:p:=by simp[binOp,Op.intBits,fg]):p:=h
def auN{p:Prop}(h:p:=by simp_all[cK,names,ah,BC]):p:=h
def auO{p:Prop}(h:p:=by simp[binOp,Op.intArith]):p:=h
def auP{p:Prop}(h:p:=by grind [List.drop_drop]):p:=h
def auQ{p:Prop}(h:p:=by simp[Rd.zero,Rec.zero]):p:=h
def auR{p:Prop}(h:p:=by grind [a_,gu,qQ,iL,nH]):p:=h
def auS{p:Prop}(h:p:=by simp_all[many,Rd.pure]):p:=h
def auT{p:Prop}(h:p:=by simp[binOp,Op.intCmp]):p:=h
def auU{p:Prop}(h:p:=by simp[ins,eo,e,dL];rfl):p:=h
def auV{p:Prop}(h:p:=by all_goals trace_state):p:=h
def auW{p:Prop}(h:p:=by simp_all[D.aH,D.pure]):p:=h
def auX{p:Prop}(h:p:=by simp_all[dh,iw,aU,jZ]):p:=h
def auY{p:Prop}(h:p:=by unfold cx;rw[h1];rfl):p:=h
def auZ{p:Prop}(h:p:=by simp_all[gI,Rd.bind]):p:=h
def au0{p:Prop}(h:p:=by grind [IntKind.bits]):p:=h
def au1{p:Prop}(h:p:=by simp[kI,D.pure,D.aH]):p:=h
def au2{p:Prop}(h:p:=by simpa[names]using hS):p:=h
def au3{p:Prop}(h:p:=by simp[ByteArray.size]):p:=h
def au4{p:Prop}(h:p:=by simp_all[fG,Rd.bind]):p:=h
def au5{p:Prop}(h:p:=by simp_all[kO,Rd.bind]):p:=h
def au6{p:Prop}(h:p:=by simp only[vY,xN];rfl):p:=h
def au7{p:Prop}(h:p:=by simp[Fence.wide]at h):p:=h
def au8{p:Prop}(h:p:=by simp_all[Array.getD]):p:=h
def au9{p:Prop}(h:p:=by simp[go_sem,strs,ji]):p:=h
def au_{p:Prop}(h:p:=by rw[vV _ oM oM];omega):p:=h
def ava{p:Prop}(h:p:=by simp only[ah];grind):p:=h
def avb{p:Prop}(h:p:=by rw[e];exact ob _ oM):p:=h
def avc{p:Prop}(h:p:=by grind [World.cell?]):p:=h
def avd{p:Prop}(h:p:=by grind [Op.operands]):p:=h
def ave{p:Prop}(h:p:=by grind [Lib.decodeN]):p:=h
def avf{p:Prop}(h:p:=by simp[aZ]at hq;omega):p:=h
def avg{p:Prop}(h:p:=by grind [dh,iw,I2,pg]):p:=h
def avh{p:Prop}(h:p:=by have:=hl.out;grind):p:=h
def avi{p:Prop}(h:p:=by simp[go_sem,aM,ah]):p:=h
def avj{p:Prop}(h:p:=by have:=hj.2.1;omega):p:=h
def avk{p:Prop}(h:p:=by simp[IntKind.bits]):p:=h
def avl{p:Prop}(h:p:=by simp[Op.operands]):p:=h
def avm{p:Prop}(h:p:=by simpa[eu]using h1):p:=h
def avn{p:Prop}(h:p:=by have:=hG.lo;omega):p:=h
def avo{p:Prop}(h:p:=by rw[tN];grind [iZ]):p:=h
def avp{p:Prop}(h:p:=by rw[hC.out,h3];rfl):p:=h
def avq{p:Prop}(h:p:=by grind [codeOk,eI]):p:=h
def avr{p:Prop}(h:p:=by rw[<-hB];simp[ah]):p:=h
def avs{p:Prop}(h:p:=by simp at hq⊢;omega):p:=h
def avt{p:Prop}(h:p:=by simp at hq;omega):p:=h
def avu{p:Prop}(h:p:=by simp[ed,D.cells]):p:=h
def avv{p:Prop}(h:p:=by simp[ah,Bx.none]):p:=h
def avw{p:Prop}(h:p:=by grind [al,an,aZ]):p:=h
def avx{p:Prop}(h:p:=by simp[Cl.wr]at hs):p:=h
def avy{p:Prop}(h:p:=by grind [D.simple]):p:=h
def avz{p:Prop}(h:p:=by grind [wrap_i64]):p:=h
def avA{p:Prop}(h:p:=by simp[go_sem, *]):p:=h
def avB{p:Prop}(h:p:=by simp[go_sem,aM]):p:=h
def avC{p:Prop}(h:p:=by simp only;omega):p:=h
def avD{p:Prop}(h:p:=by unfold eU;omega):p:=h
def avE{p:Prop}(h:p:=by grind [D.cells]):p:=h
def avF{p:Prop}(h:p:=by rw[DF oM];omega):p:=h
def avG{p:Prop}(h:p:=by simp[go_sem,h0]):p:=h
def avH{p:Prop}(h:p:=by simp_all[items]):p:=h
def avI{p:Prop}(h:p:=by simp[go_sem,hi]):p:=h
def avJ{p:Prop}(h:p:=by simp[go_sem,k1]):p:=h
def avK{p:Prop}(h:p:=by simp[kI,D.pure]):p:=h
def avL{p:Prop}(h:p:=by grind [maxLen]):p:=h
def avM{p:Prop}(h:p:=by simp[Item.row]):p:=h
def avN{p:Prop}(h:p:=by simp[ins,eo,z]):p:=h
def avO{p:Prop}(h:p:=by simp[cK,names]):p:=h
def avP{p:Prop}(h:p:=by grind [D.pure]):p:=h
def avQ{p:Prop}(h:p:=by grind [D.bare]):p:=h
def avR{p:Prop}(h:p:=by simp[ah,an,aZ]):p:=h
def avS{p:Prop}(h:p:=by simp[cS,ah,p7]):p:=h
def avT{p:Prop}(h:p:=by decide+kernel):p:=h
def avU{p:Prop}(h:p:=by grind [an,aZ]):p:=h
def avV{p:Prop}(h:p:=by rw[hk];decide):p:=h
def avW{p:Prop}(h:p:=by simp[aA.zero]):p:=h
def avX{p:Prop}(h:p:=by simp[Item.ns]):p:=h
def avY{p:Prop}(h:p:=by grind [wv,ah]):p:=h
def avZ{p:Prop}(h:p:=by simp[It.flat]):p:=h
def av0{p:Prop}(h:p:=by rw[hs];decide):p:=h
def av1{p:Prop}(h:p:=by rw[ht];decide):p:=h
def av2{p:Prop}(h:p:=by simp[go_sem]):p:=h
def av3{p:Prop}(h:p:=by simp_all[aq]):p:=h
def av4{p:Prop}(h:p:=by simp[D.pure]):p:=h
def av5{p:Prop}(h:p:=by simp[ins,eo]):p:=h
def av6{p:Prop}(h:p:=by intros;grind):p:=h
def av7{p:Prop}(h:p:=by simp_all[bF]):p:=h
def av8{p:Prop}(h:p:=by simp[*];done):p:=h
def av9{p:Prop}(h:p:=by simp[an,aZ]):p:=h
def av_{p:Prop}(h:p:=by simp[Cl.rd]):p:=h
def awa{p:Prop}(h:p:=by simp[ah,hq]):p:=h
def awb{p:Prop}(h:p:=by simp[ah,q1]):p:=h
def awc{p:Prop}(h:p:=by injection e):p:=h
def awd{p:Prop}(h:p:=by simp[ah, *]):p:=h
def awe{p:Prop}(h:p:=by simp;omega):p:=h
def awf{p:Prop}(h:p:=by kernel_rfl):p:=h
def awg{p:Prop}(h:p:=by grind [ah]):p:=h
def awh{p:Prop}(h:p:=by grind [al]):p:=h
def awi{p:Prop}(h:p:=by grind [mr]):p:=h
def awj{p:Prop}(h:p:=by assumption):p:=h
def awk{p:Prop}(h:p:=by grind [lO]):p:=h
def awl{p:Prop}(h:p:=by grind [iV]):p:=h
def awm{p:Prop}(h:p:=by grind [vV]):p:=h
def awn{p:Prop}(h:p:=by grind [mJ]):p:=h
def awo{p:Prop}(h:p:=by grind [dj]):p:=h
def awp{p:Prop}(h:p:=by grind [qV]):p:=h
def awq{p:Prop}(h:p:=by simp[D.aH]):p:=h
def awr{p:Prop}(h:p:=by grind [bU]):p:=h
def aws{p:Prop}(h:p:=by simp at hd):p:=h
def awt{p:Prop}(h:p:=by grind [aj]):p:=h
def awu{p:Prop}(h:p:=by exact rfl):p:=h
def awv{p:Prop}(h:p:=by simp at h):p:=h
def aww{p:Prop}(h:p:=by rw[h];rfl):p:=h
def awx{p:Prop}(h:p:=by simp[ah]):p:=h
def awy{p:Prop}(h:p:=by simp_all):p:=h
def awz{p:Prop}(h:p:=by simp[eV]):p:=h
def awA{p:Prop}(h:p:=by cases hp):p:=h
def awB{p:Prop}(h:p:=by cases hl):p:=h
def awC{p:Prop}(h:p:=by simp[aU]):p:=h
def awD{p:Prop}(h:p:=by simp[hx]):p:=h
def awE{p:Prop}(h:p:=by cases hf):p:=h
def awF{p:Prop}(h:p:=by simp[hc]):p:=h
def awG{p:Prop}(h:p:=by cases hx):p:=h
def awH{p:Prop}(h:p:=by simp[Lm]):p:=h
def awI{p:Prop}(h:p:=by cases h):p:=h
def awJ{p:Prop}(h:p:=by simp[*]):p:=h
def awK{p:Prop}(h:p:=by simp[h]):p:=h
def awL{p:Prop}(h:p:=by decide):p:=h
def awM{p:Prop}(h:p:=by rw[h4]):p:=h
def awN{p:Prop}(h:p:=by grind):p:=h
def awO{p:Prop}(h:p:=by omega):p:=h
def awP{p:Prop}(h:p:=by simp):p:=h
def aas:=@Bool.and_eq_true
def aat:=@List.mem_of_getElem?
def aav:=@Option.map_eq_some_iff
def aaw:=@if_neg
def aaD:=@run_underlying
def aaH:=@decide_eq_true_eq
def aaI:=@List.all_eq_true
def aaL:=@List.getElem?_eq_some_iff
def aaM:=@Option.some.injEq
def aaN:=@Nat.le_refl
def aaO:=@if_pos
def aaP:=@List.take_length
def aaQ:=@List.mem_cons
def aaR:=@congrArg
def aaS:=@List.getElem?_eq_getElem
def aaU:=@List.append_assoc
def aaV:=@Bool.not_false
def aaW:=@Array.getElem?_eq_some_iff
def aaX:=@Bool.not_true
def aaY:=@List.length_append
def aaZ:=@List.getElem?_map
def aa0:=@List.length_map
def aa1:=@List.mem_map
def aa2:=@List.mem_cons_of_mem
def aa4:=@Result.andThen_ok
def aa5:=@List.length_cons
def aa9:=@Sem.run_bind
def aa_:=@if_false
def aba:=@Array.getElem?_toList
def abd:=@Array.getElem?_eq_getElem
def abe:=@List.not_mem_nil
def abk:=@List.map_cons
def abn:=@List.getElem?_append_right
def abo:=@if_true
def abq:=@decide_true
def abr:=@List.mem_append
def abu:=@Bool.eq_iff_iff
def adz:=@Nat.le_trans
def adB:=@Sem.run_pure
def adC:=@List.nil_append
def adX:=@decide_false
def ad8:=@List.map_congr_left
def aec:=@Option.map_some
def aen:=@Nat.mul_le_mul_right
def aep:=@List.all_cons
def aes:=@Nat.zero_le
def aet:=@List.getElem?_cons_zero
def aeu:=@List.take_of_length_le
def aev:=@List.length_pos_iff
def aew:=@Bool.false_eq_true
def aex:=@List.map_nil
def aey:=@List.mem_singleton
def aez:=@List.append_nil
def aeB:=@List.takeWhile_cons
def aeC:=@Nat.zero_add
def aeD:=@Nat.lt_of_lt_of_le
def aeE:=@Array.getD_eq_getD_getElem?
def aeF:=@List.cons_append
def aeG:=@forall_eq_or_imp
def aeH:=@decide_eq_false
def aeI:=@List.map_append
def aeP:=@Option.bind_eq_some_iff
def aeU:=@List.getElem?_append_left
def aeV:=@or_false
def aeW:=@List.length_nil
def aeY:=@List.mem_cons_self
def aeZ:=@List.take_append_drop
def ae0:=@MapKept.run_getObj_map
def ae2:=@List.take_add_one
def ae3:=@Int.toNat_natCast
def ae4:=@List.eq_nil_of_length_eq_zero
def ae5:=@Classical.byContradiction
def ae6:=@List.append_eq_nil_iff
def ae7:=@List.mem_zipIdx_iff_getElem?
def ae8:=@Nat.add_assoc
def ae9:=@not_false_eq_true
def ae_:=@Bool.not_eq_true'
def afa:=@decide_eq_false_iff_not
def afc:=@List.cons.injEq
def afd:=@List.length_take
def afe:=@of_decide_eq_true
def aff:=@List.length_replicate
def afj:=@List.mem_iff_getElem?
def afl:=@List.getElem?_toArray
def afm:=@List.mem_flatMap
def afn:=@List.getElem?_take_of_lt
def afo:=@Array.getElem?_map
def afq:=@List.length_eq_zero_iff
def afr:=@Nat.le_mul_of_pos_right
def afs:=@List.flatMap_cons
def aft:=@List.range_zero
def afu:=@forall_eq
def afv:=@List.take_succ_cons
def afN:=@Bool.and_true
def afY:=@Below.refl
def af9:=@Nat.le_add_right
def af_:=@List.mem_range
def aga:=@false_and
def agb:=@List.range_succ
def agc:=@List.mem_append_left
def agd:=@MapKept.run_checkKey
def age:=@MapKept.run_findKey
def agr:=@Nat.add_mul
def agv:=@List.all_nil
def agw:=@List.map_map
def agA:=@Nat.add_zero
def agB:=@List.contains_iff_mem
def agO:=@List.ext_getElem?
def agP:=@List.getElem?_zip_eq_some
def agU:=@Nat.mul_one
def agW:=@List.drop_zero
def ajC:=@Option.getD_some
def ajD:=@and_self
def ajE:=@List.range'_succ
def ajF:=@Nat.add_sub_cancel_left
def ajG:=@List.getElem?_cons_succ
def ajH:=@Bool.and_self
def ajI:=@List.getElem?_set_self
def ajQ:=@MapKept.run_setObj_map
def ajR:=@Bool.eq_false_iff
def aka:=@heap_alloc_new
def akb:=@setRow_other
def akc:=@List.mem_append_right
def ake:=@mem_ready
def akh:=@List.length_drop
def akm:=@Bool.or_eq_false_iff
def akn:=@Int.natCast_zero
def akp:=@List.mem_of_mem_take
def akq:=@List.replicate_succ
def akr:=@run_firstCells_some
def aks:=@Nat.min_eq_left
def akt:=@List.mem_filter
def aku:=@or_assoc
def akv:=@beq_iff_eq
def akw:=@List.take_zero
def akx:=@List.all_eq_false
def aky:=@Oper.semAt_eq
def akz:=@Option.bind_some
def akA:=@List.foldlM_cons
def akB:=@Bool.and_eq_false_iff
def akC:=@List.getElem?_eq_none
def akD:=@Bool.or_eq_true
def akE:=@Option.map_none
def akF:=@Nat.zero_mul
def akG:=@callsIn_wide
def akH:=@Option.some.inj
def akI:=@List.getElem_of_mem
def akJ:=@ByteArray.toList_eq
def akK:=@Array.length_toList
def akL:=@run_callFunc_extern
def akM:=@decide_eq_true
def akN:=@Bool.false_and
def akO:=@List.drop_left
def akP:=@Bool.and_false
def akQ:=@and_true
def akR:=@DataW.trod_int
def akS:=@Option.toList_some
def akT:=@run_loadCells_list
def akU:=@List.getElem?_drop
def akV:=@Nat.lt_or_gt_of_ne
def akW:=@Bool.true_and
def akX:=@Prod.mk.injEq
def akY:=@Array.getElem?_append_left
def akZ:=@List.Sublist.refl
def ak0:=@List.isEmpty_cons
def ak1:=@run_storeCells_at
def ak2:=@List.size_toArray
def ak3:=@List.drop_eq_getElem_cons
def ak4:=@Nat.mod_lt
def ak5:=@List.replicate_eq_nil_iff
def ak6:=@Nat.succ_mul
def ak7:=@List.any_eq_true
def ak8:=@List.isEmpty_nil
def ak9:=@List.set_set
def ak_:=@Nat.le_of_lt
def ala:=@List.getElem_mem
def alb:=@List.eq_of_mem_replicate
def alc:=@List.map_toArray
def ald:=@Nat.not_lt_zero
def alC:=@Oper.upon_value
def alL:=@List.length_eq_one_iff
def alM:=@List.drop_eq_nil_of_le
def alN:=@setRow_heap
def alS:=@List.drop_drop
def alY:=@Bool.and_assoc
def al8:=@List.eraseIdx_sublist
def al9:=@growslice_fits
def amp:=@Array.getElem?_append
def amq:=@List.mapM_cons
def ap7:=@Array.getElem?_modify
def ap8:=@List.getElem?_of_mem
def ap9:=@bne_iff_ne
def ap_:=@List.range_eq_range'
def aqa:=@List.getElem?_append
def aqb:=@List.mem_of_mem_tail
def aqc:=@List.drop_one
def aqf:=@List.sum_cons
def aqg:=@List.getElem?_range
def aqh:=@Nat.mul_comm
def aqv:=@Nat.lt_or_ge
def aqx:=@List.map_id
def oM{p:Prop}(h:p:=by omega):p:=h
def sI{p:Prop}(h:p:=by simp):p:=h
def sG{p:Prop}(h:p:=by simp[go_sem]):p:=h
def ar{p:Prop}(h:p:=by kernel_rfl):p:=h
def ax{α:Sort _}{a b:α}(h:a=b:=by exact Eq.trans rfl rfl):a=b:=h
inductive D where
 |undef
 |int (k:IntKind) (n:Int)
 |bool (b:Bool)
 |str (s:List UInt8)
 |raw (x:Value)
 |ak
 |agg (ds:List D)
 |aL (ds:List D)
 |sl (sz:Nat) (es:List D)
 |nu (sz:Nat) (es:List D)
 |bR (d:D) (j:Nat)
 |loc (t e i j:Nat)
 |ba (t e sz o n:Nat)
 |ic (t e i j n:Nat)
 |omap (t e:Nat)
 |fn (f:Fn) (caps:List D)
 |fW (f:FuncId) (first:List D)
 |bK (t:TypeId) (d:D)
 |any (ds:List D)
 |fN
 |jd
 deriving Inhabited
structure Tok{α:Sort u}(a:α):Type where
def D.cells:D->List D
 | .agg ds=>ds
 |d=>[d]
def D.one:D->Bool
 | .undef| .agg _| .aL _| .any _| .fN=>false
 | .raw x=>x.oneCell'
 |_=>true
structure Bx where
 ep:Nat
 k:Nat
 sz:Nat
 ty:TypeId
 es:List D
def lv(k:Nat):Prop:=k≠0/\k≠3
theorem lv0:lv 0=False:=by simp[lv]
theorem lv1:lv 1=True:=by simp[lv]
def lv2:lv 2=True:=by simp[lv]
instance(k:Nat):Decidable (lv k):=inferInstanceAs (Decidable (_/\_))
end Go.V
