/- Sittings: visits. -/
import Derived.Test.YtkgloohlmogakaaGreatDoorB22
set_option linter.unusedSimpArgs false
set_option linter.unusedVariables false
set_option maxRecDepth 100000
namespace Go.V.St
open Go.Proofs Go.RowKit Go.V.Lx Go.V.Gr Go.V.Ty
theorem Ez(o:Bool)(n m:Int):aq Tryz.prog 287 [.agg [.bool o,I n],I m] (.agg [.bool true,I m]):=by
 refine av mixed (fn:=Tryz.f287) (tab:=[]) ?_ rfl aj rfl;refine aw _ [.cell 4 331] _ rfl rfl rfl aj ?_;simp(disch:=omega) only[go_sem];exact .refl _
theorem uN(o:Bool)(n m:Int):aq Tryz.prog 288 [.agg [.bool o,I n],I m] (.agg [.bool o,I m]):=by
 refine av mixed (fn:=Tryz.f288) (tab:=[]) ?_ rfl aj rfl;refine aw _ [.cell 4 331] _ rfl rfl rfl aj ?_;simp(disch:=omega) only[go_sem];exact .refl _
theorem K3(o:Bool)(n m:Int):aq Tryz.prog 289 [.agg [.bool o,I n],I m] (.agg [.bool false,I n]):=by
 refine av mixed (fn:=Tryz.f289) (tab:=[]) ?_ rfl aj rfl;refine aw _ [.cell 4 331] _ rfl rfl rfl aj ?_;simp(disch:=omega) only[go_sem];exact .refl _
theorem K4(o:Bool)(n m:Int):aq Tryz.prog 290 [.agg [.bool o,I n],I m] (.agg [.bool true,I n]):=by
 refine av mixed (fn:=Tryz.f290) (tab:=[]) ?_ rfl aj rfl;refine aw _ [.cell 4 331] _ rfl rfl rfl aj ?_;simp(disch:=omega) only[go_sem];exact .refl _
def cV:D:=.agg [.bool false,.bool false,.bool false,.bool false,.raw .nilFunc,.bool false,.bool true,.bool false,.bool true,.fn (.func 287) [],.bool true,.bool true,.bool true,.bool true,.fn (.func 288) [],.bool true,.bool false,.bool true,.bool false,.fn (.func 289) [],.bool true,.bool true,.bool false,.bool false,.fn (.func 290) []]
theorem EA:aq Tryz.prog 240 [] cV:=by
 refine av mixed (fn:=Tryz.f240) (tab:=[]) ?_ rfl aj rfl;refine aw _ [.cell 0 328] _ rfl rfl rfl aj ?_;simp(disch:=omega) only[go_sem];exact .refl _
def i64(n:Int):Prop:= -9223372036854775808<=n/\n<=9223372036854775807
structure xk(fm:Int->Option D)(st:Int->VS):Prop where
 is:∀n,fm n=if(st n).1 then some (.agg [.bool (st n).2.1,I (st n).2.2])else none
 op:∀n,(st n).2.1=true->(st n).1=true
theorem xk.look{fm:Int->Option D}{st:Int->VS}(h:xk fm st){r:Option (Nat×D)}{n:Int}(hr:r.map (·.2)=fm n):∃m,((st n).1=true->m=(st n).2.2)/\mW (some (.agg [.bool false,I 0])) true (some r)=some (.tup [.agg [.bool (st n).2.1,I m],.bool (st n).1]):=by
 rw[h.is n]at hr;cases hk:(st n).1 with
 |false=>
  rw[hk]at hr;have:r=none:=by cases r<;>simp at hr⊢
  subst this;have ho:(st n).2.1=false:=by
   cases h':(st n).2.1 with
   |false=>rfl
   |true=>rw[h.op n h']at hk;cases hk
  exact⟨0,(fun h=>by cases h),by rw[ho];rfl⟩
 |true=>
  rw[hk]at hr;cases r with
  |none=>simp at hr
  |some q=>obtain⟨j,v⟩:=q;simp at hr;subst hr;exact⟨_,(fun _=>rfl),rfl⟩
theorem xk.step{fm:Int->Option D}{st:Int->VS}(h:xk fm st){v:aT}{o:Bool}{m:Int}(hs:gn v.who (st v.who) v=(true,o,m)):xk (fun k=>if k=v.who then some (.agg [.bool o,I m])else fm k) (fun n=>gn n (st n) v):=by
 refine⟨fun n=>?_,fun n hn=>?_⟩
 ·by_cases hn:n=v.who
  ·subst hn;simp[hs]
  ·simp only[if_neg hn,gn,if_neg (Ne.symm hn)];exact h.is n
 ·by_cases hw:n=v.who
  ·subst hw;simp only[hs]
  ·simp only[gn,if_neg (Ne.symm hw)]at hn⊢;exact h.op n hn
theorem gp(b:Bool):(b==false)= !b:=by cases b<;>rfl
theorem gq(b:Bool):(b==true)=b:=by cases b<;>rfl
theorem JZ{n:Int}(h:i64 n):aL (IntKind.i64.wrap (n - 1)) 0 (IntKind.i64.wrap (5 - 1) - 1)=aL n 1 4:=by
 rw[wr (5 - 1) oM oM];obtain⟨h1,h2⟩:=h;by_cases hn:n= -9223372036854775808
 ·subst hn;rfl
 ·rw[wr _ oM oM,Bool.eq_iff_iff];simp[aL];omega
def C1(e:Nat)(bx:ae)(st:Int->VS)(v:aT)(d:D)(bx':ae):Prop:=d= .bool (eJ v&&gx (st v.who) v)/\(∀s,s<300->s≠10->bx' s=bx s)/\((eJ v&&gx (st v.who) v)=true->∃c es fm,bx' 10=⟨e,3,0,277,I c::es⟩/\jT fm es/\xk fm (fun n=>gn n (st n) v))
set_option maxHeartbeats 4000000 in
theorem FW{bx:ae}{e:Nat}{c:Int}{es:List D}{fm:Int->Option D}{st:Int->VS}(hb:bx 10=⟨e,3,0,277,I c::es⟩)(hm:jT fm es)(hf:xk fm st)(v:aT)(hk:i64 v.kind):
 aU Tryz.prog 191 300 [.omap 10 e,v.d] bx (C1 e bx st v) (fun _ _=>False):=by
 refine aG (fn:=Tryz.f191) (tab:=[(1,[(13,11)]),(4,[(5,3),(5,1),(3,1)]),(7,[(7,1)])]) (base:=300) mixed ?_ rfl aj rfl;refine aH _ [.tmp 4] 87 rfl rfl rfl aj ?_;obtain⟨r,g1,g2⟩:=hm.find v.who;obtain⟨m,hm1,g3⟩:=hf.look g2;have hki:=JZ hk;have hop:=hf.op v.who;have nay:∀B:ae,(∀s,s<300->B s=bx s)->(eJ v&&gx (st v.who) v)=false->C1 e bx st v (.bool false) B:=fun B hB h=>⟨by rw[h],fun s hs _=>hB s hs,fun h'=>by rw[h]at h';cases h'⟩
 have yes:∀(B:ae) o m c',∀es',jW (.int .i64) (.int .i64 v.who) (.agg [.bool o,I m]) c es=some (.int .i64 c'::es')->(∀s,s<300->s≠10->B s=bx s)->B 10=⟨e,3,0,277,I c'::es'⟩->(eJ v&&gx (st v.who) v)=true->gn v.who (st v.who) v=(true,o,m)->C1 e bx st v (.bool true) B:=by
  intro B o m c' es' hu hB hB' h hv;obtain⟨es2,c2,hu2,hm2⟩:=hm.ao v.who (.agg [.bool o,I m]) c;rw[hu]at hu2;injection hu2 with hu2;injection hu2 with hu2 hu3;injection hu2 with _ hu2;subst hu2;subst hu3;exact⟨by rw[h],hB,fun _=>⟨_,_,_,hB',hm2,hf.step hv⟩⟩
 have hup:∀o m,∃es' c',jW (.int .i64) (.int .i64 v.who) (.agg [.bool o,I m]) c es=some (.int .i64 c'::es'):=fun o m=>by obtain⟨a,b,h,_⟩:=hm.ao v.who (.agg [.bool o,I m]) c;exact⟨a,b,h⟩
 clear hm hf;simp(disch:=omega) only[go_sem,aT.d];repeat' (first|with_reducible refine ar (fun _=>?_) (fun _=>?_)|with_reducible refine an (fun _=>?_) (fun _=>?_)|with_reducible refine br (yp _ _) sG ?_|with_reducible refine bw (yp _ _) sG ?_|with_reducible refine br (EA) sG ?_|with_reducible refine bw (EA) sG ?_|simp(disch:=omega) only[go_sem, *,aT.d,cV])
 rotate_left
 iterate 4 (exact nay _ (fun s hs=>by simp only[ao];rw[if_neg oM]) (by simp_all[eJ]))
 rename_i c1 c2 c3 c4;try rw[hki]at c3
 have ck:v.kind=1\/v.kind=2\/v.kind=3\/v.kind=4:=by simp[aL]at c3;omega
 have hfo:eJ v=(decide (v.kind=1)||decide (v.kind=2)||decide (v.lang=0)):=by simp_all[eJ]
 clear hki c1 c2 c3 c4 hk g2;have hcase:(st v.who).1=false/\(st v.who).2.1=false\/(st v.who).1=true/\(st v.who).2.1=false\/(st v.who).1=true/\(st v.who).2.1=true:=by
  revert hop;cases(st v.who).1<;>cases(st v.who).2.1<;>simp
 clear hop;have quiet:∀(x1 x2 x3 x4 x5:Bx),∀s,s<300->ao (ao (ao (ao (ao bx 303 x1) 305 x2) 305 x3) 307 x4) 307 x5 s=bx s:=fun _ _ _ _ _ s hs=>by simp only[ao];repeat rw[if_neg oM]
 rcases hcase with⟨k0,k1⟩|⟨k0,k1⟩|⟨k0,k1⟩<;>rw[k0,k1]at g3<;>rcases ck with ck|ck|ck|ck
 ·simp(disch:=omega) only[go_sem,hb,g1,g3,ck,aT.d,cV,gp,gq,k0,k1,Bool.not_true,Bool.not_false];refine ar (fun hl=>?_) (fun hl=>?_)
  ·simp(disch:=omega) only[go_sem,hb,g1,g3,ck,aT.d,cV,gp,gq,k0,k1,Bool.not_true,Bool.not_false,hl,decide_false,decide_true,not_false_eq_true];refine au (Ez _ _ _) sG ?_;obtain⟨es',c',hu⟩:=hup true (0);simp(disch:=omega) only[go_sem,hb,g1,g3,ck,aT.d,cV,gp,gq,k0,k1,Bool.not_true,Bool.not_false,hl,hu,dW];exact yes _ true 0 c' es' hu (fun s hs hs'=>by simp only[ao];repeat rw[if_neg oM]) (by simp[ao]) (by rw[hfo];simp[gx,ck,k0,k1,hl]) (by simp[gn,ck,k0,k1,hl])
  ·simp(disch:=omega) only[go_sem,hb,g1,g3,ck,aT.d,cV,gp,gq,k0,k1,Bool.not_true,Bool.not_false,hl,decide_false,decide_true,not_false_eq_true];refine au (Ez _ _ _) sG ?_;obtain⟨es',c',hu⟩:=hup true (v.lang);simp(disch:=omega) only[go_sem,hb,g1,g3,ck,aT.d,cV,gp,gq,k0,k1,Bool.not_true,Bool.not_false,hl,hu,dW];exact yes _ true v.lang c' es' hu (fun s hs hs'=>by simp only[ao];repeat rw[if_neg oM]) (by simp[ao]) (by rw[hfo];simp[gx,ck,k0,k1,hl]) (by simp[gn,ck,k0,k1,hl])
 ·simp(disch:=omega) only[go_sem,hb,g1,g3,ck,aT.d,cV,gp,gq,k0,k1,Bool.not_true,Bool.not_false];exact nay _ (quiet _ _ _ _ _) (by simp[gx,ck,k0,k1])
 ·simp(disch:=omega) only[go_sem,hb,g1,g3,ck,aT.d,cV,gp,gq,k0,k1,Bool.not_true,Bool.not_false];exact nay _ (quiet _ _ _ _ _) (by simp[gx,ck,k0,k1])
 ·simp(disch:=omega) only[go_sem,hb,g1,g3,ck,aT.d,cV,gp,gq,k0,k1,Bool.not_true,Bool.not_false];exact nay _ (quiet _ _ _ _ _) (by simp[gx,ck,k0,k1])
 ·simp(disch:=omega) only[go_sem,hb,g1,g3,ck,aT.d,cV,gp,gq,k0,k1,Bool.not_true,Bool.not_false];exact nay _ (quiet _ _ _ _ _) (by simp[gx,ck,k0,k1])
 ·simp(disch:=omega) only[go_sem,hb,g1,g3,ck,aT.d,cV,gp,gq,k0,k1,Bool.not_true,Bool.not_false];refine ar (fun hl=>?_) (fun hl=>?_)
  ·simp(disch:=omega) only[go_sem,hb,g1,g3,ck,aT.d,cV,gp,gq,k0,k1,Bool.not_true,Bool.not_false,hl,decide_false,decide_true,not_false_eq_true];refine au (uN _ _ _) sG ?_;obtain⟨es',c',hu⟩:=hup false (0);simp(disch:=omega) only[go_sem,hb,g1,g3,ck,aT.d,cV,gp,gq,k0,k1,Bool.not_true,Bool.not_false,hl,hu,dW];exact yes _ false 0 c' es' hu (fun s hs hs'=>by simp only[ao];repeat rw[if_neg oM]) (by simp[ao]) (by rw[hfo];simp[gx,ck,k0,k1,hl]) (by simp[gn,ck,k0,k1,hl])
  ·simp(disch:=omega) only[go_sem,hb,g1,g3,ck,aT.d,cV,gp,gq,k0,k1,Bool.not_true,Bool.not_false,hl,decide_false,decide_true,not_false_eq_true];refine au (uN _ _ _) sG ?_;obtain⟨es',c',hu⟩:=hup false (v.lang);simp(disch:=omega) only[go_sem,hb,g1,g3,ck,aT.d,cV,gp,gq,k0,k1,Bool.not_true,Bool.not_false,hl,hu,dW];exact yes _ false v.lang c' es' hu (fun s hs hs'=>by simp only[ao];repeat rw[if_neg oM]) (by simp[ao]) (by rw[hfo];simp[gx,ck,k0,k1,hl]) (by simp[gn,ck,k0,k1,hl])
 ·simp(disch:=omega) only[go_sem,hb,g1,g3,ck,aT.d,cV,gp,gq,k0,k1,Bool.not_true,Bool.not_false];exact nay _ (quiet _ _ _ _ _) (by simp[gx,ck,k0,k1])
 ·simp(disch:=omega) only[go_sem,hb,g1,g3,ck,aT.d,cV,gp,gq,k0,k1,Bool.not_true,Bool.not_false];refine ar (fun hl=>?_) (fun hl=>?_)
  ·simp(disch:=omega) only[go_sem,hb,g1,g3,ck,aT.d,cV,gp,gq,k0,k1,Bool.not_true,Bool.not_false,hl,decide_false,decide_true,not_false_eq_true];refine au (K4 _ _ _) sG ?_;obtain⟨es',c',hu⟩:=hup true (m);simp(disch:=omega) only[go_sem,hb,g1,g3,ck,aT.d,cV,gp,gq,k0,k1,Bool.not_true,Bool.not_false,hl,hu,dW];exact yes _ true m c' es' hu (fun s hs hs'=>by simp only[ao];repeat rw[if_neg oM]) (by simp[ao]) (by rw[hfo];simp[gx,ck,k0,k1,hl]) (by simp[gn,ck,k0,k1,hl,hm1 k0])
  ·simp(disch:=omega) only[go_sem,hb,g1,g3,ck,aT.d,cV,gp,gq,k0,k1,Bool.not_true,Bool.not_false,hl,decide_false,decide_true,not_false_eq_true];exact nay _ (quiet _ _ _ _ _) (by rw[hfo];simp[ck,hl])
 ·simp(disch:=omega) only[go_sem,hb,g1,g3,ck,aT.d,cV,gp,gq,k0,k1,Bool.not_true,Bool.not_false];exact nay _ (quiet _ _ _ _ _) (by simp[gx,ck,k0,k1])
 ·simp(disch:=omega) only[go_sem,hb,g1,g3,ck,aT.d,cV,gp,gq,k0,k1,Bool.not_true,Bool.not_false];refine ar (fun hl=>?_) (fun hl=>?_)
  ·simp(disch:=omega) only[go_sem,hb,g1,g3,ck,aT.d,cV,gp,gq,k0,k1,Bool.not_true,Bool.not_false,hl,decide_false,decide_true,not_false_eq_true];refine au (uN _ _ _) sG ?_;obtain⟨es',c',hu⟩:=hup true (0);simp(disch:=omega) only[go_sem,hb,g1,g3,ck,aT.d,cV,gp,gq,k0,k1,Bool.not_true,Bool.not_false,hl,hu,dW];exact yes _ true 0 c' es' hu (fun s hs hs'=>by simp only[ao];repeat rw[if_neg oM]) (by simp[ao]) (by rw[hfo];simp[gx,ck,k0,k1,hl]) (by simp[gn,ck,k0,k1,hl])
  ·simp(disch:=omega) only[go_sem,hb,g1,g3,ck,aT.d,cV,gp,gq,k0,k1,Bool.not_true,Bool.not_false,hl,decide_false,decide_true,not_false_eq_true];refine au (uN _ _ _) sG ?_;obtain⟨es',c',hu⟩:=hup true (v.lang);simp(disch:=omega) only[go_sem,hb,g1,g3,ck,aT.d,cV,gp,gq,k0,k1,Bool.not_true,Bool.not_false,hl,hu,dW];exact yes _ true v.lang c' es' hu (fun s hs hs'=>by simp only[ao];repeat rw[if_neg oM]) (by simp[ao]) (by rw[hfo];simp[gx,ck,k0,k1,hl]) (by simp[gn,ck,k0,k1,hl])
 ·simp(disch:=omega) only[go_sem,hb,g1,g3,ck,aT.d,cV,gp,gq,k0,k1,Bool.not_true,Bool.not_false];refine ar (fun hl=>?_) (fun hl=>?_)
  ·simp(disch:=omega) only[go_sem,hb,g1,g3,ck,aT.d,cV,gp,gq,k0,k1,Bool.not_true,Bool.not_false,hl,decide_false,decide_true,not_false_eq_true];refine au (K3 _ _ _) sG ?_;obtain⟨es',c',hu⟩:=hup false (m);simp(disch:=omega) only[go_sem,hb,g1,g3,ck,aT.d,cV,gp,gq,k0,k1,Bool.not_true,Bool.not_false,hl,hu,dW];exact yes _ false m c' es' hu (fun s hs hs'=>by simp only[ao];repeat rw[if_neg oM]) (by simp[ao]) (by rw[hfo];simp[gx,ck,k0,k1,hl]) (by simp[gn,ck,k0,k1,hl,hm1 k0])
  ·simp(disch:=omega) only[go_sem,hb,g1,g3,ck,aT.d,cV,gp,gq,k0,k1,Bool.not_true,Bool.not_false,hl,decide_false,decide_true,not_false_eq_true];exact nay _ (quiet _ _ _ _ _) (by rw[hfo];simp[ck,hl])
 ·simp(disch:=omega) only[go_sem,hb,g1,g3,ck,aT.d,cV,gp,gq,k0,k1,Bool.not_true,Bool.not_false];exact nay _ (quiet _ _ _ _ _) (by simp[gx,ck,k0,k1])
theorem Gs(l:List aT)(hk:∀v∈l,i64 v.kind):aU Tryz.prog 129 0 [.sl 4 (l.map aT.d)] (fun _=> .none) (fun d bx=>d=I (cF l)) (fun _ _=>False):=by
 refine aG (fn:=Tryz.f129) (tab:=[]) (base:=0) mixed ?_ rfl aj rfl;refine aH _ [.tmp 2] 30 rfl rfl rfl aj ?_;simp(disch:=omega) only[go_sem];refine ar (fun h1=>?_) (fun h1=>?_)
 ·simp(disch:=omega) only[go_sem,h1,decide_true];exact congrArg I (by unfold cF;rw[if_pos oM])
 simp(disch:=omega) only[go_sem,h1,decide_false];have e:cF l=if s_ l then 0 else 520:=by unfold cF;rw[if_neg oM]
 have no:∀j v,l[j]? =some v->hZ (l.take j) v=false->I 520=I (cF l):=fun j v h h'=>congrArg I (by rw[e,if_neg fun g=>by rw[g j v h]at h';cases h']);have yes:(∀j v,j<l.length->l[j]? =some v->hZ (l.take j) v=true)->I 0=I (cF l):=fun h=>congrArg I (by rw[e,if_pos (show s_ l from fun j v h'=>h j v (List.getElem?_eq_some_iff.1 h').1 h')]);clear e;generalize cF l=r at *;refine aX l.length (fun j σ bx=>σ 3= .omap 10 1/\σ 4=I (n8 (l.take j))/\σ 11= .sl 4 (l.map aT.d)/\σ 12=I l.length/\σ 13=I j/\(∃c es fm,bx 10=⟨1,3,0,277,I c::es⟩/\jT fm es/\xk fm (fE (l.take j)))/\∀i v,i<j->l[i]? =some v->hZ (l.take i) v=true) ?_ ?_ ?_
 ·simp[go_sem,aR,ao,Bx.none,n8,jM];exact⟨0,[],⟨rfl,rfl⟩,_,jT.nil,fun n=>by simp[fE],fun n h=>by simp[fE]at h⟩
 ·rintro j σ bx hj ⟨h3,h4,h11,h12,h13,⟨c,es,fm,hb,hm,hf⟩,hn⟩;obtain⟨x,hx⟩:=aP hj;have hlt:(j:Int)<(l.length:Int):=oM;have hw:IntKind.i64.wrap ((j:Int)+1)=((j+1:Nat):Int):=aK oM;have hla:n8 (l.take (j+1))=x.at_:=nh hx;have no':=no j x hx;simp(disch:=omega) only[go_sem,h3,h4,h11,h12,h13,hb,hlt,hx,aT.d];refine ar (fun h2=>?_) (fun h2=>?_)
  ·simp(disch:=omega) only[go_sem,h2,decide_true];exact no' (by simp[hZ];omega)
  simp(disch:=omega) only[go_sem,h3,h4,h11,h12,h13,hb,hlt,hx,aT.d,h2,decide_false];refine aB (FW (c:=c) (es:=es) (by simp[ao,hb]) hm hf x (hk x (List.mem_of_getElem? hx))) rfl ?_;rintro d bx2 ⟨rfl,hs,hy⟩;have h6:=hs 6 oM oM;simp only[ao,if_true]at h6;simp(disch:=omega) only[go_sem,h3,h4,h11,h12,h13,aT.d,h2];refine an (fun hc=>?_) (fun hc=>?_)
  ·simp(disch:=omega) only[go_sem,h3,h4,h11,h12,h13,aT.d,hc,h6,hw];obtain⟨c',es',fm',hb',hm',hf'⟩:=hy hc;refine⟨by rw[hla],⟨c',es',fm',hb',hm',by rw[show fE (l.take (j+1))=fun n=>gn n (fE (l.take j) n) x from funext fun n=>tU hx n];exact hf'⟩,fun i v hi hv=>?_⟩;by_cases hij:i=j
   ·subst hij;rw[hx]at hv;injection hv with hv;subst hv;simp only[Bool.and_eq_true]at hc;unfold hZ;rw[hc.1,hc.2];simp;omega
   ·exact hn i v oM hv
  ·simp(disch:=omega) only[go_sem,hc];exact no' (by unfold hZ;cases hfo:eJ x<;>simp_all)
 ·rintro σ bx ⟨h3,h4,h11,h12,h13,hex,hn⟩;have hlt:¬(l.length:Int)<(l.length:Int):=oM;simp(disch:=omega) only[go_sem,h11,h12,h13,hlt];exact yes hn
theorem Gq(l:List aT)(hk:∀v∈l,i64 v.kind):aq Tryz.prog 129 [.sl 4 (l.map aT.d)] (I (cF l)):=
 (Gs l hk).to (fun _ _ h=>h) (fun d' bx' h=>⟨I (cF l),by rw[h];rfl,.refl _⟩)
def fZ(n:Int):Bool:=aL n 1 16384
def nv(w h:Int)(r:eB):Bool:=decide (0<=r.x)&&decide (0<=r.y)&&fZ r.w&&fZ r.h&&decide (r.x<=w - r.w)&&decide (r.y<=h - r.h)
def gC(s:bJ):Int:=if 32<s.bl.length then 2 else if fZ s.w&&fZ s.h&&s.bl.all (nv s.w s.h)then 0 else 460
theorem vU(n:Int):aq Tryz.prog 292 [I n] (.bool (fZ n)):=by
 refine av mixed (fn:=Tryz.f292) (tab:=[]) ?_ rfl aj rfl;refine aw _ [.tmp 2] _ rfl rfl rfl aj ?_;repeat' (first|with_reducible refine ar (fun _=>?_) (fun _=>?_)|with_reducible refine an (fun _=>?_) (fun _=>?_)|simp(disch:=omega) only[go_sem, *])
 all_goals first|exact .refl _|(refine ab (congrArg D.bool ?_);first|(simp(disch:=omega) [*,fZ,aL];done)|(simp[fZ,aL]at *;omega)|(rw[Bool.eq_iff_iff];simp[fZ,aL]at *;omega))
theorem qQ(n:Int):aq Tryz.prog 302 [I n] (.bool (fZ n)):=by
 refine av mixed (fn:=Tryz.f302) (tab:=[]) ?_ rfl aj rfl;refine aw _ [.tmp 2] _ rfl rfl rfl aj ?_;repeat' (first|with_reducible refine ar (fun _=>?_) (fun _=>?_)|with_reducible refine an (fun _=>?_) (fun _=>?_)|simp(disch:=omega) only[go_sem, *])
 all_goals first|exact .refl _|(refine ab (congrArg D.bool ?_);first|(simp(disch:=omega) [*,fZ,aL];done)|(simp[fZ,aL]at *;omega)|(rw[Bool.eq_iff_iff];simp[fZ,aL]at *;omega))
theorem CK{w n:Int}(h1:fZ w=true)(h2:fZ n=true):IntKind.i64.wrap (w - n)=w - n:=by
 simp[fZ,aL]at h1 h2;exact wr _ oM oM
theorem F1(s:bJ)(r:eB)(h1:fZ s.w=true)(h2:fZ s.h=true):aq Tryz.prog 291 [r.d,.cref s.d 0] (.bool (!nv s.w s.h r)):=by
 refine av mixed (fn:=Tryz.f291) (tab:=[]) ?_ rfl aj rfl;refine aw _ [.tmp 3] _ rfl rfl rfl aj ?_;repeat' (first|with_reducible refine ar (fun _=>?_) (fun _=>?_)|with_reducible refine an (fun _=>?_) (fun _=>?_)|with_reducible refine br (vU _) sG ?_|with_reducible refine bw (vU _) sG ?_|simp(disch:=omega) only[go_sem, *,eB.d,bJ.d,bJ.l])
 all_goals (refine ab (congrArg D.bool ?_);rw[Bool.eq_iff_iff];simp_all[nv,CK];try omega)
theorem Mi(w h:Int)(r:eB)(h1:fZ w=true)(h2:fZ h=true):aq Tryz.prog 303 [I w,I h,r.d] (.bool (nv w h r)):=by
 refine av mixed (fn:=Tryz.f303) (tab:=[]) ?_ rfl aj rfl;refine aw _ [.tmp 6] _ rfl rfl rfl aj ?_;repeat' (first|with_reducible refine ar (fun _=>?_) (fun _=>?_)|with_reducible refine an (fun _=>?_) (fun _=>?_)|with_reducible refine br (qQ _) sG ?_|with_reducible refine bw (qQ _) sG ?_|simp(disch:=omega) only[go_sem, *,eB.d])
 all_goals (refine ab (congrArg D.bool ?_);rw[Bool.eq_iff_iff];simp_all[nv,CK];try omega)
theorem F5(s:bJ):aq Tryz.prog 243 [s.d] (I (gC s)):=by
 refine av mixed (fn:=Tryz.f243) (tab:=[]) ?_ rfl aj rfl;refine aw _ [.tmp 2] _ rfl rfl rfl aj ?_;simp(disch:=omega) only[go_sem,bJ.d,bJ.l];refine ar (fun c1=>?_) (fun c1=>?_)
 ·simp(disch:=omega) only[go_sem,c1,decide_true];exact ab (congrArg I (by unfold gC;rw[if_pos oM]))
 have e:gC s=if fZ s.w&&fZ s.h&&s.bl.all (nv s.w s.h)then 0 else 460:=by unfold gC;rw[if_neg oM]
 simp(disch:=omega) only[go_sem,c1,decide_false,bJ.d,bJ.l];refine au (vU _) sG ?_;simp(disch:=omega) only[go_sem,bJ.d,bJ.l];refine an (fun c2=>?_) (fun c2=>?_)
 rotate_left
 ·simp(disch:=omega) only[go_sem,c2];exact ab (congrArg I (by rw[e,c2];rfl))
 simp(disch:=omega) only[go_sem,c2,bJ.d,bJ.l];refine au (vU _) sG ?_;simp(disch:=omega) only[go_sem,c2,bJ.d,bJ.l];refine an (fun c3=>?_) (fun c3=>?_)
 rotate_left
 ·simp(disch:=omega) only[go_sem,c2,c3];exact ab (congrArg I (by rw[e,c3,Bool.and_false];rfl))
 simp(disch:=omega) only[go_sem,c2,c3,bJ.d,bJ.l];have hc:=JH (f:=291) (caps:=[.cref s.d 0]) (p:=fun r=> !nv s.w s.h r) s.bl oM (fun r _=>F1 s r c2 c3) (fun x=>rfl) rfl;refine mu hc (by simp[go_sem,qF,D.cells,D.aF,D.pure,D.one,iB,ao,cg,lv,I,bJ.d,bJ.l]) rfl ?_;simp(disch:=omega) only[go_sem,c2,c3,lJ];refine an (fun c4=>?_) (fun c4=>?_)
 ·simp(disch:=omega) only[go_sem,c2,c3,c4];exact ab (congrArg I (by rw[e,c2,c3,c4];rfl))
 ·simp(disch:=omega) only[go_sem,c2,c3,c4];exact ab (congrArg I (by rw[e,c4,Bool.and_false];rfl))
theorem D4(s:bJ):aq Tryz.prog 258 [s.d] (I (gC s)):=by
 refine av mixed (fn:=Tryz.f258) (tab:=[]) ?_ rfl aj rfl;refine aw _ [.tmp 2] _ rfl rfl rfl aj ?_;simp(disch:=omega) only[go_sem,bJ.d,bJ.l];refine ar (fun c1=>?_) (fun c1=>?_)
 ·simp(disch:=omega) only[go_sem,c1,decide_true];exact ab (congrArg I (by unfold gC;rw[if_pos oM]))
 have e:gC s=if fZ s.w&&fZ s.h&&s.bl.all (nv s.w s.h)then 0 else 460:=by unfold gC;rw[if_neg oM]
 simp(disch:=omega) only[go_sem,c1,decide_false,bJ.d,bJ.l];refine au (qQ _) sG ?_;simp(disch:=omega) only[go_sem,bJ.d,bJ.l];refine an (fun c2=>?_) (fun c2=>?_)
 rotate_left
 ·simp(disch:=omega) only[go_sem,c2];exact ab (congrArg I (by rw[e,c2];rfl))
 simp(disch:=omega) only[go_sem,c2,bJ.d,bJ.l];refine au (qQ _) sG ?_;simp(disch:=omega) only[go_sem,c2,bJ.d,bJ.l];refine an (fun c3=>?_) (fun c3=>?_)
 rotate_left
 ·simp(disch:=omega) only[go_sem,c2,c3];exact ab (congrArg I (by rw[e,c3,Bool.and_false];rfl))
 simp(disch:=omega) only[go_sem,c2,c3,bJ.d,bJ.l];refine aX s.bl.length (fun j σ bx=>σ 1= .loc 1 1 0 0/\bx 1=⟨1,1,3,131,[s.d]⟩/\σ 3=I j/\(s.bl.take j).all (nv s.w s.h)=true) ?_ ?_ ?_
 ·simp[go_sem,aR,ao,Bx.none]
 ·rintro j σ bx hj ⟨h1,b1,h3,hn⟩;obtain⟨x,hx⟩:=aP hj;have hlt:(j:Int)<(s.bl.length:Int):=oM;have hw:IntKind.i64.wrap ((j:Int)+1)=((j+1:Nat):Int):=aK oM;simp(disch:=omega) only[go_sem,h1,b1,h3,hlt,hx,bJ.d,bJ.l];refine au (Mi s.w s.h x c2 c3) sG ?_;simp(disch:=omega) only[go_sem,h1,b1,h3,hlt,hx,bJ.d,bJ.l];refine an (fun c4=>?_) (fun c4=>?_)
  ·simp(disch:=omega) only[go_sem,h1,b1,h3,hw,c4];exact jg hx hn c4
  ·simp(disch:=omega) only[go_sem,c4];exact ab (congrArg I (by rw[e,mi hx c4,Bool.and_false];rfl))
 ·rintro σ bx ⟨h1,b1,h3,hn⟩;have hlt:¬(s.bl.length:Int)<(s.bl.length:Int):=oM;simp(disch:=omega) only[go_sem,h1,b1,h3,hlt,bJ.d,bJ.l];rw[List.take_length]at hn;exact ab (congrArg I (by rw[e,c2,c3,hn];rfl))
def dD{α:Type}(r:α->α->Bool):List α->Bool
 |[]=>true
 |[_]=>true
 |x::y::l=>r x y&&dD r (y::l)
theorem qb{α:Type}{r:α->α->Bool}:∀ {l:List α},dD r l=true<->∀i x y,l[i]? =some x->l[i+1]? =some y->r x y=true
 |[]=>⟨fun _ i x y h=>by simp at h,fun _=>rfl⟩
 |[a]=>⟨fun _ i x y _ h=>by simp at h,fun _=>rfl⟩
 |a::b::l=>by
  rw[dD,Bool.and_eq_true,qb (l:=b::l)];constructor
  ·rintro⟨h1,h2⟩ i x y hx hy;cases i with
   |zero=>simp at hx hy;subst hx;subst hy;exact h1
   |succ i=>exact h2 i x y (by simpa using hx) (by simpa using hy)
  ·intro h;exact⟨h 0 a b rfl rfl,fun i x y hx hy=>h (i+1) x y (by simpa using hx) (by simpa using hy)⟩
theorem sX{α:Type}{r:α->α->Bool}{l:List α}{j:Nat}{x y:α}(hx:l[j]? =some x)(hy:l[j+1]? =some y)(h:r x y=false):dD r l=false:=by
 cases hb:dD r l with
 |false=>rfl
 |true=>rw[qb.1 hb j x y hx hy]at h;cases h
theorem oN{α:Type}{r:α->α->Bool}{l:List α}{j:Nat}{x y:α}(hx:l[j]? =some x)(hy:l[j+1]? =some y)(h1:dD r (l.take (j+1))=true)(h:r x y=true):dD r (l.take (j+1+1))=true:=by
 refine qb.2 fun i a b ha hb=>?_;have hl:=(List.getElem?_eq_some_iff.1 hb).1;rw[List.length_take]at hl;rw[List.getElem?_take_of_lt oM]at ha hb;by_cases hi:i=j
 ·subst hi;rw[hx]at ha;rw[hy]at hb;injection ha with ha;injection hb with hb;subst ha;subst hb;exact h
 ·exact qb.1 h1 i a b (by rw[List.getElem?_take_of_lt oM];exact ha) (by rw[List.getElem?_take_of_lt oM];exact hb)
theorem qc{α:Type}{r:α->α->Bool}(l:List α):dD r (l.take 1)=true:=by
 cases l with
 |nil=>rfl
 |cons a l=>rfl
def dC(g:dM):Bool:=aL g.f 0 1114111&&aL g.t 0 1114111&&decide (g.f<=g.t)&&aL g.w 0 4096
def e_(k:eU):Bool:=aL k.a 0 1114111&&aL k.b 0 1114111&&aL k.y (-4096) 4096
def gH(x y:dM):Bool:=decide (x.t<y.f)
def gM(x y:eU):Bool:=decide (x.a<y.a)||decide (x.a=y.a)&&decide (x.b<y.b)
def gj(f:b_):Int:=if 1024<f.gs.length\/1024<f.ks.length then 2 else if aL f.o 0 4096&&f.gs.all dC&&dD gH f.gs&&f.ks.all e_&&dD gM f.ks then 0 else 110
theorem mz(n a b:Int):aq Tryz.prog 389 [I n,I a,I b] (.bool (aL n a b)):=by
 refine av mixed (fn:=Tryz.f389) (tab:=[]) ?_ rfl aj rfl;refine aw _ [.tmp 6] _ rfl rfl rfl aj ?_;repeat' (first|with_reducible refine ar (fun _=>?_) (fun _=>?_)|with_reducible refine an (fun _=>?_) (fun _=>?_)|simp(disch:=omega) only[go_sem, *])
 all_goals first|exact .refl _|(refine ab (congrArg D.bool ?_);first|(simp(disch:=omega) [*,aL];done)|(simp[aL]at *;omega)|(rw[Bool.eq_iff_iff];simp[aL]at *;omega))
theorem I5(n:Int):aq Tryz.prog 396 [I n] (.bool false):=by
 refine av mixed (fn:=Tryz.f396) (tab:=[]) ?_ rfl aj rfl;refine aw _ [.tmp 2] _ rfl rfl rfl aj ?_;repeat' (first|with_reducible refine ar (fun _=>?_) (fun _=>?_)|with_reducible refine an (fun _=>?_) (fun _=>?_)|simp(disch:=omega) only[go_sem, *])
 all_goals first|exact .refl _|exact ab (congrArg D.bool sI)
def GV(a b:Int):Int:=if a<b then -1 else if b<a then 1 else 0
theorem xx(a b:Int):aq Tryz.prog 395 [I a,I b] (I (GV a b)):=by
 refine av mixed (fn:=Tryz.f395) (tab:=[]) ?_ rfl aj rfl;refine aw _ [.tmp 4] _ rfl rfl rfl aj ?_;repeat' (first|with_reducible refine ar (fun _=>?_) (fun _=>?_)|with_reducible refine an (fun _=>?_) (fun _=>?_)|with_reducible refine br (I5 _) sG ?_|with_reducible refine bw (I5 _) sG ?_|simp(disch:=omega) only[go_sem, *])
 all_goals exact ab (congrArg I (by unfold GV;simp[*]))
theorem ME(a b:Int):aq Tryz.prog 394 [.sl 1 [I a,I b]] (I (if a=0 then b else a)):=by
 refine av mixed (fn:=Tryz.f394) (tab:=[]) ?_ rfl aj rfl;refine aw _ [.tmp 2] _ rfl rfl rfl aj ?_;simp(disch:=omega) only[go_sem];refine aX 2 (fun j σ bx=>σ 3=I 0/\σ 6= .sl 1 [I a,I b]/\σ 7=I 2/\σ 8=I j/\(0<j->a=0)/\(1<j->b=0)) ?_ ?_ ?_
 ·simp[go_sem,aR]
 ·rintro j σ bx hj ⟨h3,h6,h7,h8,ha,hb⟩;obtain rfl|rfl:j=0\/j=1:=oM
  ·have h8:σ 8=I 0:=h8;clear ha hb;repeat' (first|with_reducible refine ar (fun _=>?_) (fun _=>?_)|with_reducible refine an (fun _=>?_) (fun _=>?_)|simp(disch:=omega) only[go_sem, *,h3,h6,h7,h8])
   all_goals first|exact ab (congrArg I (by simp[*]))|exact⟨congrArg I (wr 1 oM oM),fun _=>by assumption,fun h=>by omega⟩|simp_all[wr]
  ·have h8:σ 8=I 1:=h8;have ha:=ha oM;clear hb;subst ha;repeat' (first|with_reducible refine ar (fun _=>?_) (fun _=>?_)|with_reducible refine an (fun _=>?_) (fun _=>?_)|simp(disch:=omega) only[go_sem, *,h3,h6,h7,h8])
   all_goals first|exact ab (congrArg I (by simp[*]))|exact⟨congrArg I (wr 2 oM oM),fun _=>rfl,fun _=>by assumption⟩|simp_all[wr]
 ·rintro σ bx ⟨h3,h6,h7,h8,ha,hb⟩;have h8:σ 8=I 2:=h8;have ha:=ha oM;have hb:=hb oM;simp(disch:=omega) only[go_sem,h3,h6,h7,h8];exact ab (congrArg I (by simp[ha,hb]))
theorem E7(x y:dM):aq Tryz.prog 391 [x.d,y.d] (.bool (gH x y)):=by
 refine av mixed (fn:=Tryz.f391) (tab:=[]) ?_ rfl aj rfl;refine aw _ [.tmp 4] _ rfl rfl rfl aj ?_;repeat' (first|with_reducible refine ar (fun _=>?_) (fun _=>?_)|with_reducible refine an (fun _=>?_) (fun _=>?_)|simp(disch:=omega) only[go_sem, *,dM.d])
 exact .refl _
theorem E8(x y:eU):aq Tryz.prog 393 [x.d,y.d] (.bool (gM x y)):=by
 refine av mixed (fn:=Tryz.f393) (tab:=[(1,[(9,7),(9,5)])]) ?_ rfl aj rfl;refine aw _ [.tmp 4] _ rfl rfl rfl aj ?_;repeat' (first|with_reducible refine ar (fun _=>?_) (fun _=>?_)|with_reducible refine an (fun _=>?_) (fun _=>?_)|with_reducible refine br (xx _ _) sG ?_|with_reducible refine bw (xx _ _) sG ?_|with_reducible refine br (ME _ _) sG ?_|with_reducible refine bw (ME _ _) sG ?_|simp(disch:=omega) only[go_sem, *,eU.d])
 refine ab (congrArg D.bool ?_);unfold GV gM;by_cases h1:x.a<y.a
 ·simp[h1]
 ·by_cases h2:x.a=y.a
  ·simp[h2];by_cases h3:x.b<y.b
   ·simp[h3]
   ·simp[h3];split<;>decide
  ·have h3:y.a<x.a:=oM;simp[h1,h2,h3]
theorem BM{f:FuncId}{r:dM->dM->Bool}(l:List dM)(hl:l.length<=140737488355328)(hf:∀x y:dM,aq Tryz.prog f [x.d,y.d] (.bool (r x y))):aq Tryz.prog 390 [.sl 3 (l.map dM.d),.fn (.func f) []] (.bool (dD r l)):=by
 refine av mixed (fn:=Tryz.f390) (tab:=[]) ?_ rfl aj rfl;refine aw _ [.tmp 4] _ rfl rfl rfl aj ?_;simp(disch:=omega) only[go_sem];refine aX (l.length - 1) (fun j σ bx=>σ 0= .sl 3 (l.map dM.d)/\σ 1= .fn (.func f) []/\σ 5=I ((j:Int)+1)/\dD r (l.take (j+1))=true) ?_ ?_ ?_
 ·simp[go_sem,aR,qc]
 ·rintro j σ bx hj ⟨h0,h1,h5,hn⟩;obtain⟨x,hx⟩:=aP (show j<l.length by omega);obtain⟨y,hy⟩:=aP (show j+1<l.length by omega);have hlt:(j:Int)+1<(l.length:Int):=oM;have hw:IntKind.i64.wrap ((j:Int)+1 - 1)=(j:Int):=by rw[wr _ oM oM];omega
  have hw2:IntKind.i64.wrap ((j:Int)+1+1)=(j:Int)+1+1:=wr _ oM oM;have hy':l[((j:Int)+1).toNat]? =some y:=by rw[show((j:Int)+1).toNat=j+1 by omega];exact hy
  have hf':=hf x y;simp(disch:=omega) only[go_sem,h0,h1,h5,hlt,hw,hx,hy',dM.d];refine au hf' sG ?_;simp(disch:=omega) only[go_sem,h0,h1,h5,hlt,hw,hw2,hx,hy',dM.d];refine an (fun c=>?_) (fun c=>?_)
  ·simp(disch:=omega) only[go_sem,h0,h1,h5,hw2,c];exact⟨congrArg I oM,oN hx hy hn c⟩
  ·simp(disch:=omega) only[go_sem,c];exact ab (congrArg D.bool (sX hx hy c).symm)
 ·rintro σ bx ⟨h0,h1,h5,hn⟩;have hlt:¬((l.length - 1:Nat):Int)+1<(l.length:Int):=oM;simp(disch:=omega) only[go_sem,h0,h1,h5,hlt];rw[List.take_of_length_le oM]at hn;exact ab (congrArg D.bool hn.symm)
theorem Ee{f:FuncId}{r:eU->eU->Bool}(l:List eU)(hl:l.length<=140737488355328)(hf:∀x y:eU,aq Tryz.prog f [x.d,y.d] (.bool (r x y))):aq Tryz.prog 392 [.sl 3 (l.map eU.d),.fn (.func f) []] (.bool (dD r l)):=by
 refine av mixed (fn:=Tryz.f392) (tab:=[]) ?_ rfl aj rfl;refine aw _ [.tmp 4] _ rfl rfl rfl aj ?_;simp(disch:=omega) only[go_sem];refine aX (l.length - 1) (fun j σ bx=>σ 0= .sl 3 (l.map eU.d)/\σ 1= .fn (.func f) []/\σ 5=I ((j:Int)+1)/\dD r (l.take (j+1))=true) ?_ ?_ ?_
 ·simp[go_sem,aR,qc]
 ·rintro j σ bx hj ⟨h0,h1,h5,hn⟩;obtain⟨x,hx⟩:=aP (show j<l.length by omega);obtain⟨y,hy⟩:=aP (show j+1<l.length by omega);have hlt:(j:Int)+1<(l.length:Int):=oM;have hw:IntKind.i64.wrap ((j:Int)+1 - 1)=(j:Int):=by rw[wr _ oM oM];omega
  have hw2:IntKind.i64.wrap ((j:Int)+1+1)=(j:Int)+1+1:=wr _ oM oM;have hy':l[((j:Int)+1).toNat]? =some y:=by rw[show((j:Int)+1).toNat=j+1 by omega];exact hy
  have hf':=hf x y;simp(disch:=omega) only[go_sem,h0,h1,h5,hlt,hw,hx,hy',eU.d];refine au hf' sG ?_;simp(disch:=omega) only[go_sem,h0,h1,h5,hlt,hw,hw2,hx,hy',eU.d];refine an (fun c=>?_) (fun c=>?_)
  ·simp(disch:=omega) only[go_sem,h0,h1,h5,hw2,c];exact⟨congrArg I oM,oN hx hy hn c⟩
  ·simp(disch:=omega) only[go_sem,c];exact ab (congrArg D.bool (sX hx hy c).symm)
 ·rintro σ bx ⟨h0,h1,h5,hn⟩;have hlt:¬((l.length - 1:Nat):Int)+1<(l.length:Int):=oM;simp(disch:=omega) only[go_sem,h0,h1,h5,hlt];rw[List.take_of_length_le oM]at hn;exact ab (congrArg D.bool hn.symm)
end Go.V.St
