/- Lemmas on plain data and programs: part B42. -/
import Derived.Test.YtkknfajchefgaaaGreatDoorB40
set_option linter.all false
set_option maxHeartbeats 8000000
set_option maxRecDepth 100000
namespace Go.V.St
open Go.Proofs Go.Proofs.Tryz Go.RowKit Go.V.Lx Go.V.Gr Go.V.Ty
attribute [local go_sem] aA.d
instance(g:aA):Ct 136 [.agg [.str g.name,strs g.aB,.str g.start,I g.no,.sl 5 (g.entries.map Entry.d),.sl 5 (g.rules.map aF.d)]] (zL g) (I (jm g)):=⟨fun h=>abI g h.1⟩
instance(l:List cY):Ct 138 [.sl 10 (l.map cY.d)] True (I (sK l)):=⟨fun _=>YZ l⟩
instance(bs:List bn)(ts:List cJ):Ct 139 [.sl 5 (bs.map bn.d),.sl 7 (ts.map cJ.d)] True (I (im bs ts)):=⟨fun _=>Uq bs ts⟩
instance(l:List bD):Ct 140 [.sl 4 (l.map bD.d)] (∀v∈l,i64 v.kind) (I (hU l)):=⟨fun h=>Xw l h⟩
instance(n:Int):Cq 135 [.sl 1 [I n]] True (decide (n=0)) (.aL []) (oE 540):=⟨fun _ bx=>by
 have:=(inferInstance:Cq 135 [.sl 1 ([n].map I)] _ _ _ _).h awH bx
 grind⟩
instance(a b c d:Int):Cq 135 [.sl 1 [I a,I b,I c,I d]] True (decide (a=0)&&decide (b=0)&&decide (c=0)&&decide (d=0)) (.aL []) (oE 540):=⟨fun _ bx=>by
 have:=(inferInstance:Cq 135 [.sl 1 ([a,b,c,d].map I)] _ _ _ _).h awH bx
 grind⟩
instance(b:Bool):Cq 135 [.sl 1 [I (if b=true then 0 else 450)]] True b (.aL []) (oE 540):=⟨fun _ bx=>by
 have:=(inferInstance:Cq 135 [.sl 1 ([if b=true then(0:Int)else 450].map I)] _ _ _ _).h awH bx
 grind⟩
def Bu(s:cP)(n:Int)(bx:ab)(d:D)(bx':ab):Prop:=eN s=n/\d=oE n/\cO [(5,1000)] bx' bx
def Qw{s:cP}(h:(decide (vl s.cB=0)&&decide (sK s.bG=0)&&decide (im s.bp s.cy=0)&&decide (hU s.cr=0))=false):fI s=false\/iE s=false\/uT s=false:=by grind [fI,iE]
theorem M4{α S:Type}{step:S->α->Option S}:∀ {l:List α} {s0:S},(l.foldlM step s0).isSome=true->∀x∈l,∃s,(step s x).isSome=true
 |[],_,_,x,hx=>by simp at hx
 |y::l,s0,h,x,hx=>by
  rw[akA]at h;cases hy:step s0 y with
  |none=>grind
  |some s1=>
   rw[hy]at h;rcases aaQ.1 hx with rfl|hx
   ·exact awN
   ·exact M4 (s0:=s1) awN x hx
def TT{l:List Term}(h:vl l=0):∀x∈l,0<=x.bH:=fun x hx=>by
 unfold vl at h;split at h
 ·exact awv
 ·split at h
  ·rename_i h2;obtain⟨s,hs⟩:=M4 h2 x hx;simp_all[Bm,D_]
  exact awN
theorem NK{a b:Int}(h:0<=a):aX a 0 (b - 1)=decide (a<b):=by rw[abu];simp[aX];omega
def EJ{l:List bD}(h:hU l=0):∀x∈l,0<=x.bH:=fun x hx=>by
 unfold hU at h;split at h
 ·exact awv
 ·split at h
  ·rename_i h2;obtain⟨j,hj,rfl⟩:=akI hx;have:=h2 j _ (aaS hj);simp_all[v_,nL]
  exact awN
def HW(n last:Int)(v:aV):wJ n last v=if(mM v&&aX v.bH 0 (n - 1)&&decide (last<v.no))=true then some v.no else none:=by grind [wJ,mM,aX]
def RP{s:cP}{v:bD}(h:0<=v.bH):T0 s v=(aX v.bH 0 (s.langs - 1)&&decide (0<=SB v.jB s.aC)):=by grind [T0,NK]
def J_{src a:Int}{h:bL}(ha:0<=a):zn src a h=if(aX h.at_ a 1099511627775&&aX h.src 0 (src - 1)&&aX h.seq 0 1048576&&aX h.sY 0 1099511627775&&aX h.words.length 0 64)=true then some h.at_ else none:=by
 unfold zn SE
 congr 1
 rw[abu]
 grind [aX,lM]
def adS{s:cP}{bx bx':ab}(h:(4096:Int)<s.heard.length\/(4096:Int)<s.aC.length)(ha:cO [(5,1000)] bx' bx):Bu s 2 bx (oE 2) bx'\/Bu s 540 bx (oE 2) bx':=.inl ⟨by simp_all[eN],rfl,ha⟩
def amA{s:cP}{bx bx':ab}(h1:(s.heard.length:Int)<=4096)(h2:(s.aC.length:Int)<=4096)(h:rh s=false)(ha:cO [(5,1000)] bx' bx):Bu s 2 bx (oE 540) bx'\/Bu s 540 bx (oE 540) bx':=.inr ⟨by simp_all[eN],rfl,ha⟩
def ZZ(s:cP)(h:iU s)(bx:ab):az prog 70 5 [s.d] bx (fun _ bx'=>eN s=0/\cO [(5,1000)] bx' bx) (fun d bx'=>(Bu s 2 bx d bx'\/Bu s 540 bx d bx')):=by
 refine fB 206 5 f70 [(2000021,[]),(21,[(13,11),(13,8),(10,8),(13,6),(10,6),(13,3),(10,3),(5,3)])] [] ?_;obtain⟨gr,te,vi,ki,lg,lt,lv,li,lh⟩:=h;by_cases mc:(s.heard.length:Int)<=4096
 rotate_left
 ·repeat' first|exact zQ|with_reducible apply zJ<;>intro _|((with_reducible refine dU ?_ (fun _=>?_) fun _=>?_);exact pr)|refine zK ?_|fail
  all_goals first|contradiction|exact adS oM ag
 by_cases tB:(s.aC.length:Int)<=4096
 rotate_left
 ·repeat' first|exact zQ|with_reducible apply zJ<;>intro _|((with_reducible refine dU ?_ (fun _=>?_) fun _=>?_);exact pr)|refine zK ?_|fail
  all_goals first|contradiction|exact adS oM ag
 have b5:Hid (rh s=false->∀bx bx':ab,cO [(5,1000)] bx' bx->Bu s 2 bx (oE 540) bx'\/Bu s 540 bx (oE 540) bx'):=fun h _ _ ha=>amA mc tB h ha;have good:Hid (rh s=true->eN s=0):=fun h=>by simp_all[eN]
 generalize hQ:rh s=Q at *;unfold rh vh at hQ;replace hQ:Hid _:=hQ;repeat' first|exact zQ|with_reducible apply zJ<;>intro _|((with_reducible refine dU ?_ (fun _=>?_) fun _=>?_);exact pr)|refine zK ?_|fail
 all_goals first|contradiction|exact b5.out (by rw[<-hQ.out];simp[*,-aX]) _ _ ag|skip
 generalize hA:List.all [s.chunk,s.quiet,s.gap] (fun n=>aX n 1 1073741824)=A;have QF:(aX s.chunk 1 1073741824&&aX s.quiet 1 1073741824&&aX s.gap 1 1073741824)=A:=awN
 have b5':Hid (A=false->∀bx bx':ab,cO [(5,1000)] bx' bx->Bu s 2 bx (oE 540) bx'\/Bu s 540 bx (oE 540) bx'):=fun h=>b5.out (by rw[<-hQ.out];grind);refine ql [s.chunk,s.quiet,s.gap] hA 50 [(4,4),(50,56)] [] awH sG (fun j x τ β hx hj hw hi cH=>?_) fun τ β hn hi ha=>?_
 ·have hj:(j:Int)<((3:Nat):Int):=hj;have jc:[I s.chunk,I s.quiet,I s.gap][j]? =some (I x):=by
   have:[I s.chunk,I s.quiet,I s.gap]=[s.chunk,s.quiet,s.gap].map I:=rfl
   exact awN
  clear hx hA QF;refine zW ?_;intros;exact b5'.out (cH.out awj) _ _ ag
 have hn:¬((3:Nat):Int)<((3:Nat):Int):=hn;have hi:τ 50=I ((3:Nat):Int):=hi;subst ha;clear hA b5';repeat' first|exact zQ|with_reducible apply zJ<;>intro _|((with_reducible refine dU ?_ (fun _=>?_) fun _=>?_);exact pr)|refine zK ?_|fail
 all_goals first|contradiction|exact b5.out (by rw[<-hQ.out];simp only[fI,akB,afa];simp[aX]at *;omega) _ _ ag|skip
 have q1:(vh s.sources s.langs s.chunk s.quiet s.late s.gap s.most)=true:=by simp_all[vh]
 have g1:Hid ((s.grams.length:Int)=s.langs):=by have h:= ‹aX (↑s.grams.length) s.langs s.langs=true›;simp[aX]at h;show _=_;omega
 have g2:Hid ((s.bp.length:Int)=s.langs):=by grind [aX]
 have gl:1<=s.langs/\s.langs<=32:=awy
 have gs:1<=s.sources/\s.sources<=16:=awy
 replace hQ:Hid ((fI s&&iE s&&uT s)=Q):=awN
 clear QF hn hi;have nq:Hid (∀bx bx':ab,(fI s=false\/iE s=false\/uT s=false)->cO [(5,1000)] bx' bx->Bu s 2 bx (oE 540) bx'\/Bu s 540 bx (oE 540) bx'):=fun bx bx' h ha=>b5.out (by rw[<-hQ.out];grind) bx bx' ha;have hgb:s.grams.length=s.bp.length:=by have:=g1.out;have:=g2.out;omega
 have hz:(s.grams.zip s.bp).zipIdx.length=s.grams.length:=awy
 replace hgb:Hid _:=hgb;generalize hA:NW s=A;have nA:Hid (A=false->fI s=false):=fun h=>by grind [fI]
 refine ql _ hA 76 [(5,6),(76,96)] [(11,11)] oM sG (fun j x τ β hx hj hw hi cH=>?_) fun τ β hn hi ha=>?_
 ·obtain⟨h1,h2,h3⟩:=adm hx;rw[hz]at hj;have hg:=gr _ (aat h1);unfold Tt at cH⊢;obtain⟨⟨g,b⟩,k⟩:=x;simp only at h1 h2 h3 hg cH⊢;subst h3;clear hx gr hz hA te;rcases k with _|k
  ·have hj:(0:Int)<(s.grams.length:Int):=oM;repeat' first|exact zQ|with_reducible apply zJ<;>intro _|((with_reducible refine dU ?_ (fun _=>?_) fun _=>?_);exact pr)|refine zK ?_|fail
   all_goals first|exact nq.out _ _ (.inl (nA.out (cH.out zz))) ag|exact⟨sI,zz⟩|exact zz
  ·have hp:(0:Int)<((k+1:Nat):Int):=oM;repeat' first|exact zQ|with_reducible apply zJ<;>intro _|((with_reducible refine dU ?_ (fun _=>?_) fun _=>?_);exact pr)|refine zK ?_|fail
   all_goals first|exact nq.out _ _ (.inl (nA.out (cH.out zz))) ag|exact⟨sI,zz⟩|exact zz
 rw[hz]at hn hi;subst ha;clear hz nA;refine zW ?_;intros;refine gU (.aD 0 (.load 1 1 (.aD 3 (.load 4 1 (.aD 6 (.load 7 1 (.aD 8 (.load 9 1 (.aD 11 (.load 12 1 (.both 2 [1] (.both 5 [1] (.both 10 [1] (.both 13 [1] (.both 14 [] (.both 15 [] .fin .stop) .stop) .stop) .stop) .stop) .stop))))))))))) ar ?_;repeat' first|exact zQ|with_reducible apply zJ<;>intro _|((with_reducible refine dU ?_ (fun _=>?_) fun _=>?_);exact pr)|refine zK ?_|fail
 all_goals first|exact fun _=>nq.out _ _ (Qw awj) ag|exact nq.out _ _ (Qw awj) ag|skip
 have f4:= ‹(decide (vl s.cB=0)&&decide (sK s.bG=0)&&decide (im s.bp s.cy=0)&&decide (hU s.cr=0))=true›;simp only[aas,aaH]at f4;obtain⟨⟨⟨t0,h0⟩,b0⟩,v0⟩:=f4;generalize hB:(s.cB.all fun t=>decide (t.bH<s.langs))=B;have nB:Hid (B=false->fI s=false):=fun h=>by grind [fI]
 refine ql s.cB hB 116 [(8,8),(116,126)] [(13,13)] lt sG (fun j x τ β hx hj hw hi cH=>?_) fun τ β hn hi ha=>?_
 ·have hl:=TT t0 x (aat hx);clear hA hB gr te vi ki;repeat' first|exact zQ|with_reducible apply zJ<;>intro _|((with_reducible refine dU ?_ (fun _=>?_) fun _=>?_);exact pr)|refine zK ?_|fail
  ·grind [NK]
  ·exact nq.out _ _ (.inl (nB.out (cH.out (by grind [NK])))) ag
 subst ha;clear nB;refine fresh (fun σ' B=>σ' 1= .loc 6 ((bx 6).ep+1) 0 0/\σ' 2= .loc 7 ((bx 7).ep+1) 0 0/\σ' 115=I s.cB.length/\σ' 116=I s.cB.length/\B 6=⟨(bx 6).ep+1,1,15,33,[s.d]⟩/\B 7=⟨(bx 7).ep+1,1,7,23,[.agg [I s.sources,I s.langs,I s.chunk,I s.quiet,I s.late,I s.gap,I s.most]]⟩/\cO [(5,1000)] B bx) ⟨sG,sG,sG,avI,sG,sG,ag⟩ ?_;rintro σ' B ⟨k1,k2,k3,k4,k6,k7,ka⟩;clear hi;generalize(bx 6).ep+1=e6 at *;generalize(bx 7).ep+1=e7 at *;refine zW ?_;intros;generalize hC:List.foldlM (wJ s.langs) (-1) s.aC=C;have nC:Hid (C=none->iE s=false):=fun h=>by grind [iE]
 refine yV s.aC (wJ s.langs) (-1) hC 130 [(9,9),(11,11),(130,151)] [(16,16)] (fun j s' τ _=>τ 9=I s') lv sG sG (fun j x s' τ β hx hj hw hi h3 cH=>?_) fun s' τ β hn hi h3 ha=>?_
 ·have hv:=vi x (aat hx);have he:Hid _:=HW s.langs s' x;rw[HW]at cH;clear hC gr te vi ki;repeat' first|exact zQ|with_reducible apply zJ<;>intro _|((with_reducible refine dU ?_ (fun _=>?_) fun _=>?_);exact pr)|refine zK ?_|fail
  all_goals first|exact nq.out _ _ (.inr (.inl (nC.out (cH.out zz)))) ag|exact⟨x.no,he.out.trans zz,rfl⟩
 subst ha;clear nC;refine fresh (fun σ'' B'=>σ'' 1= .loc 6 e6 0 0/\σ'' 2= .loc 7 e7 0 0/\σ'' 129=I s.aC.length/\σ'' 130=I s.aC.length/\B' 6=⟨e6,1,15,33,[s.d]⟩/\B' 7=⟨e7,1,7,23,[.agg [I s.sources,I s.langs,I s.chunk,I s.quiet,I s.late,I s.gap,I s.most]]⟩/\cO [(5,1000)] B' bx) ⟨avJ,by simp[go_sem,k2],sG,avI,by simp[go_sem,k6],by simp[go_sem,k7],ag⟩ ?_;clear hi h3 k1 k2 k3 k4 k6 k7 ka;rintro σ'' B' ⟨k1,k2,k3,k4,k6,k7,ka⟩;refine zW ?_;intros;clear hn;generalize hD:List.all s.cr (T0 s)=V;have nD:Hid (V=false->iE s=false):=fun h=>by grind [iE]
 refine ql s.cr hD 155 [(13,13),(155,171)] [(18,18)] li sG (fun j x τ β hx hj hw hi cH=>?_) fun τ β hn hi ha=>?_
 ·have he:Hid _:=RP (s:=s) (EJ v0 x (aat hx));rw[RP (EJ v0 x (aat hx))]at cH;clear hD gr te vi ki;repeat' first|exact zQ|with_reducible apply zJ<;>intro _|((with_reducible refine dU ?_ (fun _=>?_) fun _=>?_);exact pr)|refine zK ?_|fail
  all_goals first|exact nq.out _ _ (.inr (.inl (nD.out (cH.out zz)))) ag|exact he.out.trans zz
 subst ha;clear nD;refine fresh (fun σ'' B'=>σ'' 1= .loc 6 e6 0 0/\σ'' 2= .loc 7 e7 0 0/\σ'' 154=I s.cr.length/\σ'' 155=I s.cr.length/\B' 6=⟨e6,1,15,33,[s.d]⟩/\B' 7=⟨e7,1,7,23,[.agg [I s.sources,I s.langs,I s.chunk,I s.quiet,I s.late,I s.gap,I s.most]]⟩/\cO [(5,1000)] B' bx) ⟨avJ,by simp[go_sem,k2],sG,avI,by simp[go_sem,k6],by simp[go_sem,k7],ag⟩ ?_;clear hi k1 k2 k3 k4 k6 k7 ka;rintro σ'' B' ⟨k1,k2,k3,k4,k6,k7,ka⟩;refine zW ?_;intros;clear hn;generalize hE:List.foldlM (zn s.sources) 0 s.heard=H;have nE:Hid (H=none->uT s=false):=fun h=>by grind [uT]
 refine yV s.heard (zn s.sources) 0 hE 175 [(14,14),(16,16),(175,205)] [(21,21)] (fun j s' τ _=>τ 14=I s'/\0<=s') lh sG sG (fun j x s' τ β hx hj hw hi h3 cH=>?_) fun s' τ β hn hi h3 ha=>?_
 ·obtain⟨h3,h0⟩:=h3;have he:Hid _:=J_ (src:=s.sources) (h:=x) h0;rw[J_ h0]at cH;clear hE gr te vi ki;repeat' first|exact zQ|with_reducible apply zJ<;>intro _|((with_reducible refine dU ?_ (fun _=>?_) fun _=>?_);exact pr)|refine zK ?_|fail
  all_goals first|exact nq.out _ _ (.inr (.inr (nE.out (cH.out zz)))) ag|exact⟨x.at_,he.out.trans zz,rfl,by grind [aX]⟩
 subst ha;refine zW ?_;intros;exact⟨good.out (by rw[<-hQ.out];unfold fI iE uT;simp[*,g1.out,g2.out]),ag⟩
end Go.V.St
namespace Go.V.St
open Go.Proofs Go.Proofs.Tryz Go.RowKit Go.V.Lx Go.V.Gr Go.V.Ty
def PO{e:Nat}{x:D}(bx:ab)(h2:bx 2=⟨e,1,1,39,[x]⟩):vM prog (dD prog) [] f69 5 [.loc 2 e 0 0] bx .ret fun m' bx'=>m'= .ret/\bx'=bx:=by
 refine iG (t:=5) _ _ 14 rfl rfl rfl ar ar (ah (aM 0 [.loc 2 e 0 0]) 5 (.raw .nilIface)) ?_ ?_
 ·exact zE
 ·exact zE
def PN{e:Nat}{x:D}(n:Int)(bx:ab)(c:∀c,ed x 0 [c]=some c)(h2:bx 2=⟨e,1,1,39,[x]⟩):vM prog (dD prog) [] f69 5 [.loc 2 e 0 0] bx (.cd (.bK 39 (I n))) fun m' bx'=>m'= .ret/\bx'=ah bx 2 ⟨e,1,1,39,[I n]⟩:=by
 refine iG (t:=5) _ _ 14 rfl rfl rfl ar ar (ah (aM 0 [.loc 2 e 0 0]) 5 (.bK 39 (I n))) ?_ ?_
 ·exact zE
 ·exact zE
def Z0(s:cP)(h:iU s):El prog (dD prog) [] f32 0 [s.d] (fun _=> .none) (fun d bx'=>∃r,aU bx' d=some r/\bA r (I (eN s))) (fun _ _=>False):=by
 refine rp _ [.cell 2 39] 5 rfl rfl rfl ar ar ?_;refine zW ?_;intros;refine bj (ZZ s h _) rfl (fun d bx1 hq=>?_) (fun d bx1 hq=>?_)
 ·obtain⟨h1,h3⟩:=hq;have b2:=h3 2 rfl;simp only[ah,Bx.none,reduceIte,Nat.reduceEqDiff]at b2;refine zW ?_;intros;refine bM _ (mY (PO _ rfl)) fun m' aT hq=>?_;obtain⟨rfl,rfl⟩:=hq;refine zW ?_;intros;exact⟨_,rfl,.refl _⟩
 ·rcases hq with⟨h1,rfl,h3⟩|⟨h1,rfl,h3⟩
  all_goals
   have b2:=h3 2 rfl;simp only[ah,Bx.none,reduceIte,Nat.reduceEqDiff]at b2;refine zW ?_;intros;refine bM _ (mY (PN _ _ (fun c=>sG) b2)) fun m' aT hq=>?_;obtain⟨rfl,rfl⟩:=hq;refine zW ?_;intros;exact⟨_,rfl,.refl _⟩
instance(s:cP):Ct 32 [s.d] (iU s) (I (eN s)):=⟨fun h=>(SD (Z0 s h)).to (fun _ _ h=>h) fun d' bx' h=>h⟩
end Go.V.St
