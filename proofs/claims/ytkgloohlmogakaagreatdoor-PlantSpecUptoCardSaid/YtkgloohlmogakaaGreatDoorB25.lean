/- Lemmas on plain data and programs: part B25. -/
import Derived.Test.YtkgloohlmogakaaGreatDoorB22
set_option linter.all false
set_option maxHeartbeats 8000000
set_option maxRecDepth 100000
namespace Go.V.St
open Go.Proofs Go.Proofs.Tryz Go.RowKit Go.V.Lx Go.V.Gr Go.V.Ty
attribute [local go_sem] aS.d
instance(g:aS):Ct 125 [.agg [.str g.name,strs g.au,.str g.start,I g.no,.sl 5 (g.entries.map Entry.d),.sl 5 (g.rules.map aE.d)]] (Xf g) (I (jK g)):=⟨fun h=>Jr g h.1⟩
instance(l:List cj):Ct 127 [.sl 10 (l.map cj.d)] True (I (jN l)):=⟨fun _=>Qa l⟩
instance(bs:List aO)(ts:List bS):Ct 128 [.sl 5 (bs.map aO.d),.sl 7 (ts.map bS.d)] True (I (dM bs ts)):=⟨fun _=>MF bs ts⟩
instance(l:List ca):Ct 129 [.sl 4 (l.map ca.d)] (∀v∈l,i64 v.kind) (I (ej l)):=⟨fun h=>OO l h⟩
instance(n:Int):Cq 124 [.sl 1 [I n]] True (decide (n=0)) (.aL []) (mZ 540):=⟨fun _ bx=>by
 have:=(inferInstance:Cq 124 [.sl 1 ([n].map I)] _ _ _ _).h (by simp[Lm]) bx;simpa using this⟩
instance(a b c d:Int):Cq 124 [.sl 1 [I a,I b,I c,I d]] True (decide (a=0)&&decide (b=0)&&decide (c=0)&&decide (d=0)) (.aL []) (mZ 540):=⟨fun _ bx=>by
 have:=(inferInstance:Cq 124 [.sl 1 ([a,b,c,d].map I)] _ _ _ _).h (by simp[Lm]) bx;simpa[Bool.and_assoc]using this⟩
instance(b:Bool):Cq 124 [.sl 1 [I (if b=true then 0 else 450)]] True b (.aL []) (mZ 540):=⟨fun _ bx=>by
 have:=(inferInstance:Cq 124 [.sl 1 ([if b=true then(0:Int)else 450].map I)] _ _ _ _).h (by simp[Lm]) bx;cases b<;>simpa using this⟩
def xx(s:aV)(n:Int)(bx:ae)(d:D)(bx':ae):Prop:=bQ s=n/\d=mZ n/\du [(5,1000)] bx' bx
def Jz{s:aV}(h:(decide (nI s.dU=0)&&decide (jN s.mN=0)&&decide (dM s.eh s.jX=0)&&decide (ej s.eL=0))=false):fE s=false\/fX s=false\/kC s=false:=by
 unfold fE fX;revert h;cases decide (nI s.dU=0)<;>cases decide (jN s.mN=0)<;>cases decide (dM s.eh s.jX=0)<;>cases decide (ej s.eL=0)<;>simp
theorem GG{α S:Type}{step:S->α->Option S}:∀ {l:List α} {s0:S},(l.foldlM step s0).isSome=true->∀x∈l,∃s,(step s x).isSome=true
 |[],_,_,x,hx=>by simp at hx
 |y::l,s0,h,x,hx=>by
  rw[List.foldlM_cons]at h;cases hy:step s0 y with
  |none=>rw[hy]at h;simp at h
  |some s1=>
   rw[hy]at h;rcases List.mem_cons.1 hx with rfl|hx
   ·exact⟨s0,by rw[hy];rfl⟩
   ·exact GG (s0:=s1) (by simpa using h) x hx
def Md{l:List Term}(h:nI l=0):∀x∈l,0<=x.cw:=fun x hx=>by
 unfold nI at h;split at h
 ·simp at h
 ·split at h
  ·rename_i h2;obtain⟨s,hs⟩:=GG h2 x hx;unfold uQ at hs;split at hs
   ·rename_i h3;simp[uP]at h3;omega
   ·simp at hs
  ·simp at h
def CO{a b:Int}(h:0<=a):aN a 0 (b - 1)=decide (a<b):=by rw[Bool.eq_iff_iff];simp[aN];omega
def AY{l:List ca}(h:ej l=0):∀x∈l,0<=x.cw:=fun x hx=>by
 unfold ej at h;split at h
 ·simp at h
 ·split at h
  ·rename_i h2;obtain⟨j,hj,rfl⟩:=List.getElem_of_mem hx;have:=h2 j _ (gE hj);simp[lq,gW]at this;omega
  ·simp at h
theorem Dy(n last:Int)(v:cy):qK n last v=if(gX v&&aN v.cw 0 (n - 1)&&decide (last<v.no))=true then some v.no else none:=by
 unfold qK;cases h:gX v with
 |false=>rfl
 |true=>rw[CO (by simp[gX,aN]at h;omega)]
def Kv{s:aV}{v:ca}(h:0<=v.cw):IF s v=(aN v.cw 0 (s.er - 1)&&decide (0<=Co v.iP s.cr)):=by unfold IF;rw[CO h]
def EO{src a:Int}{h:bc}(ha:0<=a):rm src a h=if(aN h.at_ a 1099511627775&&aN h.src 0 (src - 1)&&aN h.seq 0 1048576&&aN h.ir 0 1099511627775&&aN h.words.length 0 64)=true then some h.at_ else none:=by
 unfold rm Cu
 congr 1
 rw[Bool.eq_iff_iff];simp[aN,uR];omega
def UQ{s:aV}{bx bx':ae}(h:(4096:Int)<s.heard.length\/(4096:Int)<s.cr.length)(ha:du [(5,1000)] bx' bx):xx s 2 bx (mZ 2) bx'\/xx s 540 bx (mZ 2) bx':=.inl ⟨by unfold bQ;rw[if_pos h],rfl,ha⟩
def adw{s:aV}{bx bx':ae}(h1:(s.heard.length:Int)<=4096)(h2:(s.cr.length:Int)<=4096)(h:ua s=false)(ha:du [(5,1000)] bx' bx):xx s 2 bx (mZ 540) bx'\/xx s 540 bx (mZ 540) bx':=.inr ⟨by unfold bQ;rw[if_neg oM,h];rfl,rfl,ha⟩
def QS(s:aV)(h:eA s)(bx:ae):bj prog 71 5 [s.d] bx (fun _ bx'=>bQ s=0/\du [(5,1000)] bx' bx) (fun d bx'=>(xx s 2 bx d bx'\/xx s 540 bx d bx')):=by
 refine aI (fn:=f71) (tab:=[(2000021,[]),(21,[(13,11),(13,8),(10,8),(13,6),(10,6),(13,3),(10,3),(5,3)])]) (base:=5) mixed ?_ rfl aj rfl;refine aJ _ [] 206 rfl rfl rfl aj ?_;obtain⟨gr,te,vi,ki,lg,lt,lv,li,lh⟩:=h;by_cases qm:(s.heard.length:Int)<=4096
 rotate_left
 ·repeat' first|exact zQ|with_reducible apply zJ<;>intro _|((with_reducible refine j8 ?_ (fun _=>?_) fun _=>?_);exact pr)|refine zK ?_|fail
  all_goals first|contradiction|exact UQ oM ag
 by_cases uA:(s.cr.length:Int)<=4096
 rotate_left
 ·repeat' first|exact zQ|with_reducible apply zJ<;>intro _|((with_reducible refine j8 ?_ (fun _=>?_) fun _=>?_);exact pr)|refine zK ?_|fail
  all_goals first|contradiction|exact UQ oM ag
 have b5:Hid (ua s=false->∀bx bx':ae,du [(5,1000)] bx' bx->xx s 2 bx (mZ 540) bx'\/xx s 540 bx (mZ 540) bx'):=fun h _ _ ha=>adw qm uA h ha;have good:Hid (ua s=true->bQ s=0):=fun h=>by unfold bQ;rw[if_neg oM,h];rfl
 generalize hQ:ua s=Q at *;unfold ua tZ at hQ;replace hQ:Hid _:=hQ;repeat' first|exact zQ|with_reducible apply zJ<;>intro _|((with_reducible refine j8 ?_ (fun _=>?_) fun _=>?_);exact pr)|refine zK ?_|fail
 all_goals first|contradiction|exact b5.out (by rw[<-hQ.out];simp[*,-aN]) _ _ ag|skip
 generalize hA:List.all [s.chunk,s.quiet,s.pL] (fun n=>aN n 1 1073741824)=A;have yp:(aN s.chunk 1 1073741824&&aN s.quiet 1 1073741824&&aN s.pL 1 1073741824)=A:=by rw[<-hA];simp only[List.all_cons,List.all_nil,Bool.and_true,Bool.and_assoc]
 have b5':Hid (A=false->∀bx bx':ae,du [(5,1000)] bx' bx->xx s 2 bx (mZ 540) bx'\/xx s 540 bx (mZ 540) bx'):=fun h=>b5.out (by rw[<-hQ.out];revert h;rw[<-yp];cases aN s.chunk 1 1073741824<;>cases aN s.quiet 1 1073741824<;>cases aN s.pL 1 1073741824<;>simp);refine gR [s.chunk,s.quiet,s.pL] hA 50 [(4,4),(50,56)] [] (by simp[Lm]) sG (fun j x τ β hx hj hw hi aP=>?_) fun τ β hn hi ha=>?_
 ·have hj:(j:Int)<((3:Nat):Int):=hj;have dJ:[I s.chunk,I s.quiet,I s.pL][j]? =some (I x):=by
   have:[I s.chunk,I s.quiet,I s.pL]=[s.chunk,s.quiet,s.pL].map I:=rfl;rw[this,gM,hx];rfl
  clear hx hA yp;repeat' first|exact zQ|with_reducible apply zJ<;>intro _|((with_reducible refine j8 ?_ (fun _=>?_) fun _=>?_);exact pr)|refine zK ?_|fail
  exact b5'.out (aP.out (by assumption)) _ _ ag
 have hn:¬((3:Nat):Int)<((3:Nat):Int):=hn;have hi:τ 50=I ((3:Nat):Int):=hi;subst ha;clear hA b5';repeat' first|exact zQ|with_reducible apply zJ<;>intro _|((with_reducible refine j8 ?_ (fun _=>?_) fun _=>?_);exact pr)|refine zK ?_|fail
 all_goals first|contradiction|exact b5.out (by rw[<-hQ.out];simp only[fE,Bool.and_eq_false_iff,decide_eq_false_iff_not];simp[aN]at *;omega) _ _ ag|skip
 have q1:(tZ s.sources s.er s.chunk s.quiet s.late s.pL s.most)=true:=by
  unfold tZ;simp only[bA]at yp⊢;exact⟨⟨⟨⟨⟨⟨‹_›,‹_›⟩,yp.1.1⟩,yp.1.2⟩,yp.2⟩,‹_›⟩,‹_›⟩
 have g1:Hid ((s.eD.length:Int)=s.er):=by have h:= ‹aN (↑s.eD.length) s.er s.er=true›;simp[aN]at h;show _=_;omega
 have g2:Hid ((s.eh.length:Int)=s.er):=by have h:= ‹aN (↑s.eh.length) s.er s.er=true›;simp[aN]at h;show _=_;omega
 have gl:1<=s.er/\s.er<=32:=by have h:= ‹aN s.er 1 32=true›;simpa[aN]using h
 have gs:1<=s.sources/\s.sources<=16:=by have h:= ‹aN s.sources 1 16=true›;simpa[aN]using h
 replace hQ:Hid ((fE s&&fX s&&kC s)=Q):=by
  have:=hQ.out;rw[show(aN s.sources 1 16&&aN s.er 1 32&&aN s.chunk 1 1073741824&&aN s.quiet 1 1073741824&&aN s.pL 1 1073741824&&aN s.late 0 1073741824&&aN s.most 1 16)=true from q1,Bool.true_and]at this;exact this
 clear yp hn hi;have nq:Hid (∀bx bx':ae,(fE s=false\/fX s=false\/kC s=false)->du [(5,1000)] bx' bx->xx s 2 bx (mZ 540) bx'\/xx s 540 bx (mZ 540) bx'):=fun bx bx' h ha=>b5.out (by rw[<-hQ.out];rcases h with h|h|h<;>simp[h]) bx bx' ha;have uw:s.eD.length=s.eh.length:=by have:=g1.out;have:=g2.out;omega
 have hz:(s.eD.zip s.eh).zipIdx.length=s.eD.length:=by simp[List.length_zipIdx,List.length_zip];omega
 replace uw:Hid _:=uw;generalize hA:CT s=A;have nA:Hid (A=false->fE s=false):=fun h=>by unfold fE;rw[hA,h];simp
 refine gR _ hA 76 [(5,6),(76,96)] [(11,11)] oM sG (fun j x τ β hx hj hw hi aP=>?_) fun τ β hn hi ha=>?_
 ·obtain⟨h1,h2,h3⟩:=Kw hx;rw[hz]at hj;have hg:=gr _ (mG h1);unfold FR at aP⊢;obtain⟨⟨g,b⟩,k⟩:=x;simp only at h1 h2 h3 hg aP⊢;subst h3;clear hx gr hz hA te;rcases k with _|k
  ·have hj:(0:Int)<(s.eD.length:Int):=oM;repeat' first|exact zQ|with_reducible apply zJ<;>intro _|((with_reducible refine j8 ?_ (fun _=>?_) fun _=>?_);exact pr)|refine zK ?_|fail
   all_goals first|exact nq.out _ _ (.inl (nA.out (aP.out zz))) ag|exact⟨by simp,zz⟩|exact zz
  ·have hp:(0:Int)<((k+1:Nat):Int):=oM;repeat' first|exact zQ|with_reducible apply zJ<;>intro _|((with_reducible refine j8 ?_ (fun _=>?_) fun _=>?_);exact pr)|refine zK ?_|fail
   all_goals first|exact nq.out _ _ (.inl (nA.out (aP.out zz))) ag|exact⟨by simp,zz⟩|exact zz
 rw[hz]at hn hi;subst ha;clear hz nA;repeat' first|exact zQ|with_reducible apply zJ<;>intro _|((with_reducible refine j8 ?_ (fun _=>?_) fun _=>?_);exact pr)|refine zK ?_|fail
 refine iS (.bm 0 (.load 1 1 (.bm 3 (.load 4 1 (.bm 6 (.load 7 1 (.bm 8 (.load 9 1 (.bm 11 (.load 12 1 (.both 2 [1] (.both 5 [1] (.both 10 [1] (.both 13 [1] (.both 14 [] (.both 15 [] .fin .stop) .stop) .stop) .stop) .stop) .stop))))))))))) aj ?_;repeat' first|exact zQ|with_reducible apply zJ<;>intro _|((with_reducible refine j8 ?_ (fun _=>?_) fun _=>?_);exact pr)|refine zK ?_|fail
 all_goals first|exact fun _=>nq.out _ _ (Jz (by assumption)) ag|exact nq.out _ _ (Jz (by assumption)) ag|skip
 have f4:= ‹(decide (nI s.dU=0)&&decide (jN s.mN=0)&&decide (dM s.eh s.jX=0)&&decide (ej s.eL=0))=true›;simp only[bA,decide_eq_true_eq]at f4;obtain⟨⟨⟨t0,h0⟩,b0⟩,v0⟩:=f4;generalize hB:(s.dU.all fun t=>decide (t.cw<s.er))=B;have nB:Hid (B=false->fE s=false):=fun h=>by unfold fE;rw[hB,h];simp
 refine gR s.dU hB 116 [(8,8),(116,126)] [(13,13)] lt sG (fun j x τ β hx hj hw hi aP=>?_) fun τ β hn hi ha=>?_
 ·have hl:=Md t0 x (mG hx);clear hA hB gr te vi ki;repeat' first|exact zQ|with_reducible apply zJ<;>intro _|((with_reducible refine j8 ?_ (fun _=>?_) fun _=>?_);exact pr)|refine zK ?_|fail
  ·rw[<-CO hl];assumption
  ·exact nq.out _ _ (.inl (nB.out (aP.out (by rw[<-CO hl];assumption)))) ag
 subst ha;clear nB;refine fresh (fun σ' B=>σ' 1= .loc 6 ((bx 6).ep+1) 0 0/\σ' 2= .loc 7 ((bx 7).ep+1) 0 0/\σ' 115=I s.dU.length/\σ' 116=I s.dU.length/\B 6=⟨(bx 6).ep+1,1,15,33,[s.d]⟩/\B 7=⟨(bx 7).ep+1,1,7,23,[.agg [I s.sources,I s.er,I s.chunk,I s.quiet,I s.late,I s.pL,I s.most]]⟩/\du [(5,1000)] B bx) ⟨by simp[go_sem],by simp[go_sem],by simp[go_sem],by simp[go_sem,hi],by simp[go_sem],by simp[go_sem],ag⟩ ?_;rintro σ' B ⟨k1,k2,k3,k4,k6,k7,ka⟩;clear hi;generalize(bx 6).ep+1=e6 at *;generalize(bx 7).ep+1=e7 at *;repeat' first|exact zQ|with_reducible apply zJ<;>intro _|((with_reducible refine j8 ?_ (fun _=>?_) fun _=>?_);exact pr)|refine zK ?_|fail
 generalize hC:List.foldlM (qK s.er) (-1) s.cr=C;have nC:Hid (C=none->fX s=false):=fun h=>by unfold fX;rw[hC,h];simp
 refine o_ s.cr (qK s.er) (-1) hC 130 [(9,9),(11,11),(130,151)] [(16,16)] (fun j s' τ _=>τ 9=I s') lv sG sG (fun j x s' τ β hx hj hw hi h3 aP=>?_) fun s' τ β hn hi h3 ha=>?_
 ·have hv:=vi x (mG hx);have he:Hid _:=Dy s.er s' x;rw[Dy]at aP;clear hC gr te vi ki;repeat' first|exact zQ|with_reducible apply zJ<;>intro _|((with_reducible refine j8 ?_ (fun _=>?_) fun _=>?_);exact pr)|refine zK ?_|fail
  all_goals first|exact nq.out _ _ (.inr (.inl (nC.out (aP.out zz)))) ag|exact⟨x.no,he.out.trans zz,rfl⟩
 subst ha;clear nC;refine fresh (fun σ'' B'=>σ'' 1= .loc 6 e6 0 0/\σ'' 2= .loc 7 e7 0 0/\σ'' 129=I s.cr.length/\σ'' 130=I s.cr.length/\B' 6=⟨e6,1,15,33,[s.d]⟩/\B' 7=⟨e7,1,7,23,[.agg [I s.sources,I s.er,I s.chunk,I s.quiet,I s.late,I s.pL,I s.most]]⟩/\du [(5,1000)] B' bx) ⟨by simp[go_sem,k1],by simp[go_sem,k2],by simp[go_sem],by simp[go_sem,hi],by simp[go_sem,k6],by simp[go_sem,k7],ag⟩ ?_;clear hi h3 k1 k2 k3 k4 k6 k7 ka;rintro σ'' B' ⟨k1,k2,k3,k4,k6,k7,ka⟩;repeat' first|exact zQ|with_reducible apply zJ<;>intro _|((with_reducible refine j8 ?_ (fun _=>?_) fun _=>?_);exact pr)|refine zK ?_|fail
 clear hn;generalize hD:List.all s.eL (IF s)=V;have nD:Hid (V=false->fX s=false):=fun h=>by unfold fX;rw[hD,h];simp
 refine gR s.eL hD 155 [(13,13),(155,171)] [(18,18)] li sG (fun j x τ β hx hj hw hi aP=>?_) fun τ β hn hi ha=>?_
 ·have he:Hid _:=Kv (s:=s) (AY v0 x (mG hx));rw[Kv (AY v0 x (mG hx))]at aP;clear hD gr te vi ki;repeat' first|exact zQ|with_reducible apply zJ<;>intro _|((with_reducible refine j8 ?_ (fun _=>?_) fun _=>?_);exact pr)|refine zK ?_|fail
  all_goals first|exact nq.out _ _ (.inr (.inl (nD.out (aP.out zz)))) ag|exact he.out.trans zz
 subst ha;clear nD;refine fresh (fun σ'' B'=>σ'' 1= .loc 6 e6 0 0/\σ'' 2= .loc 7 e7 0 0/\σ'' 154=I s.eL.length/\σ'' 155=I s.eL.length/\B' 6=⟨e6,1,15,33,[s.d]⟩/\B' 7=⟨e7,1,7,23,[.agg [I s.sources,I s.er,I s.chunk,I s.quiet,I s.late,I s.pL,I s.most]]⟩/\du [(5,1000)] B' bx) ⟨by simp[go_sem,k1],by simp[go_sem,k2],by simp[go_sem],by simp[go_sem,hi],by simp[go_sem,k6],by simp[go_sem,k7],ag⟩ ?_;clear hi k1 k2 k3 k4 k6 k7 ka;rintro σ'' B' ⟨k1,k2,k3,k4,k6,k7,ka⟩;repeat' first|exact zQ|with_reducible apply zJ<;>intro _|((with_reducible refine j8 ?_ (fun _=>?_) fun _=>?_);exact pr)|refine zK ?_|fail
 clear hn;generalize hE:List.foldlM (rm s.sources) 0 s.heard=H;have nE:Hid (H=none->kC s=false):=fun h=>by unfold kC;rw[hE,h];rfl
 refine o_ s.heard (rm s.sources) 0 hE 175 [(14,14),(16,16),(175,205)] [(21,21)] (fun j s' τ _=>τ 14=I s'/\0<=s') lh sG sG (fun j x s' τ β hx hj hw hi h3 aP=>?_) fun s' τ β hn hi h3 ha=>?_
 ·obtain⟨h3,h0⟩:=h3;have he:Hid _:=EO (src:=s.sources) (h:=x) h0;rw[EO h0]at aP;clear hE gr te vi ki;repeat' first|exact zQ|with_reducible apply zJ<;>intro _|((with_reducible refine j8 ?_ (fun _=>?_) fun _=>?_);exact pr)|refine zK ?_|fail
  all_goals first|exact nq.out _ _ (.inr (.inr (nE.out (aP.out zz)))) ag|exact⟨x.at_,he.out.trans zz,rfl,by have:= ‹aN x.at_ s' 1099511627775=true›;simp[aN]at this;omega⟩
 subst ha;repeat' first|exact zQ|with_reducible apply zJ<;>intro _|((with_reducible refine j8 ?_ (fun _=>?_) fun _=>?_);exact pr)|refine zK ?_|fail
 exact⟨good.out (by rw[<-hQ.out];unfold fE fX kC;simp[*,g1.out,g2.out]),ag⟩
end Go.V.St
namespace Go.V.St
open Go.Proofs Go.Proofs.Tryz Go.RowKit Go.V.Lx Go.V.Gr Go.V.Ty
def Jb{e:Nat}{x:D}(bx:ae)(h2:bx 2=⟨e,1,1,53,[x]⟩):yk prog (cJ prog) [] f70 5 [.loc 2 e 0 0] bx .ret fun m' bx'=>m'= .ret/\bx'=bx:=by
 refine lO (t:=5) _ _ 14 rfl rfl rfl aj aj (ak (bB 0 [.loc 2 e 0 0]) 5 (.raw .nilIface)) ?_ ?_
 ·repeat' first|exact zQ|with_reducible apply zJ<;>intro _|refine zK ?_
 ·repeat' first|exact zQ|with_reducible apply zJ<;>intro _|refine zK ?_
def Ja{e:Nat}{x:D}(n:Int)(bx:ae)(c:∀c,fi x 0 [c]=some c)(h2:bx 2=⟨e,1,1,53,[x]⟩):yk prog (cJ prog) [] f70 5 [.loc 2 e 0 0] bx (.cU (.dB 53 (I n))) fun m' bx'=>m'= .ret/\bx'=ak bx 2 ⟨e,1,1,53,[I n]⟩:=by
 refine lO (t:=5) _ _ 14 rfl rfl rfl aj aj (ak (bB 0 [.loc 2 e 0 0]) 5 (.dB 53 (I n))) ?_ ?_
 ·repeat' first|exact zQ|with_reducible apply zJ<;>intro _|refine zK ?_
 ·repeat' first|exact zQ|with_reducible apply zJ<;>intro _|refine zK ?_
def QT(s:aV)(h:eA s):EF prog (cJ prog) [] f34 0 [s.d] (fun _=> .none) (fun d bx'=>∃r,bz bx' d=some r/\bN r (I (bQ s))) (fun _ _=>False):=by
 refine rk _ [.cell 2 53] 5 rfl rfl rfl aj aj ?_;repeat' first|exact zQ|with_reducible apply zJ<;>intro _|refine zK ?_
 refine s_ (QS s h _) rfl (fun d bx1 hq=>?_) (fun d bx1 hq=>?_)
 ·obtain⟨h1,h3⟩:=hq;have b2:=h3 2 rfl;simp only[ak,Bx.none,reduceIte,Nat.reduceEqDiff]at b2;repeat' first|exact zQ|with_reducible apply zJ<;>intro _|refine zK ?_
  refine jw _ (wz (Jb _ rfl)) fun m' bK hq=>?_;obtain⟨rfl,rfl⟩:=hq;repeat' first|exact zQ|with_reducible apply zJ<;>intro _|refine zK ?_
  exact⟨_,rfl,.refl _⟩
 ·rcases hq with⟨h1,rfl,h3⟩|⟨h1,rfl,h3⟩
  all_goals
   have b2:=h3 2 rfl;simp only[ak,Bx.none,reduceIte,Nat.reduceEqDiff]at b2;repeat' first|exact zQ|with_reducible apply zJ<;>intro _|refine zK ?_
   refine jw _ (wz (Ja _ _ (fun c=>by simp[go_sem]) b2)) fun m' bK hq=>?_;obtain⟨rfl,rfl⟩:=hq;repeat' first|exact zQ|with_reducible apply zJ<;>intro _|refine zK ?_
   exact⟨_,rfl,.refl _⟩
instance(s:aV):Ct 34 [s.d] (eA s) (I (bQ s)):=⟨fun h=>(GF (QT s h)).to (fun _ _ h=>h) fun d' bx' h=>h⟩
end Go.V.St
