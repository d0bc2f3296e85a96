/- Plain laws: B22. -/
import Derived.Test.YtkgloohlmogakaaGreatDoorB19
set_option linter.all false
set_option maxHeartbeats 8000000
set_option maxRecDepth 100000
namespace Go.V.St
open Go.Proofs Go.Proofs.Tryz Go.RowKit Go.V.Lx Go.V.Gr Go.V.Ty
attribute [local go_sem] aW.d
instance(g:aW):Ct 125 [.agg [.str g.name,strs g.au,.str g.start,I g.no,.sl 5 (g.entries.map Entry.d),.sl 5 (g.rules.map aH.d)]] (XM g) (I (jL g)):=⟨fun h=>JN g h.1⟩
instance(l:List cu):Ct 127 [.sl 10 (l.map cu.d)] True (I (jO l)):=⟨fun _=>QF l⟩
instance(bs:List aP)(ts:List bS):Ct 128 [.sl 5 (bs.map aP.d),.sl 7 (ts.map bS.d)] True (I (dU bs ts)):=⟨fun _=>M7 bs ts⟩
instance(l:List cj):Ct 129 [.sl 4 (l.map cj.d)] (∀v∈l,i64 v.kind) (I (eu l)):=⟨fun h=>Pb l h⟩
instance(n:Int):Cq 124 [.sl 1 [I n]] True (decide (n=0)) (.aI []) (nd 540):=⟨fun _ bx=>by
 have:=(inferInstance:Cq 124 [.sl 1 ([n].map I)] _ _ _ _).h (by simp[Lm]) bx;simpa using this⟩
instance(a b c d:Int):Cq 124 [.sl 1 [I a,I b,I c,I d]] True (decide (a=0)&&decide (b=0)&&decide (c=0)&&decide (d=0)) (.aI []) (nd 540):=⟨fun _ bx=>by
 have:=(inferInstance:Cq 124 [.sl 1 ([a,b,c,d].map I)] _ _ _ _).h (by simp[Lm]) bx;simpa[Bool.and_assoc]using this⟩
instance(b:Bool):Cq 124 [.sl 1 [I (if b=true then 0 else 450)]] True b (.aI []) (nd 540):=⟨fun _ bx=>by
 have:=(inferInstance:Cq 124 [.sl 1 ([if b=true then(0:Int)else 450].map I)] _ _ _ _).h (by simp[Lm]) bx;cases b<;>simpa using this⟩
def xM(s:bg)(n:Int)(bx:ae)(d:D)(bx':ae):Prop:=cd s=n/\d=nd n/\di [(5,1000)] bx' bx
def JV{s:bg}(h:(decide (nO s.eh=0)&&decide (jO s.nZ=0)&&decide (dU s.eF s.lj=0)&&decide (eu s.eZ=0))=false):fH s=false\/gd s=false\/kJ s=false:=by
 unfold fH gd;revert h;cases decide (nO s.eh=0)<;>cases decide (jO s.nZ=0)<;>cases decide (dU s.eF s.lj=0)<;>cases decide (eu s.eZ=0)<;>simp
theorem GW{α S:Type}{step:S->α->Option S}:∀ {l:List α} {s0:S},(l.foldlM step s0).isSome=true->∀x∈l,∃s,(step s x).isSome=true
 |[],_,_,x,hx=>by simp at hx
 |y::l,s0,h,x,hx=>by
  rw[List.foldlM_cons]at h;cases hy:step s0 y with
  |none=>rw[hy]at h;simp at h
  |some s1=>
   rw[hy]at h;rcases List.mem_cons.1 hx with rfl|hx
   ·exact⟨s0,by rw[hy];rfl⟩
   ·exact GW (s0:=s1) (by simpa using h) x hx
def MF{l:List Term}(h:nO l=0):∀x∈l,0<=x.cy:=fun x hx=>by
 unfold nO at h;split at h
 ·simp at h
 ·split at h
  ·rename_i h2;obtain⟨s,hs⟩:=GW h2 x hx;unfold vh at hs;split at hs
   ·rename_i h3;simp[vg]at h3;omega
   ·simp at hs
  ·simp at h
def C2{a b:Int}(h:0<=a):aO a 0 (b - 1)=decide (a<b):=by rw[Bool.eq_iff_iff];simp[aO];omega
def Bc{l:List cj}(h:eu l=0):∀x∈l,0<=x.cy:=fun x hx=>by
 unfold eu at h;split at h
 ·simp at h
 ·split at h
  ·rename_i h2;obtain⟨j,hj,rfl⟩:=List.getElem_of_mem hx;have:=h2 j _ (gE hj);simp[lE,gZ]at this;omega
  ·simp at h
theorem DN(n last:Int)(v:cM):q_ n last v=if(g_ v&&aO v.cy 0 (n - 1)&&decide (last<v.no))=true then some v.no else none:=by
 unfold q_;cases h:g_ v with
 |false=>rfl
 |true=>rw[C2 (by simp[g_,aO]at h;omega)]
def KV{s:bg}{v:cj}(h:0<=v.cy):I2 s v=(aO v.cy 0 (s.eG - 1)&&decide (0<=CC v.iQ s.cx)):=by unfold I2;rw[C2 h]
def E3{src a:Int}{h:bn}(ha:0<=a):rI src a h=if(aO h.at_ a 1099511627775&&aO h.src 0 (src - 1)&&aO h.seq 0 1048576&&aO h.jX 0 1099511627775&&aO h.words.length 0 64)=true then some h.at_ else none:=by
 unfold rI CG
 congr 1
 rw[Bool.eq_iff_iff];simp[aO,vj];omega
def Vj{s:bg}{bx bx':ae}(h:(4096:Int)<s.heard.length\/(4096:Int)<s.cx.length)(ha:di [(5,1000)] bx' bx):xM s 2 bx (nd 2) bx'\/xM s 540 bx (nd 2) bx':=.inl ⟨by unfold cd;rw[if_pos h],rfl,ha⟩
def ad6{s:bg}{bx bx':ae}(h1:(s.heard.length:Int)<=4096)(h2:(s.cx.length:Int)<=4096)(h:uu s=false)(ha:di [(5,1000)] bx' bx):xM s 2 bx (nd 540) bx'\/xM s 540 bx (nd 540) bx':=.inr ⟨by unfold cd;rw[if_neg oM,h];rfl,rfl,ha⟩
def Ri(s:bg)(h:fB s)(bx:ae):bj prog 71 5 [s.d] bx (fun _ bx'=>cd s=0/\di [(5,1000)] bx' bx) (fun d bx'=>(xM s 2 bx d bx'\/xM s 540 bx d bx')):=by
 refine aK (fn:=f71) (tab:=[(2000021,[]),(21,[(13,11),(13,8),(10,8),(13,6),(10,6),(13,3),(10,3),(5,3)])]) (base:=5) mixed ?_ rfl ak rfl;refine aL _ [] 206 rfl rfl rfl ak ?_;obtain⟨gr,te,vi,ki,lg,lt,lv,li,lh⟩:=h;by_cases qE:(s.heard.length:Int)<=4096
 rotate_left
 ·repeat' first|exact zQ|with_reducible apply zJ<;>intro _|((with_reducible refine kd ?_ (fun _=>?_) fun _=>?_);exact pr)|refine zK ?_|fail
  all_goals first|contradiction|exact Vj oM ag
 by_cases sC:(s.cx.length:Int)<=4096
 rotate_left
 ·repeat' first|exact zQ|with_reducible apply zJ<;>intro _|((with_reducible refine kd ?_ (fun _=>?_) fun _=>?_);exact pr)|refine zK ?_|fail
  all_goals first|contradiction|exact Vj oM ag
 have b5:Hid (uu s=false->∀bx bx':ae,di [(5,1000)] bx' bx->xM s 2 bx (nd 540) bx'\/xM s 540 bx (nd 540) bx'):=fun h _ _ ha=>ad6 qE sC h ha;have good:Hid (uu s=true->cd s=0):=fun h=>by unfold cd;rw[if_neg oM,h];rfl
 generalize hQ:uu s=Q at *;unfold uu uq at hQ;replace hQ:Hid _:=hQ;repeat' first|exact zQ|with_reducible apply zJ<;>intro _|((with_reducible refine kd ?_ (fun _=>?_) fun _=>?_);exact pr)|refine zK ?_|fail
 all_goals first|contradiction|exact b5.out (by rw[<-hQ.out];simp[*,-aO]) _ _ ag|skip
 generalize hA:List.all [s.chunk,s.quiet,s.qA] (fun n=>aO n 1 1073741824)=A;have yL:(aO s.chunk 1 1073741824&&aO s.quiet 1 1073741824&&aO s.qA 1 1073741824)=A:=by rw[<-hA];simp only[List.all_cons,List.all_nil,Bool.and_true,Bool.and_assoc]
 have b5':Hid (A=false->∀bx bx':ae,di [(5,1000)] bx' bx->xM s 2 bx (nd 540) bx'\/xM s 540 bx (nd 540) bx'):=fun h=>b5.out (by rw[<-hQ.out];revert h;rw[<-yL];cases aO s.chunk 1 1073741824<;>cases aO s.quiet 1 1073741824<;>cases aO s.qA 1 1073741824<;>simp);refine gR [s.chunk,s.quiet,s.qA] hA 50 [(4,4),(50,56)] [] (by simp[Lm]) sG (fun j x τ β hx hj hw hi aQ=>?_) fun τ β hn hi ha=>?_
 ·have hj:(j:Int)<((3:Nat):Int):=hj;have dQ:[I s.chunk,I s.quiet,I s.qA][j]? =some (I x):=by
   have:[I s.chunk,I s.quiet,I s.qA]=[s.chunk,s.quiet,s.qA].map I:=rfl;rw[this,gM,hx];rfl
  clear hx hA yL;repeat' first|exact zQ|with_reducible apply zJ<;>intro _|((with_reducible refine kd ?_ (fun _=>?_) fun _=>?_);exact pr)|refine zK ?_|fail
  exact b5'.out (aQ.out (by assumption)) _ _ ag
 have hn:¬((3:Nat):Int)<((3:Nat):Int):=hn;have hi:τ 50=I ((3:Nat):Int):=hi;subst ha;clear hA b5';repeat' first|exact zQ|with_reducible apply zJ<;>intro _|((with_reducible refine kd ?_ (fun _=>?_) fun _=>?_);exact pr)|refine zK ?_|fail
 all_goals first|contradiction|exact b5.out (by rw[<-hQ.out];simp only[fH,Bool.and_eq_false_iff,decide_eq_false_iff_not];simp[aO]at *;omega) _ _ ag|skip
 have q1:(uq s.sources s.eG s.chunk s.quiet s.late s.qA s.most)=true:=by
  unfold uq;simp only[bA]at yL⊢;exact⟨⟨⟨⟨⟨⟨‹_›,‹_›⟩,yL.1.1⟩,yL.1.2⟩,yL.2⟩,‹_›⟩,‹_›⟩
 have g1:Hid ((s.eK.length:Int)=s.eG):=by have h:= ‹aO (↑s.eK.length) s.eG s.eG=true›;simp[aO]at h;show _=_;omega
 have g2:Hid ((s.eF.length:Int)=s.eG):=by have h:= ‹aO (↑s.eF.length) s.eG s.eG=true›;simp[aO]at h;show _=_;omega
 have gl:1<=s.eG/\s.eG<=32:=by have h:= ‹aO s.eG 1 32=true›;simpa[aO]using h
 have gs:1<=s.sources/\s.sources<=16:=by have h:= ‹aO s.sources 1 16=true›;simpa[aO]using h
 replace hQ:Hid ((fH s&&gd s&&kJ s)=Q):=by
  have:=hQ.out;rw[show(aO s.sources 1 16&&aO s.eG 1 32&&aO s.chunk 1 1073741824&&aO s.quiet 1 1073741824&&aO s.qA 1 1073741824&&aO s.late 0 1073741824&&aO s.most 1 16)=true from q1,Bool.true_and]at this;exact this
 clear yL hn hi;have nq:Hid (∀bx bx':ae,(fH s=false\/gd s=false\/kJ s=false)->di [(5,1000)] bx' bx->xM s 2 bx (nd 540) bx'\/xM s 540 bx (nd 540) bx'):=fun bx bx' h ha=>b5.out (by rw[<-hQ.out];rcases h with h|h|h<;>simp[h]) bx bx' ha;have uP:s.eK.length=s.eF.length:=by have:=g1.out;have:=g2.out;omega
 have hz:(s.eK.zip s.eF).zipIdx.length=s.eK.length:=by simp[List.length_zipIdx,List.length_zip];omega
 replace uP:Hid _:=uP;generalize hA:C7 s=A;have nA:Hid (A=false->fH s=false):=fun h=>by unfold fH;rw[hA,h];simp
 refine gR _ hA 76 [(5,6),(76,96)] [(11,11)] oM sG (fun j x τ β hx hj hw hi aQ=>?_) fun τ β hn hi ha=>?_
 ·obtain⟨h1,h2,h3⟩:=KW hx;rw[hz]at hj;have hg:=gr _ (mG h1);unfold Ga at aQ⊢;obtain⟨⟨g,b⟩,k⟩:=x;simp only at h1 h2 h3 hg aQ⊢;subst h3;clear hx gr hz hA te;rcases k with _|k
  ·have hj:(0:Int)<(s.eK.length:Int):=oM;repeat' first|exact zQ|with_reducible apply zJ<;>intro _|((with_reducible refine kd ?_ (fun _=>?_) fun _=>?_);exact pr)|refine zK ?_|fail
   all_goals first|exact nq.out _ _ (.inl (nA.out (aQ.out zz))) ag|exact⟨by simp,zz⟩|exact zz
  ·have hp:(0:Int)<((k+1:Nat):Int):=oM;repeat' first|exact zQ|with_reducible apply zJ<;>intro _|((with_reducible refine kd ?_ (fun _=>?_) fun _=>?_);exact pr)|refine zK ?_|fail
   all_goals first|exact nq.out _ _ (.inl (nA.out (aQ.out zz))) ag|exact⟨by simp,zz⟩|exact zz
 rw[hz]at hn hi;subst ha;clear hz nA;repeat' first|exact zQ|with_reducible apply zJ<;>intro _|((with_reducible refine kd ?_ (fun _=>?_) fun _=>?_);exact pr)|refine zK ?_|fail
 refine gY (.aY 0 (.load 1 1 (.aY 3 (.load 4 1 (.aY 6 (.load 7 1 (.aY 8 (.load 9 1 (.aY 11 (.load 12 1 (.both 2 [1] (.both 5 [1] (.both 10 [1] (.both 13 [1] (.both 14 [] (.both 15 [] .fin .stop) .stop) .stop) .stop) .stop) .stop))))))))))) ak ?_;repeat' first|exact zQ|with_reducible apply zJ<;>intro _|((with_reducible refine kd ?_ (fun _=>?_) fun _=>?_);exact pr)|refine zK ?_|fail
 all_goals first|exact fun _=>nq.out _ _ (JV (by assumption)) ag|exact nq.out _ _ (JV (by assumption)) ag|skip
 have f4:= ‹(decide (nO s.eh=0)&&decide (jO s.nZ=0)&&decide (dU s.eF s.lj=0)&&decide (eu s.eZ=0))=true›;simp only[bA,decide_eq_true_eq]at f4;obtain⟨⟨⟨t0,h0⟩,b0⟩,v0⟩:=f4;generalize hB:(s.eh.all fun t=>decide (t.cy<s.eG))=B;have nB:Hid (B=false->fH s=false):=fun h=>by unfold fH;rw[hB,h];simp
 refine gR s.eh hB 116 [(8,8),(116,126)] [(13,13)] lt sG (fun j x τ β hx hj hw hi aQ=>?_) fun τ β hn hi ha=>?_
 ·have hl:=MF t0 x (mG hx);clear hA hB gr te vi ki;repeat' first|exact zQ|with_reducible apply zJ<;>intro _|((with_reducible refine kd ?_ (fun _=>?_) fun _=>?_);exact pr)|refine zK ?_|fail
  ·rw[<-C2 hl];assumption
  ·exact nq.out _ _ (.inl (nB.out (aQ.out (by rw[<-C2 hl];assumption)))) ag
 subst ha;clear nB;refine fresh (fun σ' B=>σ' 1= .loc 6 ((bx 6).ep+1) 0 0/\σ' 2= .loc 7 ((bx 7).ep+1) 0 0/\σ' 115=I s.eh.length/\σ' 116=I s.eh.length/\B 6=⟨(bx 6).ep+1,1,15,33,[s.d]⟩/\B 7=⟨(bx 7).ep+1,1,7,23,[.agg [I s.sources,I s.eG,I s.chunk,I s.quiet,I s.late,I s.qA,I s.most]]⟩/\di [(5,1000)] B bx) ⟨by simp[go_sem],by simp[go_sem],by simp[go_sem],by simp[go_sem,hi],by simp[go_sem],by simp[go_sem],ag⟩ ?_;rintro σ' B ⟨k1,k2,k3,k4,k6,k7,ka⟩;clear hi;generalize(bx 6).ep+1=e6 at *;generalize(bx 7).ep+1=e7 at *;repeat' first|exact zQ|with_reducible apply zJ<;>intro _|((with_reducible refine kd ?_ (fun _=>?_) fun _=>?_);exact pr)|refine zK ?_|fail
 generalize hC:List.foldlM (q_ s.eG) (-1) s.cx=C;have nC:Hid (C=none->gd s=false):=fun h=>by unfold gd;rw[hC,h];simp
 refine py s.cx (q_ s.eG) (-1) hC 130 [(9,9),(11,11),(130,151)] [(16,16)] (fun j s' τ _=>τ 9=I s') lv sG sG (fun j x s' τ β hx hj hw hi h3 aQ=>?_) fun s' τ β hn hi h3 ha=>?_
 ·have hv:=vi x (mG hx);have he:Hid _:=DN s.eG s' x;rw[DN]at aQ;clear hC gr te vi ki;repeat' first|exact zQ|with_reducible apply zJ<;>intro _|((with_reducible refine kd ?_ (fun _=>?_) fun _=>?_);exact pr)|refine zK ?_|fail
  all_goals first|exact nq.out _ _ (.inr (.inl (nC.out (aQ.out zz)))) ag|exact⟨x.no,he.out.trans zz,rfl⟩
 subst ha;clear nC;refine fresh (fun σ'' B'=>σ'' 1= .loc 6 e6 0 0/\σ'' 2= .loc 7 e7 0 0/\σ'' 129=I s.cx.length/\σ'' 130=I s.cx.length/\B' 6=⟨e6,1,15,33,[s.d]⟩/\B' 7=⟨e7,1,7,23,[.agg [I s.sources,I s.eG,I s.chunk,I s.quiet,I s.late,I s.qA,I s.most]]⟩/\di [(5,1000)] B' bx) ⟨by simp[go_sem,k1],by simp[go_sem,k2],by simp[go_sem],by simp[go_sem,hi],by simp[go_sem,k6],by simp[go_sem,k7],ag⟩ ?_;clear hi h3 k1 k2 k3 k4 k6 k7 ka;rintro σ'' B' ⟨k1,k2,k3,k4,k6,k7,ka⟩;repeat' first|exact zQ|with_reducible apply zJ<;>intro _|((with_reducible refine kd ?_ (fun _=>?_) fun _=>?_);exact pr)|refine zK ?_|fail
 clear hn;generalize hD:List.all s.eZ (I2 s)=V;have nD:Hid (V=false->gd s=false):=fun h=>by unfold gd;rw[hD,h];simp
 refine gR s.eZ hD 155 [(13,13),(155,171)] [(18,18)] li sG (fun j x τ β hx hj hw hi aQ=>?_) fun τ β hn hi ha=>?_
 ·have he:Hid _:=KV (s:=s) (Bc v0 x (mG hx));rw[KV (Bc v0 x (mG hx))]at aQ;clear hD gr te vi ki;repeat' first|exact zQ|with_reducible apply zJ<;>intro _|((with_reducible refine kd ?_ (fun _=>?_) fun _=>?_);exact pr)|refine zK ?_|fail
  all_goals first|exact nq.out _ _ (.inr (.inl (nD.out (aQ.out zz)))) ag|exact he.out.trans zz
 subst ha;clear nD;refine fresh (fun σ'' B'=>σ'' 1= .loc 6 e6 0 0/\σ'' 2= .loc 7 e7 0 0/\σ'' 154=I s.eZ.length/\σ'' 155=I s.eZ.length/\B' 6=⟨e6,1,15,33,[s.d]⟩/\B' 7=⟨e7,1,7,23,[.agg [I s.sources,I s.eG,I s.chunk,I s.quiet,I s.late,I s.qA,I s.most]]⟩/\di [(5,1000)] B' bx) ⟨by simp[go_sem,k1],by simp[go_sem,k2],by simp[go_sem],by simp[go_sem,hi],by simp[go_sem,k6],by simp[go_sem,k7],ag⟩ ?_;clear hi k1 k2 k3 k4 k6 k7 ka;rintro σ'' B' ⟨k1,k2,k3,k4,k6,k7,ka⟩;repeat' first|exact zQ|with_reducible apply zJ<;>intro _|((with_reducible refine kd ?_ (fun _=>?_) fun _=>?_);exact pr)|refine zK ?_|fail
 clear hn;generalize hE:List.foldlM (rI s.sources) 0 s.heard=H;have nE:Hid (H=none->kJ s=false):=fun h=>by unfold kJ;rw[hE,h];rfl
 refine py s.heard (rI s.sources) 0 hE 175 [(14,14),(16,16),(175,205)] [(21,21)] (fun j s' τ _=>τ 14=I s'/\0<=s') lh sG sG (fun j x s' τ β hx hj hw hi h3 aQ=>?_) fun s' τ β hn hi h3 ha=>?_
 ·obtain⟨h3,h0⟩:=h3;have he:Hid _:=E3 (src:=s.sources) (h:=x) h0;rw[E3 h0]at aQ;clear hE gr te vi ki;repeat' first|exact zQ|with_reducible apply zJ<;>intro _|((with_reducible refine kd ?_ (fun _=>?_) fun _=>?_);exact pr)|refine zK ?_|fail
  all_goals first|exact nq.out _ _ (.inr (.inr (nE.out (aQ.out zz)))) ag|exact⟨x.at_,he.out.trans zz,rfl,by have:= ‹aO x.at_ s' 1099511627775=true›;simp[aO]at this;omega⟩
 subst ha;repeat' first|exact zQ|with_reducible apply zJ<;>intro _|((with_reducible refine kd ?_ (fun _=>?_) fun _=>?_);exact pr)|refine zK ?_|fail
 exact⟨good.out (by rw[<-hQ.out];unfold fH gd kJ;simp[*,g1.out,g2.out]),ag⟩
end Go.V.St
namespace Go.V.St
open Go.Proofs Go.Proofs.Tryz Go.RowKit Go.V.Lx Go.V.Gr Go.V.Ty
def Jy{e:Nat}{x:D}(bx:ae)(h2:bx 2=⟨e,1,1,53,[x]⟩):yI prog (cJ prog) [] f70 5 [.loc 2 e 0 0] bx .ret fun m' bx'=>m'= .ret/\bx'=bx:=by
 refine lV (t:=5) _ _ 14 rfl rfl rfl ak ak (aj (bF 0 [.loc 2 e 0 0]) 5 (.raw .nilIface)) ?_ ?_
 ·repeat' first|exact zQ|with_reducible apply zJ<;>intro _|refine zK ?_
 ·repeat' first|exact zQ|with_reducible apply zJ<;>intro _|refine zK ?_
def Jw{e:Nat}{x:D}(n:Int)(bx:ae)(c:∀c,fl x 0 [c]=some c)(h2:bx 2=⟨e,1,1,53,[x]⟩):yI prog (cJ prog) [] f70 5 [.loc 2 e 0 0] bx (.cX (.dI 53 (I n))) fun m' bx'=>m'= .ret/\bx'=aj bx 2 ⟨e,1,1,53,[I n]⟩:=by
 refine lV (t:=5) _ _ 14 rfl rfl rfl ak ak (aj (bF 0 [.loc 2 e 0 0]) 5 (.dI 53 (I n))) ?_ ?_
 ·repeat' first|exact zQ|with_reducible apply zJ<;>intro _|refine zK ?_
 ·repeat' first|exact zQ|with_reducible apply zJ<;>intro _|refine zK ?_
def Rj(s:bg)(h:fB s):ET prog (cJ prog) [] f34 0 [s.d] (fun _=> .none) (fun d bx'=>∃r,bD bx' d=some r/\bN r (I (cd s))) (fun _ _=>False):=by
 refine rG _ [.cell 2 53] 5 rfl rfl rfl ak ak ?_;repeat' first|exact zQ|with_reducible apply zJ<;>intro _|refine zK ?_
 refine tG (Ri s h _) rfl (fun d bx1 hq=>?_) (fun d bx1 hq=>?_)
 ·obtain⟨h1,h3⟩:=hq;have b2:=h3 2 rfl;simp only[aj,Bx.none,reduceIte,Nat.reduceEqDiff]at b2;repeat' first|exact zQ|with_reducible apply zJ<;>intro _|refine zK ?_
  refine jz _ (wU (Jy _ rfl)) fun m' bK hq=>?_;obtain⟨rfl,rfl⟩:=hq;repeat' first|exact zQ|with_reducible apply zJ<;>intro _|refine zK ?_
  exact⟨_,rfl,.refl _⟩
 ·rcases hq with⟨h1,rfl,h3⟩|⟨h1,rfl,h3⟩
  all_goals
   have b2:=h3 2 rfl;simp only[aj,Bx.none,reduceIte,Nat.reduceEqDiff]at b2;repeat' first|exact zQ|with_reducible apply zJ<;>intro _|refine zK ?_
   refine jz _ (wU (Jw _ _ (fun c=>by simp[go_sem]) b2)) fun m' bK hq=>?_;obtain⟨rfl,rfl⟩:=hq;repeat' first|exact zQ|with_reducible apply zJ<;>intro _|refine zK ?_
   exact⟨_,rfl,.refl _⟩
instance(s:bg):Ct 34 [s.d] (fB s) (I (cd s)):=⟨fun h=>(GV (Rj s h)).to (fun _ _ h=>h) fun d' bx' h=>h⟩
end Go.V.St
