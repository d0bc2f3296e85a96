/- Sittings: the program's check. -/
import Derived.Test.YtkgloohlmogakaaGreatDoorB27
set_option linter.unusedSimpArgs false
set_option linter.unusedVariables false
set_option maxRecDepth 100000
namespace Go.V.St
open Go.Proofs Go.RowKit Go.V.Lx Go.V.Gr Go.V.Ty
attribute [local go_sem] aO.d
instance(g:aO):Ct Tryz.prog 125 [.agg [.str g.name,strs g.cats,.str g.start,I g.no,.sl 5 (g.entries.map Entry.d),.sl 5 (g.rules.map aC.d)]] (MA g) (I (fT g)):=⟨fun h=>sY g h.1⟩
instance(l:List bE):Ct Tryz.prog 127 [.sl 10 (l.map bE.d)] True (I (fV l)):=⟨fun _=>HA l⟩
instance(bs:List aJ)(ts:List bo):Ct Tryz.prog 128 [.sl 5 (bs.map aJ.d),.sl 7 (ts.map bo.d)] True (I (cu bs ts)):=⟨fun _=>EJ bs ts⟩
instance(l:List aT):Ct Tryz.prog 129 [.sl 4 (l.map aT.d)] (∀v∈l,i64 v.kind) (I (cF l)):=⟨fun h=>Gq l h⟩
instance(n:Int):Cq Tryz.prog 124 [.sl 1 [I n]] True (decide (n=0)) (.tup []) (ji 540):=⟨fun _ bx=>by
 have:=(inferInstance:Cq Tryz.prog 124 [.sl 1 ([n].map I)] _ _ _ _).h (by simp[Lm]) bx;simpa using this⟩
instance(a b c d:Int):Cq Tryz.prog 124 [.sl 1 [I a,I b,I c,I d]] True (decide (a=0)&&decide (b=0)&&decide (c=0)&&decide (d=0)) (.tup []) (ji 540):=⟨fun _ bx=>by
 have:=(inferInstance:Cq Tryz.prog 124 [.sl 1 ([a,b,c,d].map I)] _ _ _ _).h (by simp[Lm]) bx;simpa[Bool.and_assoc]using this⟩
instance(b:Bool):Cq Tryz.prog 124 [.sl 1 [I (if b=true then 0 else 450)]] True b (.tup []) (ji 540):=⟨fun _ bx=>by
 have:=(inferInstance:Cq Tryz.prog 124 [.sl 1 ([if b=true then(0:Int)else 450].map I)] _ _ _ _).h (by simp[Lm]) bx;cases b<;>simpa using this⟩
def rp(s:aN)(n:Int)(bx:ae)(d:D)(bx':ae):Prop:=bg s=n/\d=ji n/\cd [(5,1000)] bx' bx
theorem Cj{s:aN}(h:(decide (jC s.terms=0)&&decide (fV s.house=0)&&decide (cu s.budgets s.trades=0)&&decide (cF s.visits=0))=false):dQ s=false\/ed s=false\/gI s=false:=by
 unfold dQ ed;revert h;cases decide (jC s.terms=0)<;>cases decide (fV s.house=0)<;>cases decide (cu s.budgets s.trades=0)<;>cases decide (cF s.visits=0)<;>simp
theorem zR{α S:Type}{step:S->α->Option S}:∀ {l:List α} {s0:S},(l.foldlM step s0).isSome=true->∀x∈l,∃s,(step s x).isSome=true
 |[],_,_,x,hx=>by simp at hx
 |y::l,s0,h,x,hx=>by
  rw[List.foldlM_cons]at h;cases hy:step s0 y with
  |none=>rw[hy]at h;simp at h
  |some s1=>
   rw[hy]at h;rcases List.mem_cons.1 hx with rfl|hx
   ·exact⟨s0,by rw[hy];rfl⟩
   ·exact zR (s0:=s1) (by simpa using h) x hx
theorem Em{l:List Term}(h:jC l=0):∀x∈l,0<=x.lang:=fun x hx=>by
 unfold jC at h;split at h
 ·simp at h
 ·split at h
  ·rename_i h2;obtain⟨s,hs⟩:=zR h2 x hx;unfold pj at hs;split at hs
   ·rename_i h3;simp[ph]at h3;omega
   ·simp at hs
  ·simp at h
theorem vr{a b:Int}(h:0<=a):aL a 0 (b - 1)=decide (a<b):=by rw[Bool.eq_iff_iff];simp[aL];omega
theorem tT{l:List aT}(h:cF l=0):∀x∈l,0<=x.lang:=fun x hx=>by
 unfold cF at h;split at h
 ·simp at h
 ·split at h
  ·rename_i h2;obtain⟨j,hj,rfl⟩:=List.getElem_of_mem hx;have:=h2 j _ (List.getElem?_eq_getElem hj);simp[hZ,eJ]at this;omega
  ·simp at h
theorem wx(n last:Int)(v:bL):lU n last v=if(eK v&&aL v.lang 0 (n - 1)&&decide (last<v.no))=true then some v.no else none:=by
 unfold lU;cases h:eK v with
 |false=>rfl
 |true=>rw[vr (by simp[eK,aL]at h;omega)]
theorem CX{s:aN}{v:aT}(h:0<=v.lang):Bl s v=(aL v.lang 0 (s.langs - 1)&&decide (0<=vj v.who s.viewers)):=by unfold Bl;rw[vr h]
theorem xH{src a:Int}{h:aD}(ha:0<=a):mA src a h=if(aL h.at_ a 1099511627775&&aL h.src 0 (src - 1)&&aL h.seq 0 1048576&&aL h.sent 0 1099511627775&&aL h.words.length 0 64)=true then some h.at_ else none:=by
 unfold mA vo
 congr 1
 rw[Bool.eq_iff_iff];simp[aL,pk];omega
theorem Lh{s:aN}{bx bx':ae}(h:(4096:Int)<s.heard.length\/(4096:Int)<s.viewers.length)(ha:cd [(5,1000)] bx' bx):rp s 2 bx (ji 2) bx'\/rp s 540 bx (ji 2) bx':=.inl ⟨by unfold bg;rw[if_pos h],rfl,ha⟩
theorem Ry{s:aN}{bx bx':ae}(h1:(s.heard.length:Int)<=4096)(h2:(s.viewers.length:Int)<=4096)(h:oD s=false)(ha:cd [(5,1000)] bx' bx):rp s 2 bx (ji 540) bx'\/rp s 540 bx (ji 540) bx':=.inr ⟨by unfold bg;rw[if_neg oM,h];rfl,rfl,ha⟩
set_option maxHeartbeats 8000000 in
theorem Ic(s:aN)(h:cX s)(bx:ae):aU Tryz.prog 71 5 [s.d] bx (fun _ bx'=>bg s=0/\cd [(5,1000)] bx' bx) (fun d bx'=>(rp s 2 bx d bx'\/rp s 540 bx d bx')):=by
 refine aG (fn:=Tryz.f71) (tab:=[(2000021,[]),(21,[(13,11),(13,8),(10,8),(13,6),(10,6),(13,3),(10,3),(5,3)])]) (base:=5) mixed ?_ rfl aj rfl;refine aH _ [] 206 rfl rfl rfl aj ?_;obtain⟨gr,te,vi,ki,lg,lt,lv,li,lh⟩:=h;by_cases hs1:(s.heard.length:Int)<=4096
 rotate_left
 ·repeat' first|exact zQ|with_reducible refine zJ (fun _=>?_) fun _=>?_|((with_reducible refine gu ?_ (fun _=>?_) fun _=>?_);exact pr)|refine zK ?_|fail
  all_goals first|contradiction|exact Lh oM ag
 by_cases hs2:(s.viewers.length:Int)<=4096
 rotate_left
 ·repeat' first|exact zQ|with_reducible refine zJ (fun _=>?_) fun _=>?_|((with_reducible refine gu ?_ (fun _=>?_) fun _=>?_);exact pr)|refine zK ?_|fail
  all_goals first|contradiction|exact Lh oM ag
 have b5:Hid (oD s=false->∀bx bx':ae,cd [(5,1000)] bx' bx->rp s 2 bx (ji 540) bx'\/rp s 540 bx (ji 540) bx'):=fun h _ _ ha=>Ry hs1 hs2 h ha;have good:Hid (oD s=true->bg s=0):=fun h=>by unfold bg;rw[if_neg oM,h];rfl
 generalize hQ:oD s=Q at *;unfold oD oB at hQ;replace hQ:Hid _:=hQ;repeat' first|exact zQ|with_reducible refine zJ (fun _=>?_) fun _=>?_|((with_reducible refine gu ?_ (fun _=>?_) fun _=>?_);exact pr)|refine zK ?_|fail
 all_goals first|contradiction|exact b5.out (by rw[<-hQ.out];simp[*,-aL]) _ _ ag|skip
 generalize hA:List.all [s.chunk,s.quiet,s.gap] (fun n=>aL n 1 1073741824)=A;have hA':(aL s.chunk 1 1073741824&&aL s.quiet 1 1073741824&&aL s.gap 1 1073741824)=A:=by rw[<-hA];simp only[List.all_cons,List.all_nil,Bool.and_true,Bool.and_assoc]
 have b5':Hid (A=false->∀bx bx':ae,cd [(5,1000)] bx' bx->rp s 2 bx (ji 540) bx'\/rp s 540 bx (ji 540) bx'):=fun h=>b5.out (by rw[<-hQ.out];revert h;rw[<-hA'];cases aL s.chunk 1 1073741824<;>cases aL s.quiet 1 1073741824<;>cases aL s.gap 1 1073741824<;>simp);refine fS [s.chunk,s.quiet,s.gap] hA 50 [(4,4),(50,56)] [] (by simp[Lm]) sG (fun j x τ β hx hj hw hi hno=>?_) fun τ β hn hi ha=>?_
 ·have hj:(j:Int)<((3:Nat):Int):=hj;have hx':[I s.chunk,I s.quiet,I s.gap][j]? =some (I x):=by
   have:[I s.chunk,I s.quiet,I s.gap]=[s.chunk,s.quiet,s.gap].map I:=rfl;rw[this,List.getElem?_map,hx];rfl
  clear hx hA hA';repeat' first|exact zQ|with_reducible refine zJ (fun _=>?_) fun _=>?_|((with_reducible refine gu ?_ (fun _=>?_) fun _=>?_);exact pr)|refine zK ?_|fail
  exact b5'.out (hno.out (by assumption)) _ _ ag
 have hn:¬((3:Nat):Int)<((3:Nat):Int):=hn;have hi:τ 50=I ((3:Nat):Int):=hi;subst ha;clear hA b5';repeat' first|exact zQ|with_reducible refine zJ (fun _=>?_) fun _=>?_|((with_reducible refine gu ?_ (fun _=>?_) fun _=>?_);exact pr)|refine zK ?_|fail
 all_goals first|contradiction|exact b5.out (by rw[<-hQ.out];simp only[dQ,Bool.and_eq_false_iff,decide_eq_false_iff_not];simp[aL]at *;omega) _ _ ag|skip
 have q1:(oB s.sources s.langs s.chunk s.quiet s.late s.gap s.most)=true:=by
  unfold oB;simp only[Bool.and_eq_true]at hA'⊢;exact⟨⟨⟨⟨⟨⟨‹_›,‹_›⟩,hA'.1.1⟩,hA'.1.2⟩,hA'.2⟩,‹_›⟩,‹_›⟩
 have g1:Hid ((s.grams.length:Int)=s.langs):=by have h:= ‹aL (↑s.grams.length) s.langs s.langs=true›;simp[aL]at h;show _=_;omega
 have g2:Hid ((s.budgets.length:Int)=s.langs):=by have h:= ‹aL (↑s.budgets.length) s.langs s.langs=true›;simp[aL]at h;show _=_;omega
 have gl:1<=s.langs/\s.langs<=32:=by have h:= ‹aL s.langs 1 32=true›;simpa[aL]using h
 have gs:1<=s.sources/\s.sources<=16:=by have h:= ‹aL s.sources 1 16=true›;simpa[aL]using h
 replace hQ:Hid ((dQ s&&ed s&&gI s)=Q):=by
  have:=hQ.out;rw[show(aL s.sources 1 16&&aL s.langs 1 32&&aL s.chunk 1 1073741824&&aL s.quiet 1 1073741824&&aL s.gap 1 1073741824&&aL s.late 0 1073741824&&aL s.most 1 16)=true from q1,Bool.true_and]at this;exact this
 clear hA' hn hi;have nq:Hid (∀bx bx':ae,(dQ s=false\/ed s=false\/gI s=false)->cd [(5,1000)] bx' bx->rp s 2 bx (ji 540) bx'\/rp s 540 bx (ji 540) bx'):=fun bx bx' h ha=>b5.out (by rw[<-hQ.out];rcases h with h|h|h<;>simp[h]) bx bx' ha;have hgb:s.grams.length=s.budgets.length:=by have:=g1.out;have:=g2.out;omega
 have hz:(s.grams.zip s.budgets).zipIdx.length=s.grams.length:=by simp[List.length_zipIdx,List.length_zip];omega
 replace hgb:Hid _:=hgb;generalize hA:vA s=A;have nA:Hid (A=false->dQ s=false):=fun h=>by unfold dQ;rw[hA,h];simp
 refine fS _ hA 76 [(5,6),(76,96)] [(11,11)] oM sG (fun j x τ β hx hj hw hi hno=>?_) fun τ β hn hi ha=>?_
 ·obtain⟨h1,h2,h3⟩:=CZ hx;rw[hz]at hj;have hg:=gr _ (List.mem_of_getElem? h1);unfold yR at hno⊢;obtain⟨⟨g,b⟩,k⟩:=x;simp only at h1 h2 h3 hg hno⊢;subst h3;clear hx gr hz hA te;rcases k with _|k
  ·have hj:(0:Int)<(s.grams.length:Int):=oM;repeat' first|exact zQ|with_reducible refine zJ (fun _=>?_) fun _=>?_|((with_reducible refine gu ?_ (fun _=>?_) fun _=>?_);exact pr)|refine zK ?_|fail
   all_goals first|exact nq.out _ _ (.inl (nA.out (hno.out zz))) ag|exact⟨by simp,zz⟩|exact zz
  ·have hp:(0:Int)<((k+1:Nat):Int):=oM;repeat' first|exact zQ|with_reducible refine zJ (fun _=>?_) fun _=>?_|((with_reducible refine gu ?_ (fun _=>?_) fun _=>?_);exact pr)|refine zK ?_|fail
   all_goals first|exact nq.out _ _ (.inl (nA.out (hno.out zz))) ag|exact⟨by simp,zz⟩|exact zz
 rw[hz]at hn hi;subst ha;clear hz nA;repeat' first|exact zQ|with_reducible refine zJ (fun _=>?_) fun _=>?_|((with_reducible refine gu ?_ (fun _=>?_) fun _=>?_);exact pr)|refine zK ?_|fail
 refine fQ (.light 0 (.load 1 1 (.light 3 (.load 4 1 (.light 6 (.load 7 1 (.light 8 (.load 9 1 (.light 11 (.load 12 1 (.both 2 [1] (.both 5 [1] (.both 10 [1] (.both 13 [1] (.both 14 [] (.both 15 [] .fin .stop) .stop) .stop) .stop) .stop) .stop))))))))))) aj ?_;repeat' first|exact zQ|with_reducible refine zJ (fun _=>?_) fun _=>?_|((with_reducible refine gu ?_ (fun _=>?_) fun _=>?_);exact pr)|refine zK ?_|fail
 all_goals first|exact fun _=>nq.out _ _ (Cj (by assumption)) ag|exact nq.out _ _ (Cj (by assumption)) ag|skip
 have f4:= ‹(decide (jC s.terms=0)&&decide (fV s.house=0)&&decide (cu s.budgets s.trades=0)&&decide (cF s.visits=0))=true›;simp only[Bool.and_eq_true,decide_eq_true_eq]at f4;obtain⟨⟨⟨t0,h0⟩,b0⟩,v0⟩:=f4;generalize hB:(s.terms.all fun t=>decide (t.lang<s.langs))=B;have nB:Hid (B=false->dQ s=false):=fun h=>by unfold dQ;rw[hB,h];simp
 refine fS s.terms hB 116 [(8,8),(116,126)] [(13,13)] lt sG (fun j x τ β hx hj hw hi hno=>?_) fun τ β hn hi ha=>?_
 ·have hl:=Em t0 x (List.mem_of_getElem? hx);clear hA hB gr te vi ki;repeat' first|exact zQ|with_reducible refine zJ (fun _=>?_) fun _=>?_|((with_reducible refine gu ?_ (fun _=>?_) fun _=>?_);exact pr)|refine zK ?_|fail
  ·rw[<-vr hl];assumption
  ·exact nq.out _ _ (.inl (nB.out (hno.out (by rw[<-vr hl];assumption)))) ag
 subst ha;clear nB;refine fresh (fun σ' B=>σ' 1= .loc 6 ((bx 6).ep+1) 0 0/\σ' 2= .loc 7 ((bx 7).ep+1) 0 0/\σ' 115=I s.terms.length/\σ' 116=I s.terms.length/\B 6=⟨(bx 6).ep+1,1,15,33,[s.d]⟩/\B 7=⟨(bx 7).ep+1,1,7,23,[.agg [I s.sources,I s.langs,I s.chunk,I s.quiet,I s.late,I s.gap,I s.most]]⟩/\cd [(5,1000)] B bx) ⟨by simp[go_sem],by simp[go_sem],by simp[go_sem],by simp[go_sem,hi],by simp[go_sem],by simp[go_sem],ag⟩ ?_;rintro σ' B ⟨k1,k2,k3,k4,k6,k7,ka⟩;clear hi;generalize(bx 6).ep+1=e6 at *;generalize(bx 7).ep+1=e7 at *;repeat' first|exact zQ|with_reducible refine zJ (fun _=>?_) fun _=>?_|((with_reducible refine gu ?_ (fun _=>?_) fun _=>?_);exact pr)|refine zK ?_|fail
 generalize hC:List.foldlM (lU s.langs) (-1) s.viewers=C;have nC:Hid (C=none->ed s=false):=fun h=>by unfold ed;rw[hC,h];simp
 refine kI s.viewers (lU s.langs) (-1) hC 130 [(9,9),(11,11),(130,151)] [(16,16)] (fun j s' τ _=>τ 9=I s') lv sG sG (fun j x s' τ β hx hj hw hi h3 hno=>?_) fun s' τ β hn hi h3 ha=>?_
 ·have hv:=vi x (List.mem_of_getElem? hx);have he:Hid _:=wx s.langs s' x;rw[wx]at hno;clear hC gr te vi ki;repeat' first|exact zQ|with_reducible refine zJ (fun _=>?_) fun _=>?_|((with_reducible refine gu ?_ (fun _=>?_) fun _=>?_);exact pr)|refine zK ?_|fail
  all_goals first|exact nq.out _ _ (.inr (.inl (nC.out (hno.out zz)))) ag|exact⟨x.no,he.out.trans zz,rfl⟩
 subst ha;clear nC;refine fresh (fun σ'' B'=>σ'' 1= .loc 6 e6 0 0/\σ'' 2= .loc 7 e7 0 0/\σ'' 129=I s.viewers.length/\σ'' 130=I s.viewers.length/\B' 6=⟨e6,1,15,33,[s.d]⟩/\B' 7=⟨e7,1,7,23,[.agg [I s.sources,I s.langs,I s.chunk,I s.quiet,I s.late,I s.gap,I s.most]]⟩/\cd [(5,1000)] B' bx) ⟨by simp[go_sem,k1],by simp[go_sem,k2],by simp[go_sem],by simp[go_sem,hi],by simp[go_sem,k6],by simp[go_sem,k7],ag⟩ ?_;clear hi h3 k1 k2 k3 k4 k6 k7 ka;rintro σ'' B' ⟨k1,k2,k3,k4,k6,k7,ka⟩;repeat' first|exact zQ|with_reducible refine zJ (fun _=>?_) fun _=>?_|((with_reducible refine gu ?_ (fun _=>?_) fun _=>?_);exact pr)|refine zK ?_|fail
 clear hn;generalize hD:List.all s.visits (Bl s)=V;have nD:Hid (V=false->ed s=false):=fun h=>by unfold ed;rw[hD,h];simp
 refine fS s.visits hD 155 [(13,13),(155,171)] [(18,18)] li sG (fun j x τ β hx hj hw hi hno=>?_) fun τ β hn hi ha=>?_
 ·have he:Hid _:=CX (s:=s) (tT v0 x (List.mem_of_getElem? hx));rw[CX (tT v0 x (List.mem_of_getElem? hx))]at hno;clear hD gr te vi ki;repeat' first|exact zQ|with_reducible refine zJ (fun _=>?_) fun _=>?_|((with_reducible refine gu ?_ (fun _=>?_) fun _=>?_);exact pr)|refine zK ?_|fail
  all_goals first|exact nq.out _ _ (.inr (.inl (nD.out (hno.out zz)))) ag|exact he.out.trans zz
 subst ha;clear nD;refine fresh (fun σ'' B'=>σ'' 1= .loc 6 e6 0 0/\σ'' 2= .loc 7 e7 0 0/\σ'' 154=I s.visits.length/\σ'' 155=I s.visits.length/\B' 6=⟨e6,1,15,33,[s.d]⟩/\B' 7=⟨e7,1,7,23,[.agg [I s.sources,I s.langs,I s.chunk,I s.quiet,I s.late,I s.gap,I s.most]]⟩/\cd [(5,1000)] B' bx) ⟨by simp[go_sem,k1],by simp[go_sem,k2],by simp[go_sem],by simp[go_sem,hi],by simp[go_sem,k6],by simp[go_sem,k7],ag⟩ ?_;clear hi k1 k2 k3 k4 k6 k7 ka;rintro σ'' B' ⟨k1,k2,k3,k4,k6,k7,ka⟩;repeat' first|exact zQ|with_reducible refine zJ (fun _=>?_) fun _=>?_|((with_reducible refine gu ?_ (fun _=>?_) fun _=>?_);exact pr)|refine zK ?_|fail
 clear hn;generalize hE:List.foldlM (mA s.sources) 0 s.heard=H;have nE:Hid (H=none->gI s=false):=fun h=>by unfold gI;rw[hE,h];rfl
 refine kI s.heard (mA s.sources) 0 hE 175 [(14,14),(16,16),(175,205)] [(21,21)] (fun j s' τ _=>τ 14=I s'/\0<=s') lh sG sG (fun j x s' τ β hx hj hw hi h3 hno=>?_) fun s' τ β hn hi h3 ha=>?_
 ·obtain⟨h3,h0⟩:=h3;have he:Hid _:=xH (src:=s.sources) (h:=x) h0;rw[xH h0]at hno;clear hE gr te vi ki;repeat' first|exact zQ|with_reducible refine zJ (fun _=>?_) fun _=>?_|((with_reducible refine gu ?_ (fun _=>?_) fun _=>?_);exact pr)|refine zK ?_|fail
  all_goals first|exact nq.out _ _ (.inr (.inr (nE.out (hno.out zz)))) ag|exact⟨x.at_,he.out.trans zz,rfl,by have:= ‹aL x.at_ s' 1099511627775=true›;simp[aL]at this;omega⟩
 subst ha;repeat' first|exact zQ|with_reducible refine zJ (fun _=>?_) fun _=>?_|((with_reducible refine gu ?_ (fun _=>?_) fun _=>?_);exact pr)|refine zK ?_|fail
 exact⟨good.out (by rw[<-hQ.out];unfold dQ ed gI;simp[*,g1.out,g2.out]),ag⟩
end Go.V.St
namespace Go.V.St
open Go.Proofs Go.RowKit Go.V.Lx Go.V.Gr Go.V.Ty
theorem BO{e:Nat}{x:D}(bx:ae)(h2:bx 2=⟨e,1,1,53,[x]⟩):rV Tryz.prog (bK Tryz.prog) [] Tryz.f70 5 [.loc 2 e 0 0] bx .ret fun m' bx'=>m'= .ret/\bx'=bx:=by
 refine iv (t:=5) _ _ 14 rfl rfl rfl aj aj (ao (aR 0 [.loc 2 e 0 0]) 5 (.raw .nilIface)) ?_ ?_
 ·repeat' first|exact zQ|with_reducible refine zJ (fun _=>?_) fun _=>?_|refine zK ?_|fail
 ·repeat' first|exact zQ|with_reducible refine zJ (fun _=>?_) fun _=>?_|refine zK ?_|fail
theorem BN{e:Nat}{x:D}(n:Int)(bx:ae)(c:∀c,dz x 0 [c]=some c)(h2:bx 2=⟨e,1,1,53,[x]⟩):rV Tryz.prog (bK Tryz.prog) [] Tryz.f70 5 [.loc 2 e 0 0] bx (.pan (.ifc 53 (I n))) fun m' bx'=>m'= .ret/\bx'=ao bx 2 ⟨e,1,1,53,[I n]⟩:=by
 refine iv (t:=5) _ _ 14 rfl rfl rfl aj aj (ao (aR 0 [.loc 2 e 0 0]) 5 (.ifc 53 (I n))) ?_ ?_
 ·repeat' first|exact zQ|with_reducible refine zJ (fun _=>?_) fun _=>?_|refine zK ?_|fail
 ·repeat' first|exact zQ|with_reducible refine zJ (fun _=>?_) fun _=>?_|refine zK ?_|fail
theorem Ie(s:aN)(h:cX s):xF Tryz.prog (bK Tryz.prog) [] Tryz.f34 0 [s.d] (fun _=> .none) (fun d bx'=>∃r,bf bx' d=some r/\bk r (I (bg s))) (fun _ _=>False):=by
 refine my _ [.cell 2 53] 5 rfl rfl rfl aj aj ?_;repeat' first|exact zQ|with_reducible refine zJ (fun _=>?_) fun _=>?_|refine zK ?_|fail
 refine nU (Ic s h _) rfl (fun d bx1 hq=>?_) (fun d bx1 hq=>?_)
 ·obtain⟨h1,h3⟩:=hq;have b2:=h3 2 rfl;simp only[ao,Bx.none,reduceIte,Nat.reduceEqDiff]at b2;repeat' first|exact zQ|with_reducible refine zJ (fun _=>?_) fun _=>?_|refine zK ?_|fail
  refine fJ _ (qw (BO _ rfl)) fun m' bx2 hq=>?_;obtain⟨rfl,rfl⟩:=hq;repeat' first|exact zQ|with_reducible refine zJ (fun _=>?_) fun _=>?_|refine zK ?_|fail
  exact⟨_,rfl,.refl _⟩
 ·rcases hq with⟨h1,rfl,h3⟩|⟨h1,rfl,h3⟩
  all_goals
   have b2:=h3 2 rfl;simp only[ao,Bx.none,reduceIte,Nat.reduceEqDiff]at b2;repeat' first|exact zQ|with_reducible refine zJ (fun _=>?_) fun _=>?_|refine zK ?_|fail
   refine fJ _ (qw (BN _ _ (fun c=>by simp[go_sem]) b2)) fun m' bx2 hq=>?_;obtain⟨rfl,rfl⟩:=hq;repeat' first|exact zQ|with_reducible refine zJ (fun _=>?_) fun _=>?_|refine zK ?_|fail
   exact⟨_,rfl,.refl _⟩
instance(s:aN):Ct Tryz.prog 34 [s.d] (cX s) (I (bg s)):=⟨fun h=>(zP (Ie s h)).to (fun _ _ h=>h) fun d' bx' h=>h⟩
end Go.V.St
