/- Lemmas on plain data and programs: part B12. -/
import Derived.Test.YtkgloohlmogakaaGreatDoorB11
set_option linter.all false
set_option maxHeartbeats 8000000
set_option maxRecDepth 100000
namespace Go.V.Ty
open Go.Proofs Go.Proofs.Tryz Go.RowKit Go.V.Lx Go.V.Gr
def bT(gs:List dK)(i:Nat):Nat:=gs.countP fun y=>decide (y.text=[])&&decide (y.part=(i:Int))
def kA(n:Nat)(y:dK):Bool:=if y.text=[]then fx 0 ((n:Int) - 1) y.part else decide (y.part=0)&&dI y.text
def MK(gs:List dK)(ps:List Part)(i:Nat):Bool:=ps[i]?.all fun q=>decide (bT gs i<=1)&&(decide (bT gs i=1)==decide (q.text=[]))
def oY(x:aE):Bool:=(List.range x.parts.length).all (MK x.aM x.parts)
def iY(p:ah->Bool)(x:aE):Bool:=p x.cat&&(fx 1 4 x.parts.length&&(fx 1 8 x.aM.length&&(fx 0 1000 x.cost&&(x.parts.all (mR p)&&(x.aM.all (kA x.parts.length)&&oY x)))))
def rS(gs:List dK)(n:Nat):List D:=(List.range n).map fun i=>D.int .i64 (bT gs i:Int)
def tf(gs:List dK)(n:Nat):(rS gs n).length=n:=by simp[rS]
def sT{gs:List dK}{n i:Nat}(h:i<n):(rS gs n)[i]? =some (.int .i64 (bT gs i:Int)):=by simp[rS,h]
def Pk(n:Nat):List.replicate n (D.int .i64 0)=rS [] n:=by
 apply List.ext_getElem?;intro i;by_cases h:i<n
 ·rw[sT h];simp[h,bT]
 ·rw[List.getElem?_eq_none (by simpa using h),List.getElem?_eq_none (by rw[tf];omega)]
def tc(gs:List dK)(y:dK)(i:Nat):bT (gs++[y]) i=bT gs i+if y.text=[]/\y.part=(i:Int)then 1 else 0:=by simp only[bT,List.countP_append,List.countP_singleton,bA,decide_eq_true_eq]
def MU{gs:List dK}{y:dK}{n:Nat}(h:¬y.text=[]):rS (gs++[y]) n=rS gs n:=by simp only[rS,tc,h,false_and,if_false,Nat.add_zero]
def Pm{gs:List dK}{y:dK}{n k:Nat}(h:y.text=[])(hk:y.part=(k:Int))(hn:k<n):(rS gs n).set k (.int .i64 ((bT gs k+1:Nat):Int))=rS (gs++[y]) n:=by
 apply List.ext_getElem?;intro i;by_cases hi:i<n
 ·rw[sT hi,tc,List.getElem?_set,tf,sT hi];by_cases e:k=i
  ·subst e;simp[h,hk,hi]
  ·have:¬y.part=(i:Int):=oM;simp[e,this]
 ·rw[List.getElem?_eq_none (by simp[tf];omega),List.getElem?_eq_none (by rw[tf];omega)]
def MT(gs:List dK)(i:Nat):bT gs i<=gs.length:=List.countP_le_length
def Eb{p:ah->Bool}{x:aE}{y:dK}(hy:y∈x.aM)(h:kA x.parts.length y=false):iY p x=false:=by
 have:x.aM.all (kA x.parts.length)=false:=by rw[List.all_eq_false];exact⟨y,hy,by simp[h]⟩
 simp[iY,this]
def B_{gs:List dK}{ps:List Part}{i:Nat}{q:Part}(h:ps[i]? =some q):MK gs ps i=(decide (bT gs i<=1)&&(decide ((bT gs i:Int)=1)==decide (q.text=[]))):=by
 have:((bT gs i:Int)=1)<->bT gs i=1:=oM;simp only[MK,h,Option.all_some,this]
def Ik{p:ah->Bool}{x:aE}{j:Nat}(hj:j<x.parts.length)(h:MK x.aM x.parts j=false):iY p x=false:=by
 have:oY x=false:=by rw[oY,List.all_eq_false];exact⟨j,List.mem_range.2 hj,by simp[h]⟩
 simp[iY,this]
section
variable {p:ah->Bool} {bx0:ae}
def XF{e t e' t':Nat}{cf:FuncId}{cc:List D}{m0:Nat}(hc:cn cf cc m0 100000 bx0 D.str small p)(hm:m0<=206)(h5:bx0 205=⟨e,1,1,t,[.fn (.func cf) cc]⟩)(h7:bx0 207=⟨e',1,1,t',[.fn (.func 268) [.loc 205 e 0 0]]⟩):
 cn 269 [.loc 205 e 0 0,.loc 207 e' 0 0] 208 500 bx0 aE.d Jk (iY p):=by
 intro bx x hb hx;refine aI (fn:=f269) (tab:=[]) (base:=500) mixed ?_ rfl aj rfl;refine aJ _ [.tmp 4] 112 rfl rfl rfl aj ?_;have g5:=(hb 205 oM).trans h5;have g7:=(hb 207 oM).trans h7;simp(disch:=omega) only[go_sem,g5,aE.d];refine aC (hc _ x.cat (fun s hs=>by rw[aB oM];exact hb s oM) hx.cat) rfl ?_;rintro d bK ⟨rfl,bV⟩;have g2:=bV 503 oM;rw[eC]at g2;have g5':=(bV 205 oM).trans ((aB oM).trans g5);have g7':=(bV 207 oM).trans ((aB oM).trans g7);cases h1:p x.cat
 ·simp(disch:=omega) only[go_sem,nF];exact⟨by simp[iY,h1],fun s hs=>(bV s oM).trans (aB oM)⟩
 simp(disch:=omega) only[go_sem,g2,nT];refine av (o9 1 4 x.parts.length) sG ?_;cases h3:fx 1 4 x.parts.length
 ·simp(disch:=omega) only[go_sem,nF];exact⟨by simp[iY,h1,h3],fun s hs=>(bV s oM).trans (aB oM)⟩
 simp(disch:=omega) only[go_sem,g2,nT];refine av (o9 1 8 x.aM.length) sG ?_;cases h4:fx 1 8 x.aM.length
 ·simp(disch:=omega) only[go_sem,nF];exact⟨by simp[iY,h1,h3,h4],fun s hs=>(bV s oM).trans (aB oM)⟩
 simp(disch:=omega) only[go_sem,g2,nT];refine av (o9 0 1000 x.cost) sG ?_;cases h6:fx 0 1000 x.cost
 ·simp(disch:=omega) only[go_sem,nF];exact⟨by simp[iY,h1,h3,h4,h6],fun s hs=>(bV s oM).trans (aB oM)⟩
 simp(disch:=omega) only[go_sem,g2,g7',nT];refine aC (UF 612 (Xl hc hm h5) oM oM x.parts hx.wV hx.parts bK (fun s hs=>(bV s oM).trans ((aB oM).trans (hb s oM)))) rfl ?_;rintro d Ep ⟨rfl,vu⟩;replace g2:=(vu 503 oM).trans g2;cases h8:x.parts.all (mR p)
 ·simp(disch:=omega) only[go_sem,nF];exact⟨by simp[iY,h1,h3,h4,h6,h8],fun s hs=>(vu s oM).trans ((bV s oM).trans (aB oM))⟩
 have hp4:1<=x.parts.length/\x.parts.length<=4:=by simp[fx]at h3;omega
 have hg8:1<=x.aM.length/\x.aM.length<=8:=by simp[fx]at h4;omega
 have hz:=Pk x.parts.length;have k0:(0:Int)<=(x.parts.length:Int):=oM;have k1:(x.parts.length:Int)<=(x.parts.length:Int):=oM;have k2:(x.parts.length:Int) * ((8:Nat):Int)<=140737488355328:=oM;generalize hE:(bx 503).ep+1=E at g2;have jb:∀s,s<500->Ep s=bx s:=fun s hs=>(vu s oM).trans ((bV s oM).trans (aB oM));obtain⟨e5,he5⟩:∃e5,(Ep 549).ep+1=e5:=⟨_,rfl⟩
 simp(disch:=omega) only[go_sem,g2,nT,hz,k0,k1,k2,he5];refine bo x.aM.length (fun j σ bx'=>σ 3= .loc 503 E 0 0/\σ 5= .bE 549 e5 1 0 x.parts.length/\σ 51= .sl 2 (x.aM.map dK.d)/\σ 52= .int .i64 x.aM.length/\σ 53= .int .i64 j/\bx' 503=⟨E,1,5,142,[x.d]⟩/\bx' 549=⟨e5,1,1,3,rS (x.aM.take j) x.parts.length⟩/\(x.aM.take j).all (kA x.parts.length)=true/\∀s,s<500->bx' s=bx s) ?_ ?_ ?_
 ·simp(disch:=omega) only[go_sem,g2,he5,tf,List.take_zero,aE.d];exact fun s hs=>by rw[if_neg oM];exact jb s hs
 ·rintro j σ bx' hj ⟨q3,q5,Sv,Om,On,b3,uX,bD,hk⟩;obtain⟨y,hy⟩:=ba hj;have ar:(j:Int)<(x.aM.length:Int):=oM;have hsy:small y.text:=hx.aM y (mG hy);have fP:x.aM.take (j+1)=x.aM.take j++[y]:=by rw[List.take_add_one,hy];rfl
  simp(disch:=omega) only[go_sem,Sv,Om,On,ar,hy,dK.d];have hw:IntKind.i64.wrap ((x.parts.length:Int) - 1)=(x.parts.length:Int) - 1:=wrap_i64 oM oM;have oc:IntKind.i64.wrap ((j:Int)+1)=((j+1:Nat):Int):=aD oM;have eG:(x.aM.take (j+1)).all (kA x.parts.length)=kA x.parts.length y:=by rw[fP,List.all_append,bD];simp
  refine bg (fun c1=>?_) (fun c1=>?_)
  ·simp(disch:=omega) only[go_sem,q5,hw];refine av (o9 0 ((x.parts.length:Int) - 1) y.part) sG ?_;cases c2:fx 0 ((x.parts.length:Int) - 1) y.part
   ·simp(disch:=omega) only[go_sem,nF];refine⟨(Eb (mG hy) (by rw[kA,if_pos c1,c2])).symm▸rfl,fun s hs=>?_⟩
    (try simp(disch:=omega) only[if_neg])
    exact hk s hs
   ·have c3:0<=y.part/\y.part<x.parts.length:=by simp[fx]at c2;omega
    obtain⟨n,hn⟩:∃n:Nat,y.part=n:=⟨y.part.toNat,by omega⟩
    have sc:n<x.parts.length:=oM;have hn3:(n:Int)<(x.parts.length:Int):=oM;have hle:=MT (x.aM.take j) n;have aeg:(x.aM.take j).length<=x.aM.length:=List.length_take_le' ..;have iL:IntKind.i64.wrap ((bT (x.aM.take j) n:Int)+1)=((bT (x.aM.take j) n+1:Nat):Int):=aD oM;simp(disch:=omega) only[go_sem,nT,q3,q5,Sv,Om,On,oc,hn,iL,sT sc,uX,b3,Pm c1 hn sc];rw[<-fP,eG];refine⟨rfl,by rw[kA,if_pos c1,hn];rwa[hn]at c2,fun s hs=>?_⟩
    (try simp(disch:=omega) only[if_neg])
    exact hk s hs
  ·simp(disch:=omega) only[go_sem];refine bg (fun c2=>?_) (fun c2=>?_)
   ·have MI:(!decide (y.part=0))=false:=by simp[c2]
    simp(disch:=omega) only[go_sem,MI];refine av (ym y.text hsy) sG ?_;cases c4:dI y.text
    ·simp(disch:=omega) only[go_sem,MI,nF];refine⟨(Eb (mG hy) (by rw[kA,if_neg c1,c4,Bool.and_false])).symm▸rfl,fun s hs=>?_⟩
     (try simp(disch:=omega) only[if_neg])
     exact hk s hs
    ·simp(disch:=omega) only[go_sem,MI,nT,q3,q5,Sv,Om,On,oc,uX,b3];rw[eG,fP,MU c1];refine⟨rfl,by rw[kA,if_neg c1,c4,decide_eq_true c2];rfl,fun s hs=>?_⟩
     (try simp(disch:=omega) only[if_neg])
     exact hk s hs
   ·have MI:(!decide (y.part=0))=true:=by simp[c2]
    simp(disch:=omega) only[go_sem,MI];refine⟨(Eb (mG hy) (by rw[kA,if_neg c1,decide_eq_false c2,Bool.false_and])).symm▸rfl,fun s hs=>?_⟩
    (try simp(disch:=omega) only[if_neg])
    exact hk s hs
 ·rintro σ bx' ⟨q3,q5,Sv,Om,On,b3,uX,bD,hk⟩;have ar:¬(x.aM.length:Int)<(x.aM.length:Int):=oM;simp(disch:=omega) only[go_sem,q3,Om,On,ar,b3,aE.d];rw[tL]at bD uX;refine bo x.parts.length (fun j σ bx'=>σ 5= .bE 549 e5 1 0 x.parts.length/\σ 88= .sl 3 (x.parts.map Part.d)/\σ 89= .int .i64 x.parts.length/\σ 90= .int .i64 j/\bx' 549=⟨e5,1,1,3,rS x.aM x.parts.length⟩/\(∀i,i<j->MK x.aM x.parts i=true)/\∀s,s<500->bx' s=bx s) ?_ ?_ ?_
  ·simp(disch:=omega) only[go_sem,q5,uX];exact⟨by omega,hk⟩
  ·rintro j σ bx' hj ⟨q5,Xw,Sw,Sx,uX,hc,hk⟩;obtain⟨y,hy⟩:=ba hj;have ar:(j:Int)<(x.parts.length:Int):=oM;have oc:IntKind.i64.wrap ((j:Int)+1)=((j+1:Nat):Int):=aD oM;simp(disch:=omega) only[go_sem,q5,Xw,Sw,Sx,ar,hy,Part.d,uX,sT hj];have jh:=B_ (gs:=x.aM) hy;cases c1:(decide ((bT x.aM j:Int)=1)==decide (y.text=[]))
   ·rw[c1,Bool.and_false]at jh;simp(disch:=omega) only[go_sem,nF];refine⟨(Ik hj jh).symm▸rfl,fun s hs=>?_⟩
    (try simp(disch:=omega) only[if_neg])
    exact hk s hs
   ·rw[c1,Bool.and_true]at jh;simp(disch:=omega) only[go_sem,nT,uX,sT hj,q5];refine bg (fun c2=>?_) (fun c2=>?_)
    ·simp(disch:=omega) only[go_sem,c2,decide_true];refine⟨(Ik hj (by rw[jh];simp;omega)).symm▸rfl,fun s hs=>?_⟩
     (try simp(disch:=omega) only[if_neg])
     exact hk s hs
    ·simp(disch:=omega) only[go_sem,c2,decide_false,q5,Xw,Sw,Sx,uX,oc];refine⟨fun i hi=>?_,fun s hs=>?_⟩
     ·by_cases e:i=j
      ·subst e;rw[jh];simp;omega
      ·exact hc i oM
     · (try simp(disch:=omega) only[if_neg])
       exact hk s hs
  ·rintro σ bx' ⟨q5,Xw,Sw,Sx,uX,hc,hk⟩;have ar:¬(x.parts.length:Int)<(x.parts.length:Int):=oM;simp(disch:=omega) only[go_sem,Sw,Sx,ar];have hco:oY x=true:=by rw[oY,List.all_eq_true];exact fun i hi=>hc i (List.mem_range.1 hi)
   exact⟨by simp only[iY,h1,h3,h4,h6,h8,bD,hco,Bool.and_true],hk⟩
end
end Go.V.Ty
namespace Go.V.Ty
open Go.Proofs Go.Proofs.Tryz Go.RowKit Go.V.Lx Go.V.Gr
def gC(p:ah->Bool)(g:aS):Bool:=dI g.name&&(decide (0<g.au.length)&&(g.au.all dI&&(p g.start&&(g.entries.all (fD p)&&g.rules.all (iY p)))))
def T7{f:FuncId}{caps:List D}{n0:Nat}{p:ah->Bool}(g:aS)(hg:mK g)(bx:ae)(hf:FD f caps n0 bx p)(hn:n0<=200):
 bj prog 224 0 [g.d,.fn (.func f) caps] bx (fun d bx'=>d= .bool (gC p g)/\∀s,s<200->bx' s=bx s) (fun _ _=>False):=by
 refine aI (fn:=f224) (tab:=[]) (base:=200) mixed ?_ rfl aj rfl;refine aJ _ [.tmp 4] 48 rfl rfl rfl aj ?_;simp(disch:=omega) only[go_sem,aS.d,strs];generalize hB:ak (ak (ak (ak (ak (ak bx 202 _) 203 _) 205 _) 205 _) 207 _) 207 _=B;have jb:∀s,s<200->B s=bx s:=fun s hs=>by rw[<-hB];simp(disch:=omega) only[aB]
 have b2:B 202=⟨(bx 202).ep+1,1,6,81,[g.d]⟩:=by rw[<-hB];simp[ak,aS.d,strs]
 have b3:B 203=⟨(bx 203).ep+1,1,1,308,[.fn (.func f) caps]⟩:=by rw[<-hB];simp[ak]
 have b5:B 205=⟨(bx 205).ep+1,1,1,315,[.fn (.func 263) [.loc 203 ((bx 203).ep+1) 0 0]]⟩:=by rw[<-hB];simp[ak]
 have b7:B 207=⟨(bx 207).ep+1,1,1,350,[.fn (.func 268) [.loc 205 ((bx 205).ep+1) 0 0]]⟩:=by rw[<-hB];simp[ak]
 have kD:FD f caps n0 B p:=fun b s hb hs=>hf b s (fun q hq=>(hb q hq).trans (jb q oM)) hs;have P_:=Y7 kD hn b3;have fin:∀(b:Bool) (B':ae),b=gC p g->(∀s,s<200->B' s=B s)->D.bool b= .bool (gC p g)/\∀s,s<200->B' s=bx s:=fun b B' h h'=>⟨by rw[h],fun s hs=>(h' s hs).trans (jb s hs)⟩
 refine av (ym g.name hg.name) sG ?_;cases h1:dI g.name
 ·simp(disch:=omega) only[go_sem];exact fin false B (by simp[gC,h1]) (fun _ _=>rfl)
 simp(disch:=omega) only[go_sem,b2,aS.d,strs];refine bg (fun h2=>?_) (fun h2=>?_)
 rotate_left
 ·simp(disch:=omega) only[go_sem,h2,decide_false];exact fin false B (by simp[gC,h1];omega) (fun _ _=>rfl)
 have Vn:0<g.au.length:=oM;simp(disch:=omega) only[go_sem,h2,decide_true,b2,aS.d,strs];refine av (En g.au hg.A7 hg.au) sG ?_;cases h3:g.au.all dI
 ·simp(disch:=omega) only[go_sem,h2,decide_true];exact fin false B (by simp only[gC,h1,h3,Bool.false_and,Bool.and_false]) (fun _ _=>rfl)
 simp(disch:=omega) only[go_sem,h2,decide_true,b5,b2,aS.d,strs];refine aC (P_ B g.start (fun _ _=>rfl) hg.start) rfl ?_;rintro d B1 ⟨rfl,ji⟩;cases h4:p g.start
 ·simp(disch:=omega) only[go_sem];exact fin false B1 (by simp only[gC,h1,h3,h4,Bool.false_and,Bool.and_false]) (fun s hs=>ji s oM)
 have c2:=(ji 202 oM).trans b2;simp(disch:=omega) only[go_sem,c2,aS.d,strs];refine aC (UB 250 (S7 P_ oM b5) oM oM g.entries hg.A_ hg.en B1 (fun s hs=>ji s oM)) rfl ?_;rintro d B2 ⟨rfl,bV⟩;cases h5:g.entries.all (fD p)
 ·simp(disch:=omega) only[go_sem];exact fin false B2 (by simp only[gC,h1,h3,h4,h5,Bool.false_and,Bool.and_false]) (fun s hs=>(bV s oM).trans (ji s oM))
 replace c2:=(bV 202 oM).trans c2;simp(disch:=omega) only[go_sem,c2,aS.d,strs];refine aC (UH 300 (XF P_ oM b5 b7) oM oM g.rules hg.zq hg.rules B2 (fun s hs=>(bV s oM).trans (ji s oM))) rfl ?_;rintro d B3 ⟨rfl,vu⟩;simp(disch:=omega) only[go_sem];refine fin (g.rules.all (iY p)) B3 ?_ (fun s hs=>(vu s oM).trans ((bV s oM).trans (ji s oM)));simp only[gC,h1,Vn,h3,h4,h5,decide_true,Bool.true_and]
end Go.V.Ty
namespace Go.V.Ty
open Go.Proofs Go.RowKit Go.V.Lx Go.V.Gr
abbrev PM:=List (ah×D×Int)
def dD(m:PM):List D:=m.map fun e=> .aL [.str e.1,e.2.1,.int .i64 e.2.2]
def Gv(m:PM):(dD m).length=m.length:=by simp[dD]
theorem qw(s:ah):∀(m:PM) (i:Nat),(fb .str (.str s) (dD m) i=some none/\∀e∈m,e.1≠s)\/∃j e,fb .str (.str s) (dD m) i=some (some (i+j,e.2.1))/\m[j]? =some e/\e.1=s
 |[],i=> .inl ⟨rfl,by simp⟩
 |e::m,i=>by
  by_cases h:s=e.1
  ·exact .inr ⟨0,e,by simp[dD,fb,mV,h],rfl,h.symm⟩
  ·have hb:(s==e.1)=false:=by simpa using h
   rcases qw s m (i+1)with⟨h1,h2⟩|⟨j,e',h1,h2,h3⟩
   ·refine .inl ⟨?_,fun x hx=>?_⟩
    ·simp only[dD,mC,fb,mV,hb];exact h1
    ·rcases List.mem_cons.1 hx with rfl|hx
     ·exact Ne.symm h
     ·exact h2 x hx
   ·refine .inr ⟨j+1,e',?_,by simpa using h2,h3⟩;simp only[dD,mC,fb,mV,hb];rw[show i+(j+1)=i+1+j by omega];exact h1
theorem Cm(s:ah)(v:D):∀(m:PM) (j:Nat),(dD m).modify j (Bz (.str s) v)=dD (m.modify j fun e=>(s,v,e.2.2))
 |[],j=>by simp[dD]
 |e::m,0=>by simp[dD,Bz]
 |e::m,j+1=>by simpa[dD]using Cm s v m j
theorem EB:∀(m:PM) (j:Nat),(dD m).eraseIdx j=dD (m.eraseIdx j)
 |[],j=>by simp[dD]
 |e::m,0=>by simp[dD]
 |e::m,j+1=>by simpa[dD]using EB m j
def BO{m:PM}{s:ah}{c:Int}{v:D}(h:∀e∈m,e.1≠s):ot .str (.str s) v c (dD m)=some (.int .i64 (c+1)::dD (m++[(s,v,c)])):=by
 rcases qw s m 0 with⟨h1,_⟩|⟨j,e,_,h2,h3⟩
 ·simp only[ot,h1];simp[dD]
 ·exact(h e (mG h2) h3).elim
def ID(m:PM)(s:ah)(c:Int)(v:D):∃(m':PM) (c':Int),ot .str (.str s) v c (dD m)=some (.int .i64 c'::dD m')/\m'.length<=m.length+1/\((∃e∈m,e.1=s)->m'.length=m.length):=by
 rcases qw s m 0 with⟨h1,h2⟩|⟨j,e,h1,h2,h3⟩
 ·exact⟨m++[(s,v,c)],c+1,BO h2,by simp,fun⟨e,he,hs⟩=>(h2 e he hs).elim⟩
 ·exact⟨m.modify j fun e=>(s,v,e.2.2),c,by simp[ot,h1,Cm],by simp,by simp⟩
def S4{m:PM}{s:ah}{c:Int}(h:∃e∈m,e.1=s):∃j e,m[j]? =some e/\e.1=s/\Gu .str (.str s) c (dD m)=some (.int .i64 c::dD (m.eraseIdx j)):=by
 obtain⟨e,he,hs⟩:=h;rcases qw s m 0 with⟨h1,h2⟩|⟨j,e,h1,h2,h3⟩
 ·exact(h2 e he hs).elim
 ·exact⟨j,e,h2,h3,by simp[Gu,h1,EB]⟩
def jo(x:aE):Option (ah×ah):=match x.parts with
 |[q]=>if q.text=[]then some (x.cat,q.cat)else none
 |_=>none
def Edge(rs:List aE)(c d:ah):Prop:=∃x∈rs,jo x=some (c,d)
def gz(L:List ah)(c:ah)(x:aE):Bool:=match jo x with
 |some (a,b)=>decide (a=c)&&L.contains b
 |none=>false
def Full(rs:List aE)(L:List ah):Prop:=∀c∈L,rs.any (gz L c)=true
def D7(rs:List aE)(L:List ah):List ah:=L.filter fun c=>rs.any (gz L c)
def mT(rs:List aE):Nat->List ah->List ah
 |0,L=>L
 |k+1,L=>mT rs k (D7 rs L)
def pH(g:aS):Bool:= !(mT g.rules g.au.length g.au).isEmpty
def um{rs:List aE}{L:List ah}{c:ah}:rs.any (gz L c)=true<->∃d∈L,Edge rs c d:=by
 rw[List.any_eq_true];constructor
 ·rintro⟨x,hx,h⟩;unfold gz at h;split at h
  ·rename_i a b he;simp only[bA,decide_eq_true_eq,List.contains_iff_mem]at h;exact⟨b,h.2,x,hx,by rw[he,h.1]⟩
  ·cases h
 ·rintro⟨d,hd,x,hx,he⟩;exact⟨x,hx,by simp[gz,he,hd]⟩
def CU{rs:List aE}{L M:List ah}{c:ah}(h:∀x∈L,x∈M)(hl:rs.any (gz L c)=true):rs.any (gz M c)=true:=by
 obtain⟨d,hd,he⟩:=um.1 hl;exact um.2 ⟨d,h d hd,he⟩
def QD{rs:List aE}{F L:List ah}(hF:Full rs F)(h:∀x∈F,x∈L):∀x∈F,x∈D7 rs L:=fun x hx=>List.mem_filter.2 ⟨h x hx,CU h (hF x hx)⟩
theorem zg{rs:List aE}{F:List ah}(hF:Full rs F):∀(k:Nat) (L:List ah),(∀x∈F,x∈L)->∀x∈F,x∈mT rs k L
 |0,L,h=>h
 |k+1,L,h=>zg hF k _ (QD hF h)
theorem zh{rs:List aE}:∀(k:Nat) (L:List ah),∀x∈mT rs k L,x∈L
 |0,L,x,h=>h
 |k+1,L,x,h=>(List.mem_filter.1 (zh k _ x h)).1
def Fg{rs:List aE}{L:List ah}(h:Full rs L):D7 rs L=L:=List.filter_eq_self.2 h
theorem C6{rs:List aE}{L:List ah}(h:Full rs L):∀k,mT rs k L=L
 |0=>rfl
 |k+1=>by rw[mT,Fg h,C6 h k]
theorem HR{rs:List aE}:∀(k:Nat) (L:List ah),Full rs (mT rs k L)\/(mT rs k L).length+k<=L.length
 |0,L=> .inr (Nat.le_refl _)
 |k+1,L=>by
  rw[mT];by_cases h:(D7 rs L).length<L.length
  ·rcases HR k (D7 rs L)with h1|h1
   ·exact .inl h1
   ·exact .inr oM
  ·have hL:Full rs L:=by
    have:=List.length_filter_le (fun c=>rs.any (gz L c)) L;exact List.length_filter_eq_length_iff.1 (by unfold D7 at h;omega)
   exact .inl (by rw[Fg hL,C6 hL];exact hL)
def GI(rs:List aE):Full rs []:=fun c h=>by simp at h
def Eu(g:aS):Full g.rules (mT g.rules g.au.length g.au):=by
 rcases HR (rs:=g.rules) g.au.length g.au with h|h
 ·exact h
 ·have:mT g.rules g.au.length g.au=[]:=List.eq_nil_of_length_eq_zero oM;rw[this];exact GI _
theorem MQ{g:aS}{L:List ah}(h1:∀x∈L,x∈g.au)(h2:Full g.rules L)(h3:∀F,Full g.rules F->(∀x∈F,x∈g.au)->∀x∈F,x∈L):pH g= !L.isEmpty:=by
 unfold pH;cases hL:L with
 |nil=>
  cases hp:mT g.rules g.au.length g.au with
  |nil=>rfl
  |cons y ys=>
   have:=h3 _ (Eu g) (zh _ _) y (by rw[hp];simp);rw[hL]at this;simp at this
 |cons x xs=>
  have:=zg h2 g.au.length g.au h1 x (by rw[hL];simp);cases hp:mT g.rules g.au.length g.au with
  |nil=>rw[hp]at this;simp at this
  |cons y ys=>rfl
def Pa(g:aS):pH g=true<->∃F,F≠[]/\Full g.rules F/\∀x∈F,x∈g.au:=by
 constructor
 ·intro h;refine⟨_,?_,Eu g,zh _ _⟩;intro e;rw[pH,e]at h;cases h
 ·rintro⟨F,bq,hF,hs⟩;obtain⟨x,hx⟩:=List.exists_mem_of_ne_nil F bq;have:=zg hF g.au.length g.au hs x hx;unfold pH;cases hp:mT g.rules g.au.length g.au with
  |nil=>rw[hp]at this;simp at this
  |cons y ys=>rfl
end Go.V.Ty
namespace Go.V.Ty
open Go.Proofs Go.Proofs.Tryz Go.RowKit Go.V.Lx Go.V.Gr
def TD{e3 e6 e8 t3 t6 t8 s3:Nat}{n:Int}{c:ah}{m:PM}{bx0:ae}(h6:bx0 6=⟨e6,1,1,t6,[.str c]⟩)(h3:bx0 3=⟨e3,1,1,t3,[.omap 8 e8]⟩)(h8:bx0 8=⟨e8,3,s3,t8,.int .i64 n::dD m⟩)(hm:∀e∈m,e.2.1= .bool true):
 cn 273 [.loc 6 e6 0 0,.loc 3 e3 0 0] 9 100 bx0 aE.d Jk (gz (m.map (·.1)) c):=by
 intro bx x hb hx;refine aI (fn:=f273) (tab:=[]) (base:=100) mixed ?_ rfl aj rfl;refine aJ _ [.tmp 4] 32 rfl rfl rfl aj ?_;have g6:=(hb 6 oM).trans h6;have g3:=(hb 3 oM).trans h3;have g8:=(hb 8 oM).trans h8;have oD:=hx.wV;have fin:∀(b:Bool) (B:ae),b=gz (m.map (·.1)) c x->(∀s,s<100->B s=bx s)->D.bool b= .bool (gz (m.map (·.1)) c x)/\∀s,s<100->B s=bx s:=fun b B h h'=>⟨by rw[h],h'⟩
 simp(disch:=omega) only[go_sem,g6,aE.d];refine bg (fun c1=>?_) (fun c1=>?_)
 rotate_left
 ·simp(disch:=omega) only[go_sem,c1,decide_false];refine fin false _ ?_ (fun s hs=>by simp(disch:=omega) only[if_neg]);unfold gz;split
  ·rename_i a b he;have:a=x.cat:=by
    unfold jo at he;split at he
    ·split at he<;>simp at he;exact he.1.symm
    ·cases he
   simp[this,c1]
  ·rfl
 ·simp(disch:=omega) only[go_sem,c1,decide_true];refine bg (fun c2=>?_) (fun c2=>?_)
  rotate_left
  ·simp(disch:=omega) only[go_sem,c2,decide_false];refine fin false _ ?_ (fun s hs=>by simp(disch:=omega) only[if_neg]);unfold gz jo;split
   ·rename_i a b he;split at he
    ·rename_i q hq;rw[hq]at c2;exact(c2 rfl).elim
    ·cases he
   ·rfl
  ·obtain⟨q,hq⟩:=List.length_eq_one_iff.1 (show x.parts.length=1 by omega);have AJ:x.parts[0]? =some q:=by rw[hq];rfl
   simp(disch:=omega) only[go_sem,c1,c2,decide_true,AJ,Part.d];refine bg (fun c3=>?_) (fun c3=>?_)
   rotate_left
   ·simp(disch:=omega) only[go_sem,c2,c3,decide_true,decide_false];refine fin false _ ?_ (fun s hs=>by simp(disch:=omega) only[if_neg]);simp[gz,jo,hq,c3]
   ·have hl:gz (m.map (·.1)) c x=(m.map (·.1)).contains q.cat:=by
     have he:jo x=some (x.cat,q.cat):=by unfold jo;rw[hq];exact if_pos c3
     simp[gz,he,c1]
    rcases qw q.cat m 0 with⟨f1,f2⟩|⟨j,e,f1,f2,f3⟩
    ·simp(disch:=omega) only[go_sem,c1,c2,c3,decide_true,g3,g8,f1,AJ,Part.d];refine fin false _ ?_ (fun s hs=>by simp(disch:=omega) only[if_neg]);rw[hl];symm;rw[Bool.eq_false_iff,Ne,List.contains_iff_mem,List.mem_map];rintro⟨e,he,h⟩;exact f2 e he h
    ·have hv:=hm e (mG f2);simp(disch:=omega) only[go_sem,c1,c2,c3,decide_true,g3,g8,f1,hv,AJ,Part.d];refine fin true _ ?_ (fun s hs=>by simp(disch:=omega) only[if_neg]);rw[hl];symm;rw[List.contains_iff_mem,List.mem_map];exact⟨e,mG f2,f3⟩
def jR(L:List (ah×Nat)):PM:=L.map fun p=>(p.1,.bool true,(p.2:Int))
def Qx(L:List (ah×Nat)):(jR L).map (·.1)=L.map (·.1):=by simp[jR]
theorem E8:∀(L:List (ah×Nat)) (j:Nat),(jR L).eraseIdx j=jR (L.eraseIdx j)
 |[],j=>by simp[jR]
 |p::L,0=>by simp[jR]
 |p::L,j+1=>by simpa[jR]using E8 L j
def Qy(L:List (ah×Nat)):∀e∈jR L,e.2.1= .bool true:=by
 intro e he;obtain⟨p,_,rfl⟩:=List.mem_map.1 he;rfl
def IJ{l:List ah}{j:Nat}{c:ah}(h:l[j]? =some c):l.zipIdx.take (j+1)=l.zipIdx.take j++[(c,j)]:=by rw[List.take_add_one,List.getElem?_zipIdx,h];simp
def Uf{l:List ah}(hn:l.Nodup){j:Nat}{c:ah}(h:l[j]? =some c):∀e∈jR (l.zipIdx.take j),e.1≠c:=by
 intro e he hc;obtain⟨p,hp,rfl⟩:=List.mem_map.1 he;obtain⟨i,hi,hpi⟩:=List.mem_iff_getElem.1 hp;have gx:i<j:=by simp at hi;omega
 rw[List.getElem_take,List.getElem_zipIdx]at hpi;have hl:j<l.length:=(gS.1 h).1;have h1:l[i]'oM=l[j]:=by
  have:=(gS.1 h).2;rw[this,<-hc,<-hpi]
 have:=(List.getElem_inj hn).1 h1;omega
structure Left(g:aS)(k:Nat)(L:List (ah×Nat)):Prop where
 of:List.Sublist L g.au.zipIdx
 has:∀F,Full g.rules F->(∀x∈F,x∈g.au)->∀x∈F,x∈L.map (·.1)
 how:Full g.rules (L.map (·.1))\/L.length+k<=g.au.length
theorem Left.all(g:aS):Left g 0 g.au.zipIdx:=⟨List.Sublist.refl _,fun F _ h x hx=>by simpa using h x hx,.inr sI⟩
theorem Left.sub{g:aS}{k:Nat}{L:List (ah×Nat)}(h:Left g k L):∀x∈L.map (·.1),x∈g.au:=by
 intro x hx;have:=h.of.map (·.1);rw[List.zipIdx_map_fst]at this;exact this.subset hx
theorem Left.fin{g:aS}{L:List (ah×Nat)}(h:Left g g.au.length L):Full g.rules (L.map (·.1)):=by
 rcases h.how with h|h
 ·exact h
 ·have:L=[]:=List.eq_nil_of_length_eq_zero oM;rw[this];exact GI _
structure nL(g:aS)(L0 L:List (ah×Nat))(seen:List D):Prop where
 of:List.Sublist L L0
 has:∀F,Full g.rules F->(∀x∈F,x∈g.au)->∀x∈F,x∈L.map (·.1)
 how:(L=L0/\∀p∈L0,(p.2:Int)∈seen.map intOf->g.rules.any (gz (L0.map (·.1)) p.1)=true)\/L.length<L0.length
 full:Full g.rules (L0.map (·.1))->L=L0
theorem nL.start{g:aS}{k:Nat}{L0:List (ah×Nat)}(h:Left g k L0):nL g L0 L0 []:=⟨List.Sublist.refl _,h.has,.inl ⟨rfl,by simp⟩,fun _=>rfl⟩
def one(p:ah×Nat):D:=.aL [.str p.1,.bool true,.int .i64 (p.2:Int)]
def vn(L:List (ah×Nat)):dD (jR L)=L.map one:=by simp[dD,jR,one]
def wK{L:List (ah×Nat)}{seen:List D}{d:D}:d∈iE seen (dD (jR L))<->∃p∈L,d=one p/\(p.2:Int)∉seen.map intOf:=by
 simp only[iE,List.mem_filter,vn,List.mem_map];constructor
 ·rintro⟨⟨p,hp,rfl⟩,h⟩;refine⟨p,hp,rfl,fun hm=>?_⟩;have:(seen.map intOf).contains (gQ (one p))=true:=by rw[List.contains_iff_mem];exact List.mem_map.2 hm
  rw[this]at h;cases h
 ·rintro⟨p,hp,rfl,h⟩;refine⟨⟨p,hp,rfl⟩,?_⟩;have:(seen.map intOf).contains (gQ (one p))=false:=by rw[Bool.eq_false_iff,Ne,List.contains_iff_mem];exact fun hm=>h (List.mem_map.1 hm)
  rw[this];rfl
theorem sr{p:ah×Nat}:∀(L:List (ah×Nat)),(L.map (·.2)).Nodup->p∈L->(L.map one).find? (fun e=>gQ e==(p.2:Int))=some (one p)
 |[],_,h=>by simp at h
 |q::L,hn,h=>by
  simp only[mC,List.nodup_cons]at hn;rcases List.mem_cons.1 h with rfl|h
  ·simp[one,gQ]
  ·have bq:q.2≠p.2:=fun e=>hn.1 (List.mem_map.2 ⟨p,h,e.symm⟩);have hb:(gQ (one q)==(p.2:Int))=false:=by simp[one,gQ];omega
   rw[mC,List.find?_cons,hb];exact sr L hn.2 h
def Pz{L:List (ah×Nat)}{p:ah×Nat}(seen:List D)(hn:(L.map (·.2)).Nodup)(h:p∈L):zS (seen++[.int .i64 (p.2:Int)]) (dD (jR L))=some (.aL [.str p.1,.bool true]):=by simp only[zS,List.getLast?_concat,intOf,vn,sr L hn h,one]
def J8{L L':List (ah×Nat)}{seen:List D}{p:ah×Nat}(hs:List.Sublist L' L)(h:p∈L)(hp:(p.2:Int)∉seen.map intOf):(iE (seen++[.int .i64 (p.2:Int)]) (dD (jR L'))).length<(iE seen (dD (jR L))).length:=by
 have e:∀es:List D,iE (seen++[.int .i64 (p.2:Int)]) es=(iE seen es).filter fun e=> !(gQ e==(p.2:Int)):=by
  intro es;simp only[iE,List.filter_filter];refine List.filter_congr fun x _=>?_;simp[intOf,Bool.not_or];by_cases h1:gQ x=p.2<;>simp[h1]
 have u9:List.Sublist (iE (seen++[.int .i64 (p.2:Int)]) (dD (jR L'))) (iE seen (dD (jR L))):=by
  rw[e];refine List.filter_sublist.trans ?_;rw[vn,vn];exact(hs.map one).filter _
 have hle:=u9.length_le;by_cases ar:(iE (seen++[.int .i64 (p.2:Int)]) (dD (jR L'))).length<(iE seen (dD (jR L))).length
 ·exact ar
 ·have heq:=u9.eq_of_length_le oM;have hm:one p∈iE seen (dD (jR L)):=wK.2 ⟨p,h,rfl,hp⟩;rw[<-heq]at hm;obtain⟨q,hq,oE,iK⟩:=wK.1 hm;have:p.2=q.2:=by injection oE with oE;injection oE with _ oE;injection oE with _ oE;injection oE with oE _;injection oE;omega
  exact(iK (by rw[<-this];simp[intOf])).elim
def DB{l:List ah}{L:List (ah×Nat)}(h:List.Sublist L l.zipIdx):(L.map (·.2)).Nodup/\∀p∈L,p.2<l.length:=by
 have h2:=h.map (·.2);rw[List.zipIdx_map_snd]at h2;refine⟨h2.nodup List.nodup_range',fun p hp=>?_⟩;have:=h2.subset (List.mem_map_of_mem hp);simp at this;omega
theorem nL.round{g:aS}{k:Nat}{L0 L:List (ah×Nat)}{seen:List D}(h0:Left g k L0)(h:nL g L0 L seen)(hl:∀e∈iE seen (dD (jR L)),(g.au.length:Int)<=gQ e):Left g (k+1) L:=by
 have eG:∀p∈L,(p.2:Int)∈seen.map intOf:=fun p hp=>Classical.byContradiction fun hn=>by
  have h1:=hl _ (wK.2 ⟨p,hp,rfl,hn⟩);have h2:=(DB (h.of.trans h0.of)).2 p hp;simp only[one,gQ]at h1;omega
 refine⟨h.of.trans h0.of,h.has,?_⟩;rcases h.how with⟨rfl,h1⟩|h1
 ·refine .inl fun c hc=>?_;obtain⟨p,hp,rfl⟩:=List.mem_map.1 hc;exact h1 p hp (eG p hp)
 ·rcases h0.how with h2|h2
  ·rw[h.full h2]at h1;omega
  ·exact .inr oM
theorem nL.jb{g:aS}{L0 L:List (ah×Nat)}{seen:List D}{p:ah×Nat}(hn:(L.map (·.2)).Nodup)(hp:p∈L)(h:nL g L0 L seen)(hl:g.rules.any (gz (L.map (·.1)) p.1)=true):nL g L0 L (seen++[.int .i64 (p.2:Int)]):=by
 refine⟨h.of,h.has,?_,h.full⟩;rcases h.how with⟨rfl,h1⟩|h1
 ·refine .inl ⟨rfl,fun q hq hs=>?_⟩;simp only[List.map_append,List.mem_append,mC,List.map_nil,List.mem_singleton,intOf]at hs;rcases hs with hs|hs
  ·exact h1 q hq hs
  ·have R3:q=p:=by
    have:=sr L hn hq;rw[hs,sr L hn hp]at this;injection this with this;injection this with this;injection this with t1 t2;injection t2 with _ t2;injection t2 with t2 _;injection t1 with t1;injection t2 with _ t2;exact Prod.ext t1.symm oM
   rw[R3];exact hl
 ·exact .inr h1
theorem nL.cut{g:aS}{L0 L:List (ah×Nat)}{seen s':List D}{c:ah}{j:Nat}{q:ah×Nat}(hj:L[j]? =some q)(hq:q.1=c)(h:nL g L0 L seen)(hl:g.rules.any (gz (L.map (·.1)) c)=false):nL g L0 (L.eraseIdx j) s':=by
 have pQ:j<L.length:=(gS.1 hj).1;have hlen:=h.of.length_le;have hc:c∈L.map (·.1):=List.mem_map.2 ⟨q,mG hj,hq⟩;refine⟨(List.eraseIdx_sublist _ _).trans h.of,fun F hF hs x hx=>?_,.inr ?_,fun hf=>?_⟩
 ·have hxc:x≠c:=by
   rintro rfl;have:=CU (h.has F hF hs) (hF x hx);rw[hl]at this;cases this
  obtain⟨r,hr,rfl⟩:=List.mem_map.1 (h.has F hF hs x hx);obtain⟨i,hi⟩:=List.mem_iff_getElem?.1 hr;refine List.mem_map.2 ⟨r,List.mem_eraseIdx_iff_getElem?.2 ⟨i,?_,hi⟩,rfl⟩;rintro rfl;rw[hj]at hi;injection hi with hi;exact hxc (by rw[<-hi];exact hq)
 ·rw[List.length_eraseIdx];split<;>omega
 ·have e:=h.full hf;rw[<-e]at hf;rw[hf c hc]at hl;cases hl
def KG(g:aS)(hg:mK g)(NH:g.au.Nodup):mf prog (cJ prog) [] f225 0 [g.d] (fun _=> .none) (fun d _=>d= .bool (pH g)) (fun _ _=>False):=by
 refine aJ _ [.tmp 2] 42 rfl rfl rfl aj ?_;have fJ:=hg.A7;simp(disch:=omega) only[go_sem,aS.d,strs];refine bo g.au.length (fun j σ bx=>σ 1= .loc 1 1 0 0/\σ 3= .loc 3 1 0 0/\σ 10=strs g.au/\σ 11= .int .i64 g.au.length/\σ 12= .int .i64 j/\bx 1=⟨1,1,6,81,[g.d]⟩/\bx 3=⟨1,1,1,355,[.omap 8 1]⟩/\bx 8=⟨1,3,0,355,.int .i64 j::dD (jR (g.au.zipIdx.take j))⟩) ?_ ?_ ?_
 ·simp(disch:=omega) only[go_sem,aS.d,strs,List.take_zero];simp[jR,dD]
 ·rintro j σ bx hj ⟨q1,q3,og,HZ,Xq,b1,b3,b8⟩;obtain⟨c,hc⟩:=ba hj;have ar:(j:Int)<(g.au.length:Int):=oM;have oc:IntKind.i64.wrap ((j:Int)+1)=((j+1:Nat):Int):=aD oM;have hu:=BO (c:=(j:Int)) (v:=.bool true) (Uf NH hc);simp(disch:=omega) only[go_sem,q1,q3,og,HZ,Xq,b1,b3,b8,ar,hc,strs,hu,oc,fM];rw[IJ hc];simp[jR]
 ·rintro σ bx ⟨q1,q3,og,HZ,Xq,b1,b3,b8⟩;have ar:¬(g.au.length:Int)<(g.au.length:Int):=oM;simp(disch:=omega) only[go_sem,q1,HZ,Xq,b1,ar,strs,aS.d];refine bo g.au.length (fun k σ bx=>σ 1= .loc 1 1 0 0/\σ 3= .loc 3 1 0 0/\σ 21= .int .i64 g.au.length/\σ 22= .int .i64 k/\bx 1=⟨1,1,6,81,[g.d]⟩/\bx 3=⟨1,1,1,355,[.omap 8 1]⟩/\
   ∃L,bx 8=⟨1,3,0,355,.int .i64 g.au.length::dD (jR L)⟩/\Left g k L) ?_ ?_ ?_
  ·simp(disch:=omega) only[go_sem,q1,q3,b1,b3,b8,aS.d,strs];exact⟨_,by rw[<-List.length_zipIdx (l:=g.au) (i:=0),tL],Left.all g⟩
  ·rintro k σ bx hk ⟨q1,q3,Fm,Fo,b1,b3,L0,b8,Vw⟩;have ar:(k:Int)<(g.au.length:Int):=oM;have ji:IntKind.i64.wrap ((k:Int)+1)=((k+1:Nat):Int):=aD oM;simp(disch:=omega) only[go_sem,q3,Fm,Fo,b3,b8,ar];obtain⟨Ru,he⟩:∃Ru,(bx 25).ep+1=Ru:=⟨_,rfl⟩
   rw[he];refine Jp (fun σ bx=>σ 1= .loc 1 1 0 0/\σ 3= .loc 3 1 0 0/\σ 21= .int .i64 g.au.length/\σ 22= .int .i64 k/\σ 25= .loc 25 Ru 0 0/\bx 1=⟨1,1,6,81,[g.d]⟩/\bx 3=⟨1,1,1,355,[.omap 8 1]⟩/\
    ∃L seen,bx 8=⟨1,3,0,355,.int .i64 g.au.length::dD (jR L)⟩/\bx 25=⟨Ru,3,0,0,.omap 8 1:: .int .i64 g.au.length:: .int .i64 g.au.length::seen⟩/\nL g L0 L seen)
    (fun σ bx=>(iE ((bx 25).es.drop 3) ((bx 8).es.drop 1)).length) ?_ ?_
   ·simp(disch:=omega) only[go_sem,q1,q3,Fm,Fo,b1,b3,b8];exact⟨L0,[],rfl,rfl,nL.start Vw⟩
   ·rintro σ bx ⟨q1,q3,Fm,Fo,Xr,b1,b3,L,seen,b8,UP,hm⟩;simp(disch:=omega) only[go_sem,q1,q3,Fm,Fo,Xr,b1,b3,b8,UP,wM];have hz:=DB (hm.of.trans Vw.of);refine⟨?_,?_,fun hl=>⟨by rw[ji],L,rfl,nL.round Vw hm hl⟩⟩
    ·cases hL:L with
     |nil=>exact .inr (.inl rfl)
     |cons p L'=>exact .inr (.inr ⟨one p,by rw[vn];simp,by have:=hz.2 p (by rw[hL];simp);simp only[one,gQ];omega⟩)
    ·intro k1 v b hd;obtain⟨p,hp,tu,qj⟩:=wK.1 hd;obtain⟨rfl,rfl,rfl⟩:k1= .str p.1/\v= .bool true/\b=(p.2:Int):=by
      injection tu with tu;injection tu with t1 tu;injection tu with t2 tu;injection tu with t3 _;injection t3 with _ t3;exact⟨t1,t2,t3⟩
     have aef:=Pz seen hz.1 hp;have GX:∀(b:ae),(iE (List.drop 3 (bx 25).es) (List.drop 1 (bx 8).es))=iE seen (dD (jR L)):=fun _=>by rw[UP,b8];rfl
     rw[GX bx];simp(disch:=omega) only[go_sem,fM,UP,b8,tj,aef,q1,q3,b1,aS.d,strs];refine aC (Nq (n0:=9) (k:=100) (TD (e6:=(bx 6).ep+1) (e3:=1) (e8:=1) (n:=g.au.length) (c:=p.1) (m:=jR L) (t3:=355) (t6:=9) (t8:=355) (s3:=0) (by simp[ak]) (by simp[ak,b3]) (by simp[ak,b8]) (Qy L)) oM g.rules hg.zq hg.rules _ (fun _ _=>rfl)) rfl ?_;rintro d B ⟨rfl,hk⟩;have c1:=(hk 1 oM).trans (show _=bx 1 by simp[ak]);have c3:=(hk 3 oM).trans (show _=bx 3 by simp[ak]);have c8:=(hk 8 oM).trans (show _=bx 8 by simp[ak]);have c6:=hk 6 oM;have UX:=hk 25 oM;rw[b1]at c1;rw[b3]at c3;rw[b8]at c8;simp[ak]at c6 UX;rw[Qx]at *;cases hl:g.rules.any (gz (L.map (·.1)) p.1)
     ·obtain⟨j,e,d1,d2,d3⟩:=S4 (m:=jR L) (s:=p.1) (c:=(g.au.length:Int)) ⟨_,List.mem_map.2 ⟨p,hp,rfl⟩,rfl⟩;simp(disch:=omega) only[go_sem,nF,c1,c3,c8,c6,UX,d3,fM,q1,q3,Fm,Fo,Xr];have he:=E8 L j;obtain⟨q,oE,iK⟩:∃q,L[j]? =some q/\q.1=p.1:=by
       simp only[jR,gM,mS]at d1;obtain⟨q,h1,h2⟩:=d1;exact⟨q,h1,by rw[<-d2,<-h2]⟩
      rw[he];exact⟨⟨by simp[aS.d,strs],L.eraseIdx j,_,rfl,rfl,hm.cut oE iK hl⟩,J8 (List.eraseIdx_sublist _ _) hp qj⟩
     ·simp(disch:=omega) only[go_sem,nT,c1,c3,c8,UX,q1,q3,Fm,Fo,Xr];exact⟨⟨by simp[aS.d,strs],L,_,rfl,rfl,hm.jb hz.1 hp hl⟩,J8 (List.Sublist.refl _) hp qj⟩
  ·rintro σ bx ⟨q1,q3,Fm,Fo,b1,b3,L,b8,hL⟩;have ar:¬(g.au.length:Int)<(g.au.length:Int):=oM;simp(disch:=omega) only[go_sem,q3,Fm,Fo,b3,b8,ar,Gv];rw[MQ hL.sub hL.fin hL.has];cases L<;>simp[jR]
def KF(g:aS)(hg:mK g)(NH:g.au.Nodup):ao prog 225 [g.d] (.bool (pH g)):=
 (aI mixed (KG g hg NH) rfl aj rfl).to (fun _ _ h=>h) (fun d' bx' h=>⟨.bool (pH g),by rw[h];rfl,.refl _⟩)
def eT(B sz el:Nat)(l:List D)(bx:ae)(d:D)(bx':ae):Prop:=
 ((l=[]/\aX bx' [B+5] el sz d [])\/(l≠[]/\∃e,d= .bE (B+7) e sz 0 l.length/\bx' (B+7)=⟨e,1,sz,el,l⟩))/\∀s,s<B->bx' s=bx s
theorem eT.jb{B sz el:Nat}{l:List D}{bx bx':ae}{d:D}(h:eT B sz el l bx d bx'):∀s,s<B->bx' s=bx s:=h.2
theorem eT.own{B sz el:Nat}{l:List D}{bx bx':ae}{d:D}(h:eT B sz el l bx d bx')(hl:l≠[]):∃e,d= .bE (B+7) e sz 0 l.length/\bx' (B+7)=⟨e,1,sz,el,l⟩:=by
 rcases h.1 with h|h
 ·exact(hl h.1).elim
 ·exact h.2
theorem eT.none{B sz el:Nat}{bx bx':ae}{d:D}(h:eT B sz el [] bx d bx'):aX bx' [B+5] el sz d []:=by
 rcases h.1 with h|h
 ·exact h.2
 ·exact(h.1 rfl).elim
def Gl(B:Nat)(l:List Part)(hl:l.length<=65536)(bx:ae):bj prog 228 0 [.sl 3 (l.map Part.d)] bx (eT B 3 247 (l.map Part.d) bx) (fun _ _=>False):=by
 refine aI (fn:=f228) (tab:=[(1000005,[])]) (base:=B) mixed ?_ rfl aj rfl;refine aJ _ [.tmp 2] 8 rfl rfl rfl aj ?_;cases l with
 |nil=>
  simp(disch:=omega) only[go_sem,List.map_nil,List.isEmpty_nil];refine⟨⟨.inl ⟨rfl,.nil _ _ _ _⟩,fun _ _=>rfl⟩,?_⟩;refine iB (ts:=[B+5]) (xs:=[]) (.inr ⟨B+5,(bx (B+5)).ep+1,by simp,rfl,by simp[ak]⟩) ?_;simp(disch:=omega) only[go_sem];exact⟨.inl ⟨rfl,.inr ⟨B+5,(bx (B+5)).ep+1,by simp,rfl,by simp[ak]⟩⟩,fun s hs=>by simp(disch:=omega) only[aB]⟩
 |cons x l=>
  simp only[List.length_cons]at hl;simp(disch:=omega) only[go_sem,mC,List.isEmpty_cons];refine gP (ts:=[B+5]) (xs:=[]) (.inr ⟨B+5,(bx (B+5)).ep+1,by simp,rfl,by simp[ak]⟩) sI sG (by simp;omega) oM oM sI fun e' bx' h1 h2=>?_;simp(disch:=omega) only[go_sem];refine⟨.inr ⟨by simp,e',by simp,by simpa using h1⟩,fun s hs=>?_⟩;rw[h2 s oM (by simp;omega)];simp(disch:=omega) only[aB]
def Pc(B:Nat)(l:List Entry)(hl:l.length<=65536)(bx:ae):bj prog 226 0 [.sl 5 (l.map Entry.d)] bx (eT B 5 138 (l.map Entry.d) bx) (fun _ _=>False):=by
 refine aI (fn:=f226) (tab:=[(1000005,[])]) (base:=B) mixed ?_ rfl aj rfl;refine aJ _ [.tmp 2] 8 rfl rfl rfl aj ?_;cases l with
 |nil=>
  simp(disch:=omega) only[go_sem,List.map_nil,List.isEmpty_nil];refine⟨⟨.inl ⟨rfl,.nil _ _ _ _⟩,fun _ _=>rfl⟩,?_⟩;refine iB (ts:=[B+5]) (xs:=[]) (.inr ⟨B+5,(bx (B+5)).ep+1,by simp,rfl,by simp[ak]⟩) ?_;simp(disch:=omega) only[go_sem];exact⟨.inl ⟨rfl,.inr ⟨B+5,(bx (B+5)).ep+1,by simp,rfl,by simp[ak]⟩⟩,fun s hs=>by simp(disch:=omega) only[aB]⟩
 |cons x l=>
  simp only[List.length_cons]at hl;simp(disch:=omega) only[go_sem,mC,List.isEmpty_cons];refine gP (ts:=[B+5]) (xs:=[]) (.inr ⟨B+5,(bx (B+5)).ep+1,by simp,rfl,by simp[ak]⟩) sI sG (by simp;omega) oM oM sI fun e' bx' h1 h2=>?_;simp(disch:=omega) only[go_sem];refine⟨.inr ⟨by simp,e',by simp,by simpa using h1⟩,fun s hs=>?_⟩;rw[h2 s oM (by simp;omega)];simp(disch:=omega) only[aB]
def Pd(B:Nat)(l:List aE)(hl:l.length<=65536)(bx:ae):bj prog 227 0 [.sl 5 (l.map aE.d)] bx (eT B 5 142 (l.map aE.d) bx) (fun _ _=>False):=by
 refine aI (fn:=f227) (tab:=[(1000005,[])]) (base:=B) mixed ?_ rfl aj rfl;refine aJ _ [.tmp 2] 8 rfl rfl rfl aj ?_;cases l with
 |nil=>
  simp(disch:=omega) only[go_sem,List.map_nil,List.isEmpty_nil];refine⟨⟨.inl ⟨rfl,.nil _ _ _ _⟩,fun _ _=>rfl⟩,?_⟩;refine iB (ts:=[B+5]) (xs:=[]) (.inr ⟨B+5,(bx (B+5)).ep+1,by simp,rfl,by simp[ak]⟩) ?_;simp(disch:=omega) only[go_sem];exact⟨.inl ⟨rfl,.inr ⟨B+5,(bx (B+5)).ep+1,by simp,rfl,by simp[ak]⟩⟩,fun s hs=>by simp(disch:=omega) only[aB]⟩
 |cons x l=>
  simp only[List.length_cons]at hl;simp(disch:=omega) only[go_sem,mC,List.isEmpty_cons];refine gP (ts:=[B+5]) (xs:=[]) (.inr ⟨B+5,(bx (B+5)).ep+1,by simp,rfl,by simp[ak]⟩) sI sG (by simp;omega) oM oM sI fun e' bx' h1 h2=>?_;simp(disch:=omega) only[go_sem];refine⟨.inr ⟨by simp,e',by simp,by simpa using h1⟩,fun s hs=>?_⟩;rw[h2 s oM (by simp;omega)];simp(disch:=omega) only[aB]
def mI(l:List (ah×Nat)):PM:=l.map fun p=>(p.1,.int .i64 (p.2:Int),(p.2:Int))
def num(l:List ah)(s:ah):Int:=if l.contains s then(l.idxOf s:Int)else 0
def HB{l:List ah}(hn:l.Nodup){j:Nat}{c:ah}(h:l[j]? =some c):c∉l.take j:=by
 intro hm;obtain⟨i,hi,hc⟩:=List.mem_iff_getElem.1 hm;obtain⟨hj,yD⟩:=gS.1 h;rw[List.getElem_take]at hc;simp at hi;have:=(List.getElem_inj hn).1 (hc.trans yD.symm);omega
def Rz(l:List ah)(hn:l.Nodup)(s:ah):∃r,fb .str (.str s) (dD (mI l.zipIdx)) 0=some r/\((r=none/\l.contains s=false/\num l s=0)\/∃j,r=some (j,.int .i64 (num l s))/\l.contains s=true):=by
 rcases qw s (mI l.zipIdx) 0 with⟨h1,h2⟩|⟨j,e,h1,h2,h3⟩
 ·have hs:l.contains s=false:=by
   rw[Bool.eq_false_iff,Ne,List.contains_iff_mem];intro hm;obtain⟨i,hi⟩:=List.mem_iff_getElem?.1 hm;refine h2 (s,.int .i64 (i:Int),(i:Int)) (List.mem_map.2 ⟨(s,i),?_,rfl⟩) rfl;exact mG (i:=i) (by rw[List.getElem?_zipIdx,hi];simp)
  exact⟨none,h1,.inl ⟨rfl,hs,by unfold num;rw[hs];rfl⟩⟩
 ·simp only[mI,gM,List.getElem?_zipIdx,Option.map_map,mS]at h2;obtain⟨c,hc,rfl⟩:=h2;simp only[Function.comp,Nat.zero_add]at h1 h3;subst h3;have hm:l.contains c=true:=List.contains_iff_mem.2 (mG hc);have hi:l.idxOf c=j:=(yO l j c hc (HB hn hc)).1;exact⟨_,h1,.inr ⟨j,by simp only[num,hm,if_true,hi],hm⟩⟩
def Va{e e2 t t2 s2:Nat}{n:Int}{l:List ah}{bx0:ae}(hn:l.Nodup)(h4:bx0 4=⟨e,1,1,t,[.omap 29 e2]⟩)(h29:bx0 29=⟨e2,3,s2,t2,.int .i64 n::dD (mI l.zipIdx)⟩):
 FD 223 [.loc 4 e 0 0] 30 bx0 l.contains:=by
 intro bx s hb hs;refine aI (fn:=f223) (tab:=[]) (base:=100000) mixed ?_ rfl aj rfl;refine aJ _ [.tmp 3,.tmp 4] 15 rfl rfl rfl aj ?_;have g4:=(hb 4 oM).trans h4;have g29:=(hb 29 oM).trans h29;obtain⟨r,hr,⟨rfl,hc,_⟩|⟨j,rfl,hc⟩⟩:=Rz l hn s
 ·simp(disch:=omega) only[go_sem,g4,g29,hr];exact⟨⟨_,by rw[hc]⟩,fun _ _=>trivial⟩
 ·simp(disch:=omega) only[go_sem,g4,g29,hr];exact⟨⟨_,by rw[hc]⟩,fun _ _=>trivial⟩
end Go.V.Ty
