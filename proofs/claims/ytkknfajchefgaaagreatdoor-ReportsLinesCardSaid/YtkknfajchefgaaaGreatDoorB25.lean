/- Lemmas on plain data and programs: part B25. -/
import Derived.Test.YtkknfajchefgaaaGreatDoorB23
set_option linter.all false
set_option maxHeartbeats 8000000
set_option maxRecDepth 100000
namespace Go.V.Gr
open Go.Proofs Go.RowKit Go.V.Lx
abbrev Rd(α:Type):=List Tk->Except (List Tk) (α×List Tk)
def Rd.pure{α:Type}(a:α):Rd α:=fun l=> .ok (a,l)
def Rd.bind{α β:Type}(p:Rd α)(f:α->Rd β):Rd β:=fun l=>match p l with
 | .ok (a,r)=>f a r
 | .error r=> .error r
def eY(text:ae):List Tk->Bool
 |x::_=>decide (x.k≠2)&&decide (x.t=text)
 |[]=>false
def qf:List Tk->Bool
 |x::_=>decide (x.k=1)&& !lP.contains x.t
 |[]=>false
def oR:List Tk->Bool
 |x::_=>decide (x.k=2)
 |[]=>false
def want(text:ae):Rd Unit:=fun l=>if eY text l=true then .ok ((),l.tail)else .error l
def bare:Rd ae:=fun l=>match l with
 |x::r=>if qf (x::r)=true then .ok (x.t,r)else .error (x::r)
 |[]=> .error []
def number:Rd Int:=fun l=>match l with
 |x::r=>if oR (x::r)=true then .ok (x.n,r)else .error (x::r)
 |[]=> .error []
def gq(text:ae):Rd ae:=(want text).bind fun _=>bare
def qI:Rd Int:=(want tp).bind fun _=>number.bind fun n=>(want [59]).bind fun _=>Rd.pure n
def many{α:Type}(more:List Tk->Bool)(item:Rd α):Nat->Rd (List α)
 |0=>Rd.pure []
 |n+1=>fun l=>if more l=true then(item.bind fun a=>(many more item n).bind fun xs=>Rd.pure (a::xs)) l else .ok ([],l)
def cb{α:Type}(more:List Tk->Bool)(item:Rd α):Rd (List α):=fun l=>many more item l.length l
def category:Rd ae:=(gq h_).bind fun s=>(want [59]).bind fun _=>Rd.pure s
def fG:Rd Entry:=(gq gL).bind fun t=>(gq EL).bind fun c=>(gq iC).bind fun g=>(cb (eY [44]) (gq [44])).bind fun gs=>qI.bind fun n=>Rd.pure ⟨t,c,0,g::gs,n⟩
def mn:Rd Part:=fun l=>if eY [58] l=true then((gq [58]).bind fun s=>Rd.pure ⟨[],0,s⟩) l else(bare.bind fun s=>Rd.pure ⟨s,0,[]⟩) l
def mi:Rd bt:=fun l=>if eY [58] l=true then((gq [58]).bind fun s=>Rd.pure ⟨0,s⟩) l else(number.bind fun n=>Rd.pure ⟨n,[]⟩) l
def wm(l:List Tk):Bool:=qf l||eY [58] l
def uH(l:List Tk):Bool:=oR l||eY [58] l
def gI:Rd aF:=(gq gJ).bind fun c=>(want [61]).bind fun _=>mn.bind fun p=>(cb wm mn).bind fun ps=>(want iC).bind fun _=>mi.bind fun g=>(cb uH mi).bind fun gs=>qI.bind fun n=>Rd.pure ⟨c,0,p::ps,g::gs,n⟩
def kO:Rd (ae×List ae×ae):=(gq kN).bind fun n=>(want [59]).bind fun _=>(cb (eY h_) category).bind fun cs=>(gq qF).bind fun s=>(want [59]).bind fun _=>Rd.pure (n,cs,s)
def MK:Rd Unit:=fun l=>match l with
 |[]=> .ok ((),[])
 |x::r=> .error (x::r)
def ir:Rd aA:=kO.bind fun h=>(cb (eY gL) fG).bind fun es=>(cb (eY gJ) gI).bind fun rs=>MK.bind fun _=>Rd.pure ⟨h.1,h.2.1,h.2.2,0,es,rs⟩
def xw(fin:Nat):List Tk->Int
 |x::_=>x.a
 |[]=>fin
def iy(l:List Tk)(fin:Nat):aA×Int×Int:=match ir l with
 | .ok (g,_)=>(g,0,0)
 | .error r=>(aA.zero,xw fin r,250)
def cF(s:ae):aA×Int×Int:=match jP s with
 |(l,at_,e)=>if e=0 then iy l s.length else(aA.zero,at_,e)
def jU{α:Type}(p:Rd α):Prop:=∀l,match p l with
 | .ok (_,r)=>∃k,r=l.drop k
 | .error r=>∃k,r=l.drop k
def eZ{α:Type}(a:α):jU (Rd.pure a):=fun l=>⟨0,sI⟩
theorem jU.bind{α β:Type}{p:Rd α}{f:α->Rd β}(hp:jU p)(hf:∀a,jU (f a)):jU (p.bind f):=fun l=>by
 have h:=hp l;unfold Rd.bind;cases nF:p l with
 |error r=>grind
 |ok q=>
  obtain⟨a,r⟩:=q;rw[nF]at h;obtain⟨k,rfl⟩:=h;have h2:=hf a (l.drop k);simp only at h2⊢;cases hq:f a (l.drop k)with
  |error r=>
   rw[hq]at h2;obtain⟨j,rfl⟩:=h2
   exact auP
  |ok q=>
   obtain⟨b,r⟩:=q;rw[hq]at h2;obtain⟨j,rfl⟩:=h2
   exact auP
def xG(i:Nat)(l m:List Tk):Prop:=i<=l.length/\i<=m.length/\∀j,j<i->∃x y,l[j]? =some x/\m[j]? =some y/\x.k=y.k/\x.t=y.t/\x.n=y.n
theorem xG.drop{i k:Nat}{l m:List Tk}(h:xG i l m)(hk:k<=i):xG (i - k) (l.drop k) (m.drop k):=by
 obtain⟨h1,h2,h3⟩:=h;refine⟨awN,awN,fun j hj=>?_⟩;obtain⟨x,y,e1,e2,e3⟩:=h3 (k+j) oM
 exact awN
def Loc{α:Type}(p:Rd α):Prop:=∀(i:Nat) (l m:List Tk),xG i l m->
 (∃a k,k<=i/\p l= .ok (a,l.drop k)/\p m= .ok (a,m.drop k)/\k<i)\/
 (∃k,k<i/\p l= .error (l.drop k)/\p m= .error (m.drop k))\/
 (∃k,i<=k/\((∃a,p m= .ok (a,m.drop k))\/p m= .error (m.drop k)))
end Go.V.Gr
namespace Go.V.Gr
open Go.Proofs Go.Proofs.Tryz Go.RowKit Go.V.Lx
structure G6 where
 a:D
 b:D
 c:D
 d:D
 e:D
 f:D
def pd(l:List Tk)(n:Nat)(g:G6):D:=.agg [.sl 4 (l.map Tok.d),.int .i64 (n:Int),g.a,g.b,g.c,g.d,g.e,g.f]
def cS(bx:ab)(e:Nat)(l:List Tk)(n:Nat)(g:G6):Prop:=bx 14=⟨e,1,8,219,[pd l n g]⟩
def sb(bx bx':ab):Prop:=∀q,q≠14->bx' q=bx q
theorem sb.refl(bx:ab):sb bx bx:=fun _ _=>rfl
theorem sb.trans{a b c:ab}(h:sb a b)(k:sb b c):sb a c:=fun q h1=>(k q h1).trans (h q h1)
def sV(n:Nat)(l:List Tk):D:=.bK 215 (.agg [.int .i64 (xw n l)])
variable {e:Nat} {l:List Tk} {n:Nat} {g:G6} {bx:ab}
def IK(t:ae)(hl:l.length<=140737488355328)(hb:cS bx e l n g):az prog 214 0 [.loc 14 e 0 0,.str t] bx (fun d bx'=>d= .bool (eY t l)/\bx'=bx) (fun _ _=>False):=by
 refine fB 32 0 f214 [] [.tmp 4] ?_;have hb:bx 14=⟨e,1,8,219,[pd l n g]⟩:=hb;cases l with
 |nil=>
  simp(disch:=omega) only[go_sem,hb,pd];simp[eY]
 |cons x r=>
  have h0:(0:Int)<((r.length+1:Nat):Int):=oM;repeat' first|with_reducible apply zJ<;>intro _|simp(disch:=omega) only[go_sem, *,hb,pd,Tok.d,h0]
  all_goals (simp[eY, *];done)
theorem Dt(r:List Tk):List.take r.length (r.map Tok.d)=r.map Tok.d:=aeu sI
def G0(hl:l.length<=140737488355328)(hb:cS bx e l n g):az prog 224 0 [.loc 14 e 0 0] bx (fun d bx'=>d= .bool (oR l)/\bx'=bx) (fun _ _=>False):=by
 refine fB 19 0 f224 [] [.tmp 2] ?_;have hb:bx 14=⟨e,1,8,219,[pd l n g]⟩:=hb;cases l with
 |nil=>
  simp(disch:=omega) only[go_sem,hb,pd];simp[oR]
 |cons x r=>
  have h0:(0:Int)<((r.length+1:Nat):Int):=oM;repeat' first|with_reducible apply zJ<;>intro _|simp(disch:=omega) only[go_sem, *,hb,pd,Tok.d,h0]
  grind [oR]
def RU:av prog 154 [] (strs lP):=by
 refine fF f154 [] [.tmp 0] ?_;simp(disch:=omega) only[go_sem];exact aq rfl
def NN(hl:l.length<=140737488355328)(hb:cS bx e l n g):az prog 220 0 [.loc 14 e 0 0] bx (fun d bx'=>d= .bool (qf l)/\bx'=bx) (fun _ _=>False):=by
 refine fB 31 0 f220 [(1,[(11,7),(11,4)])] [.tmp 2] ?_;have hb:bx 14=⟨e,1,8,219,[pd l n g]⟩:=hb;cases l with
 |nil=>
  simp(disch:=omega) only[go_sem,hb,pd];simp[qf]
 |cons x r=>
  have h0:(0:Int)<((r.length+1:Nat):Int):=oM;have hc:=wM lP x.t awL;repeat' first|with_reducible apply zJ<;>intro _|with_reducible refine pX (RU) sG ?_|simp(disch:=omega) only[go_sem, *,hb,pd,Tok.d,h0]
  ·rename_i hk;refine aI hc au9 ?_;simp(disch:=omega) only[go_sem,hk];simp[qf,hk]
  grind [qf]
def Gg(hl:l.length<=140737488355328)(hb:cS bx e l n g):az prog 90 0 [.loc 14 e 0 0] bx (fun _ _=>False) (fun d bx'=>d=sV n l/\bx'=bx):=by
 refine fB 23 0 f90 [] [] ?_;have hb:bx 14=⟨e,1,8,219,[pd l n g]⟩:=hb;cases l with
 |nil=>
  simp(disch:=omega) only[go_sem,hb,pd];rfl
 |cons x r=>
  have h0:(0:Int)<((r.length+1:Nat):Int):=oM;repeat' first|with_reducible apply zJ<;>intro _|simp(disch:=omega) only[go_sem, *,hb,pd,Tok.d,h0]
  rfl
def agK(t:ae)(hl:l.length<=140737488355328)(hb:cS bx e l n g):az prog 212 0 [.loc 14 e 0 0,.str t] bx (fun d bx'=>d= .bool (eY t l)/\cS bx' e (if eY t l then l.tail else l) n g/\sb bx bx') (fun _ _=>False):=by
 refine fB 19 0 f212 [] [.tmp 4] ?_;have dQ:bx 14=⟨e,1,8,219,[pd l n g]⟩:=hb;simp(disch:=omega) only[go_sem,dQ,pd];refine ao (IK t hl hb) rfl ?_;rintro d bx' ⟨rfl,rfl⟩;simp(disch:=omega) only[go_sem,dQ,pd];refine aO (fun h1=>?_) (fun h1=>?_)
 ·cases l with
  |nil=>simp[eY]at h1
  |cons x r=>
   have h0:(1:Int)<=((r.length+1:Nat):Int):=oM;repeat' first|with_reducible apply zJ<;>intro _|simp(disch:=omega) only[go_sem, *,dQ,pd,h0]
   refine⟨?_,fun q hq=>awa⟩;simp[cS,ah,h1,pd,Dt]
 ·simp(disch:=omega) only[go_sem,dQ,pd];exact⟨awN,fun q hq=>rfl⟩
def FT{α:Type}(p:Rd α)(enc:α->D)(e n:Nat)(g:G6)(bx:ab)(l:List Tk):D->ab->Prop:=fun d bx'=>∃a r,p l= .ok (a,r)/\d=enc a/\cS bx' e r n g/\sb bx bx'
def FQ{α:Type}(p:Rd α)(n:Nat)(bx:ab)(l:List Tk):D->ab->Prop:=fun d bx'=>∃r,p l= .error r/\d=sV n r/\sb bx bx'
def vo(t:ae)(hl:l.length<=140737488355328)(hb:cS bx e l n g):az prog 158 0 [.loc 14 e 0 0,.str t] bx (FT (want t) (fun _=> .aL []) e n g bx l) (FQ (want t) n bx l):=by
 refine fB 10 0 f158 [] [] ?_;simp(disch:=omega) only[go_sem];refine ao (agK t hl hb) rfl ?_;rintro d bx' ⟨rfl,h2,h3⟩;simp(disch:=omega) only[go_sem];refine aO (fun h1=>?_) (fun h1=>?_)
 ·simp(disch:=omega) only[go_sem];rw[aaO h1]at h2;exact⟨(),_,by simp[want,h1],rfl,h2,h3⟩
 ·simp(disch:=omega) only[go_sem];rw[aaw (by simp[h1])]at h2;refine bj (Gg hl h2) rfl (fun d bx' hp=>hp.elim) (fun d bx' hp=>?_);obtain⟨rfl,rfl⟩:=hp;simp(disch:=omega) only[go_sem];exact⟨_,by simp[want,h1],rfl,h3⟩
def FY(hl:l.length<=140737488355328)(hb:cS bx e l n g):az prog 211 0 [.loc 14 e 0 0] bx (FT bare .str e n g bx l) (FQ bare n bx l):=by
 refine fB 25 0 f211 [] [.tmp 2] ?_;have dQ:bx 14=⟨e,1,8,219,[pd l n g]⟩:=hb;simp(disch:=omega) only[go_sem];refine ao (NN hl hb) rfl ?_;rintro d bx' ⟨rfl,rfl⟩;simp(disch:=omega) only[go_sem];refine aO (fun h1=>?_) (fun h1=>?_)
 ·cases l with
  |nil=>simp[qf]at h1
  |cons x r=>
   have h0:(1:Int)<=((r.length+1:Nat):Int):=oM;have Gv:(0:Int)<((r.length+1:Nat):Int):=oM;repeat' first|with_reducible apply zJ<;>intro _|simp(disch:=omega) only[go_sem, *,dQ,pd,Tok.d,h0,Gv]
   refine⟨x.t,r,by simp[bare,h1],rfl,?_,fun q hq=>awa⟩
   grind [cS,ah,pd,Dt]
 ·simp(disch:=omega) only[go_sem];refine bj (Gg hl hb) rfl (fun d bx' hp=>hp.elim) (fun d bx' hp=>?_);obtain⟨rfl,rfl⟩:=hp;simp(disch:=omega) only[go_sem];refine⟨l,?_,rfl,fun q hq=>rfl⟩;cases l<;>grind [bare]
def N8(hl:l.length<=140737488355328)(hb:cS bx e l n g):az prog 268 0 [.loc 14 e 0 0] bx (FT number (.int .i64) e n g bx l) (FQ number n bx l):=by
 refine fB 25 0 f268 [] [.tmp 2] ?_;have dQ:bx 14=⟨e,1,8,219,[pd l n g]⟩:=hb;simp(disch:=omega) only[go_sem];refine ao (G0 hl hb) rfl ?_;rintro d bx' ⟨rfl,rfl⟩;simp(disch:=omega) only[go_sem];refine aO (fun h1=>?_) (fun h1=>?_)
 ·cases l with
  |nil=>simp[oR]at h1
  |cons x r=>
   have h0:(1:Int)<=((r.length+1:Nat):Int):=oM;have Gv:(0:Int)<((r.length+1:Nat):Int):=oM;repeat' first|with_reducible apply zJ<;>intro _|simp(disch:=omega) only[go_sem, *,dQ,pd,Tok.d,h0,Gv]
   refine⟨x.n,r,by simp[number,h1],rfl,?_,fun q hq=>awa⟩
   grind [cS,ah,pd,Dt]
 ·simp(disch:=omega) only[go_sem];refine bj (Gg hl hb) rfl (fun d bx' hp=>hp.elim) (fun d bx' hp=>?_);obtain⟨rfl,rfl⟩:=hp;simp(disch:=omega) only[go_sem];refine⟨l,?_,rfl,fun q hq=>rfl⟩;cases l<;>grind [number]
theorem jU.len{α:Type}{p:Rd α}(hp:jU p){l r:List Tk}{a:α}(h:p l= .ok (a,r)):r.length<=l.length:=by
 have:=hp l
 exact awN
def uv{t:ae}{l r:List Tk}{a:Unit}(h:want t l= .ok (a,r)):r.length<l.length:=by
 unfold want at h;split at h
 ·rename_i h1;injection h with h;injection h with _ h;subst h;cases l<;>grind [eY]
 ·exact awI
def qz(t:ae)(hl:l.length<=140737488355328)(hb:cS bx e l n g):az prog 157 0 [.loc 14 e 0 0,.str t] bx (FT (gq t) .str e n g bx l) (FQ (gq t) n bx l):=by
 refine fB 10 0 f157 [] [.tmp 4] ?_;simp(disch:=omega) only[go_sem];refine bj (vo t hl hb) rfl (fun d bx' hp=>?_) (fun d bx' hp=>?_)
 ·obtain⟨a,r,h1,rfl,h2,h3⟩:=hp;have:=uv h1;simp(disch:=omega) only[go_sem];refine bj (FY oM h2) rfl (fun d aT hp=>?_) (fun d aT hp=>?_)
  ·obtain⟨s,r2,g1,rfl,g2,g3⟩:=hp;simp(disch:=omega) only[go_sem];exact⟨s,r2,by simp_all[gq,Rd.bind],rfl,g2,h3.trans g3⟩
  ·obtain⟨r2,g1,rfl,g3⟩:=hp;simp(disch:=omega) only[go_sem];exact⟨r2,by simp_all[gq,Rd.bind],rfl,h3.trans g3⟩
 ·obtain⟨r,h1,rfl,h3⟩:=hp;simp(disch:=omega) only[go_sem];exact⟨r,by simp only[gq,Rd.bind,h1],rfl,h3⟩
def Yb{l r:List Tk}{a:ae}(h:bare l= .ok (a,r)):r.length<l.length:=by
 unfold bare at h
 exact awN
def Ti{l r:List Tk}{a:Int}(h:number l= .ok (a,r)):r.length<l.length:=by
 unfold number at h
 exact awN
def cj{α β:Type}{p:Rd α}{f:α->Rd β}{l:List Tk}{b:β}{r:List Tk}(h:p.bind f l= .ok (b,r)):∃a r1,p l= .ok (a,r1)/\f a r1= .ok (b,r):=by grind [Rd.bind]
def Zy{t:ae}{l r:List Tk}{a:ae}(h:gq t l= .ok (a,r)):r.length<l.length:=by
 obtain⟨_,r1,h1,h2⟩:=cj h;have:=uv h1;have:=Yb h2;exact oM
def UP(hl:l.length<=140737488355328)(hb:cS bx e l n g):az prog 216 0 [.loc 14 e 0 0] bx (FT qI (.int .i64) e n g bx l) (FQ qI n bx l):=by
 refine fB 11 0 f216 [] [.tmp 2] ?_;simp(disch:=omega) only[go_sem];refine bj (vo tp hl hb) rfl (fun d bx1 hp=>?_) (fun d bx1 hp=>?_)
 ·obtain⟨a,r1,h1,rfl,h2,h3⟩:=hp;have:=uv h1;simp(disch:=omega) only[go_sem];refine bj (N8 oM h2) rfl (fun d aT hp=>?_) (fun d aT hp=>?_)
  ·obtain⟨s,r2,g1,rfl,g2,g3⟩:=hp;have:=Ti g1;simp(disch:=omega) only[go_sem];refine bj (vo [59] oM g2) rfl (fun d jD hp=>?_) (fun d jD hp=>?_)
   ·obtain⟨_,r3,k1,rfl,k2,k3⟩:=hp;simp(disch:=omega) only[go_sem];exact⟨s,r3,by simp_all[qI,Rd.bind,Rd.pure],rfl,k2,(h3.trans g3).trans k3⟩
   ·obtain⟨r3,k1,rfl,k3⟩:=hp;simp(disch:=omega) only[go_sem];exact⟨r3,by simp_all[qI,Rd.bind],rfl,(h3.trans g3).trans k3⟩
  ·obtain⟨r2,g1,rfl,g3⟩:=hp;simp(disch:=omega) only[go_sem];exact⟨r2,by simp_all[qI,Rd.bind],rfl,h3.trans g3⟩
 ·obtain⟨r1,h1,rfl,h3⟩:=hp;simp(disch:=omega) only[go_sem];exact⟨r1,by simp only[qI,Rd.bind,h1],rfl,h3⟩
def Sf(hl:l.length<=140737488355328)(hb:cS bx e l n g):az prog 161 0 [.loc 14 e 0 0] bx (FT category .str e n g bx l) (FQ category n bx l):=by
 refine fB 9 0 f161 [] [.tmp 2] ?_;simp(disch:=omega) only[go_sem];refine bj (qz h_ hl hb) rfl (fun d bx1 hp=>?_) (fun d bx1 hp=>?_)
 ·obtain⟨a,r1,h1,rfl,h2,h3⟩:=hp;have:=Zy h1;simp(disch:=omega) only[go_sem];refine bj (vo [59] oM h2) rfl (fun d jD hp=>?_) (fun d jD hp=>?_)
  ·obtain⟨_,r3,k1,rfl,k2,k3⟩:=hp;simp(disch:=omega) only[go_sem];exact⟨a,r3,by simp_all[category,Rd.bind,Rd.pure],rfl,k2,h3.trans k3⟩
  ·obtain⟨r3,k1,rfl,k3⟩:=hp;simp(disch:=omega) only[go_sem];exact⟨r3,by simp_all[category,Rd.bind],rfl,h3.trans k3⟩
 ·obtain⟨r1,h1,rfl,h3⟩:=hp;simp(disch:=omega) only[go_sem];exact⟨r1,by simp only[category,Rd.bind,h1],rfl,h3⟩
def Ptr(bx:ab)(s k e:Nat):Prop:=bx s=⟨k,1,1,217,[.loc 14 e 0 0]⟩
def L3(bx:ab)(s k:Nat)(t:ae):Prop:=bx s=⟨k,1,1,9,[.str t]⟩
def Ag(b:Nat)(t:ae):az prog 160 0 [.loc 14 e 0 0,.str t] bx (fun d bx'=>∃k2 k3,d= .fn (.func 213) [.loc (b+2) k2 0 0,.loc (b+3) k3 0 0]/\Ptr bx' (b+2) k2 e/\L3 bx' (b+3) k3 t/\∀q,q≠b+2->q≠b+3->bx' q=bx q) (fun _ _=>False):=by
 refine fB 6 b f160 [] [.tmp 4] ?_;simp(disch:=omega) only[go_sem];simp_all[Ptr,ah,L3]
def xL(s1 s2 k1 k2:Nat)(t:ae)(hl:l.length<=140737488355328)(hb:cS bx e l n g)(h1:Ptr bx s1 k1 e)(h2:L3 bx s2 k2 t):az prog 213 0 [.loc s1 k1 0 0,.loc s2 k2 0 0] bx (fun d bx'=>d= .bool (eY t l)/\bx'=bx) (fun _ _=>False):=by
 refine fB 6 0 f213 [] [.tmp 2] ?_;have h1:bx s1=⟨k1,1,1,217,[.loc 14 e 0 0]⟩:=h1;have h2:bx s2=⟨k2,1,1,9,[.str t]⟩:=h2;simp(disch:=omega) only[go_sem,h1,h2];refine ao (IK t hl hb) rfl ?_;rintro d bx' ⟨rfl,rfl⟩;simp(disch:=omega) only[go_sem]
def Yr(s1 k1:Nat)(hl:l.length<=140737488355328)(hb:cS bx e l n g)(h1:Ptr bx s1 k1 e):az prog 215 0 [.loc s1 k1 0 0] bx (FT (gq [44]) .str e n g bx l) (FQ (gq [44]) n bx l):=by
 refine fB 4 0 f215 [] [.tmp 1] ?_;have h1:bx s1=⟨k1,1,1,217,[.loc 14 e 0 0]⟩:=h1;simp(disch:=omega) only[go_sem,h1];refine bj (qz [44] hl hb) rfl (fun d bx1 hp=>?_) (fun d bx1 hp=>?_)
 ·obtain⟨a,r1,h1,rfl,h2,h3⟩:=hp;simp(disch:=omega) only[go_sem];exact⟨a,r1,h1,rfl,h2,h3⟩
 ·obtain⟨r1,h1,rfl,h3⟩:=hp;simp(disch:=omega) only[go_sem];exact⟨r1,h1,rfl,h3⟩
def acQ(s1 k1:Nat)(hl:l.length<=140737488355328)(hb:cS bx e l n g)(h1:Ptr bx s1 k1 e):az prog 219 0 [.loc s1 k1 0 0] bx (fun d bx'=>d= .bool (wm l)/\bx'=bx) (fun _ _=>False):=by
 refine fB 8 0 f219 [] [.tmp 1] ?_;have h1:bx s1=⟨k1,1,1,217,[.loc 14 e 0 0]⟩:=h1;simp(disch:=omega) only[go_sem,h1];refine ao (NN hl hb) rfl ?_;rintro d bx' ⟨rfl,rfl⟩;cases h:qf l with
 |true=>
  simp(disch:=omega) only[go_sem,h1,h];simp[wm,h]
 |false=>
  simp(disch:=omega) only[go_sem,h1,h];refine ao (IK [58] hl hb) rfl ?_;rintro d bx' ⟨rfl,rfl⟩;simp(disch:=omega) only[go_sem,h1,h];simp[wm,h]
def acR(s1 k1:Nat)(hl:l.length<=140737488355328)(hb:cS bx e l n g)(h1:Ptr bx s1 k1 e):az prog 223 0 [.loc s1 k1 0 0] bx (fun d bx'=>d= .bool (uH l)/\bx'=bx) (fun _ _=>False):=by
 refine fB 8 0 f223 [] [.tmp 1] ?_;have h1:bx s1=⟨k1,1,1,217,[.loc 14 e 0 0]⟩:=h1;simp(disch:=omega) only[go_sem,h1];refine ao (G0 hl hb) rfl ?_;rintro d bx' ⟨rfl,rfl⟩;cases h:oR l with
 |true=>
  simp(disch:=omega) only[go_sem,h1,h];simp[uH,h]
 |false=>
  simp(disch:=omega) only[go_sem,h1,h];refine ao (IK [58] hl hb) rfl ?_;rintro d bx' ⟨rfl,rfl⟩;simp(disch:=omega) only[go_sem,h1,h];simp[uH,h]
end Go.V.Gr
namespace Go.V.Gr
open Go.Proofs Go.RowKit Go.V.Lx
theorem xG.head{i:Nat}{l m:List Tk}(h:xG i l m)(hi:0<i):∃x y l' m',l=x::l'/\m=y::m'/\x.k=y.k/\x.t=y.t/\x.n=y.n:=by
 obtain⟨h1,h2,h3⟩:=h;obtain⟨x,y,e1,e2,e3⟩:=h3 0 hi;cases l with
 |nil=>simp at e1
 |cons x' l'=>
  cases m<;>grind
def ku(text:ae):jU (want text):=fun l=>by
 unfold want;split
 ·rename_i h;split at h
  ·injection h with h;injection h with _ h;exact⟨1,by rw[<-h,aqc]⟩
  ·exact awI
 ·rename_i h;split at h
  ·exact awI
  ·exact asl
theorem E4:jU bare:=fun l=>by
 unfold bare;cases l with
 |nil=>simp_all
 |cons x r=>
  simp only;split
  ·rename_i h;split at h
   ·exact ari
   ·exact awI
  ·rename_i h;split at h
   ·exact awI
   ·exact asl
theorem Gs:jU number:=fun l=>by
 unfold number;cases l with
 |nil=>simp_all
 |cons x r=>
  simp only;split
  ·rename_i h;split at h
   ·exact ari
   ·exact awI
  ·rename_i h;split at h
   ·exact awI
   ·exact asl
theorem jU.aju{α:Type}{p:Rd α}(hp:jU p)(m:List Tk)(j:Nat):∃k,j<=k/\((∃a,p (m.drop j)= .ok (a,m.drop k))\/p (m.drop j)= .error (m.drop k)):=by
 have h:=hp (m.drop j);cases hq:p (m.drop j)with
 |error r=>
  rw[hq]at h;obtain⟨k,rfl⟩:=h
  exact auP
 |ok q=>
  obtain⟨a,r⟩:=q;rw[hq]at h;obtain⟨k,rfl⟩:=h
  exact auP
theorem Loc.bind{α β:Type}{p:Rd α}{f:α->Rd β}(hp:Loc p)(hf:∀a,Loc (f a))(hw:∀a,jU (f a)):Loc (p.bind f):=fun i l m ha=>by
 rcases hp i l m ha with⟨a,k,hk,e1,e2,Ke⟩|⟨k,hk,e1,e2⟩|⟨k,hk,h⟩
 ·have b1:p.bind f l=f a (l.drop k):=by unfold Rd.bind;rw[e1]
  have b2:p.bind f m=f a (m.drop k):=by unfold Rd.bind;rw[e2]
  rw[b1,b2];rcases hf a (i - k) _ _ (ha.drop hk)with⟨b,j,hj,e3,e4,lB⟩|⟨j,hj,e3,e4⟩|⟨j,hj,h⟩
  ·exact auP
  ·exact auP
  exact auP
 ·grind [Rd.bind]
 ·rcases h with⟨a,e⟩|e
  ·have b2:p.bind f m=f a (m.drop k):=by unfold Rd.bind;rw[e]
   rw[b2];obtain⟨j,hj,h⟩:=(hw a).aju m k
   exact awN
  grind [Rd.bind]
def M9{α:Type}{c:List Tk->Bool}{p q:Rd α}(fp:jU p)(fq:jU q):jU (fun l=>if c l=true then p l else q l):=fun l=>by
 simp only;by_cases h:c l=true
 ·simp only[h,abo];exact fp l
 ·simp only[h,aa_];exact fq l
def iW{α:Type}(p:Rd α):Prop:=∀l a r,p l= .ok (a,r)->r.length<l.length
theorem iW.bind{α β:Type}{p:Rd α}{f:α->Rd β}(hp:iW p)(hf:∀a,jU (f a)):iW (p.bind f):=fun l b r h=>by
 unfold Rd.bind at h;cases nF:p l with
 |error e=>grind
 |ok q=>
  obtain⟨a,r1⟩:=q;rw[nF]at h;simp only at h;have h1:=hp l a r1 nF;have h2:=hf a r1
  exact awN
def UT(text:ae):iW (want text):=fun l a r h=>by
 unfold want at h;split at h
 ·rename_i ht;injection h with h;injection h with _ h;subst h;cases l with
  |nil=>cases ht
  |cons x l=>simp
 ·exact awI
def UR:iW bare:=fun l a r h=>by
 unfold bare at h
 exact awN
def Ps:iW number:=fun l a r h=>by
 unfold number at h
 exact awN
def Qi{α:Type}{c:List Tk->Bool}{p q:Rd α}(hp:iW p)(hq:iW q):iW (fun l=>if c l=true then p l else q l):=fun l a r h=>by
 simp only at h;split at h
 ·exact hp l a r h
 ·exact hq l a r h
theorem M_{α:Type}{more:List Tk->Bool}{item:Rd α}(hi:jU item):∀n,jU (many more item n)
 |0=>eZ _
 |n+1=>M9 (hi.bind fun a=>(M_ hi n).bind fun xs=>eZ _) (eZ _)
theorem Ky{α:Type}{more:List Tk->Bool}{item:Rd α}(he:iW item)(h0:more []=false):∀(n m:Nat) (l:List Tk),l.length<=n->l.length<=m->many more item n l=many more item m l
 |0,0,l,_,_=>rfl
 |0,m+1,l,h,_=>auS
 |n+1,0,l,_,h=>auS
 |n+1,m+1,l,h1,h2=>by
  simp only[many];split
  ·unfold Rd.bind;cases hi:item l with
   |error r=>rfl
   |ok q=>
    obtain⟨a,r⟩:=q;simp only;have:=he l a r hi;rw[Ky he h0 n m r oM oM]
  ·rfl
def lT{α:Type}{more:List Tk->Bool}{item:Rd α}(hi:jU item):jU (cb more item):=fun l=>M_ hi l.length l
def gP(t:ae):jU (gq t):=(ku t).bind fun _=>E4
def gm(t:ae):iW (gq t):=(UT t).bind fun _=>E4
def Aw:jU qI:=(ku _).bind fun _=>Gs.bind fun _=>(ku _).bind fun _=>eZ _
def Cm:jU category:=(gP _).bind fun _=>(ku _).bind fun _=>eZ _
def BB:iW category:=(gm _).bind fun _=>(ku _).bind fun _=>eZ _
def wX:jU mn:=M9 ((gP _).bind fun _=>eZ _) (E4.bind fun _=>eZ _)
def Ce:iW mn:=Qi ((gm _).bind fun _=>eZ _) (UR.bind fun _=>eZ _)
def wW:jU mi:=M9 ((gP _).bind fun _=>eZ _) (Gs.bind fun _=>eZ _)
def Cd:iW mi:=Qi ((gm _).bind fun _=>eZ _) (Ps.bind fun _=>eZ _)
def J1:jU fG:=(gP _).bind fun _=>(gP _).bind fun _=>(gP _).bind fun _=>(lT (gP _)).bind fun _=>Aw.bind fun _=>eZ _
def Su:iW fG:=(gm _).bind fun _=>(gP _).bind fun _=>(gP _).bind fun _=>(lT (gP _)).bind fun _=>Aw.bind fun _=>eZ _
def Na:jU gI:=(gP _).bind fun _=>(ku _).bind fun _=>wX.bind fun _=>(lT wX).bind fun _=>(ku _).bind fun _=>wW.bind fun _=>(lT wW).bind fun _=>Aw.bind fun _=>eZ _
def US:iW gI:=(gm _).bind fun _=>(ku _).bind fun _=>wX.bind fun _=>(lT wX).bind fun _=>(ku _).bind fun _=>wW.bind fun _=>(lT wW).bind fun _=>Aw.bind fun _=>eZ _
def Good{α:Type}(p:Rd α):Prop:=Loc p/\jU p
theorem Good.bind{α β:Type}{p:Rd α}{f:α->Rd β}(hp:Good p)(hf:∀a,Good (f a)):Good (p.bind f):=⟨hp.1.bind (fun a=>(hf a).1) (fun a=>(hf a).2),hp.2.bind fun a=>(hf a).2⟩
def aaz:Rd aA:=kO.bind fun h=>(cb (eY gL) fG).bind fun es=>(cb (eY gJ) gI).bind fun rs=>Rd.pure ⟨h.1,h.2.1,h.2.2,0,es,rs⟩
theorem YK(l:List Tk):ir l=match aaz l with
 | .ok (g,[])=> .ok (g,[])
 | .ok (_,x::r)=> .error (x::r)
 | .error r=> .error r:=by
 unfold ir aaz Rd.bind;cases kO l with
 |error r=>rfl
 |ok q=>
  obtain⟨h,r⟩:=q;simp only;cases cb (eY gL) fG r with
  |error r=>rfl
  |ok q=>
   obtain⟨es,r⟩:=q;simp only;cases cb (eY gJ) gI r with
   |error r=>rfl
   |ok q=>
    obtain⟨rs,r⟩:=q;simp only[Rd.pure];cases r with
    |nil=>rfl
    |cons x r=>rfl
theorem FW:∀ {l m:List Tk},eH l m=true->xG l.length l m
 |[],[],_=>⟨aaN _,aaN _,fun j hj=>absurd hj (ald _)⟩
 |[],_::_,h=>awI
 |_::_,[],h=>awI
 |x::l,y::m,h=>by
  simp only[eH,uM,aas,aaH,akv]at h;obtain⟨h1,h2,h3⟩:=FW h.2;refine⟨sI,awe,fun j hj=>?_⟩
  exact awN
theorem FA{l m:List Tk}(h:eH l m=true):l.length=m.length:=by
 apply ae5;intro hn;have:=FW h;have h2:∀ {l m:List Tk},eH l m=true->m.length<=l.length:=by
  intro l;induction l with
  |nil=>intro m h;cases m with
   |nil=>grind
   |cons _ _=>cases h
  |cons x l ih=>intro m h;cases m<;>simp_all[eH]
 grind [xG]
def jN{α:Type}(p:Rd α):Prop:=∀l m,eH l m=true->(∃a k,p l= .ok (a,l.drop k)/\p m= .ok (a,m.drop k))\/∃k,p l= .error (l.drop k)/\p m= .error (m.drop k)
theorem K9:∀(k:Nat) {l m:List Tk},eH l m=true->eH (l.drop k) (m.drop k)=true
 |0,l,m,h=>h
 |k+1,[],[],h=>rfl
 |k+1,[],_::_,h=>awI
 |k+1,_::_,[],h=>awI
 |k+1,x::l,y::m,h=>by
  simp only[eH,aas]at h;exact K9 k h.2
def Hy{x y:Tk}{l m:List Tk}(h:eH (x::l) (y::m)=true):x.k=y.k/\x.t=y.t/\x.n=y.n/\eH l m=true:=by simp_all[eH,uM]
theorem pC{l m:List Tk}(h:eH l m=true):(l=[]/\m=[])\/∃x y l' m',l=x::l'/\m=y::m'/\x.k=y.k/\x.t=y.t/\x.n=y.n/\eH l' m'=true:=by
 cases l with
 |nil=>cases m with
  |nil=>grind
  |cons _ _=>cases h
 |cons x l=>cases m with
  |nil=>cases h
  |cons y m=>exact .inr ⟨x,y,l,m,rfl,rfl,Hy h⟩
theorem nc{l m:List Tk}(h:eH l m=true)(t:ae):eY t l=eY t m:=by
 rcases pC h with⟨rfl,rfl⟩|⟨x,y,l',m',rfl,rfl,h1,h2,h3,_⟩
 ·rfl
 grind [eY]
theorem Kp{l m:List Tk}(h:eH l m=true):qf l=qf m:=by
 rcases pC h with⟨rfl,rfl⟩|⟨x,y,l',m',rfl,rfl,h1,h2,h3,_⟩
 ·rfl
 grind [qf]
theorem Kq{l m:List Tk}(h:eH l m=true):oR l=oR m:=by
 rcases pC h with⟨rfl,rfl⟩|⟨x,y,l',m',rfl,rfl,h1,h2,h3,_⟩
 ·rfl
 ·simp only[oR,h1]
def gT{α:Type}(a:α):jN (Rd.pure a):=fun l m h=> .inl ⟨a,0,rfl,rfl⟩
theorem jN.bind{α β:Type}{p:Rd α}{f:α->Rd β}(hp:jN p)(hf:∀a,jN (f a)):jN (p.bind f):=fun l m h=>by
 unfold Rd.bind;rcases hp l m h with⟨a,k,e1,e2⟩|⟨k,e1,e2⟩
 ·rw[e1,e2];simp only;rcases hf a _ _ (K9 k h)with⟨b,j,e3,e4⟩|⟨j,e3,e4⟩<;>grind [List.drop_drop]
 exact awN
def Ii{α:Type}{c:List Tk->Bool}{p q:Rd α}(hc:∀l m,eH l m=true->c l=c m)(hp:jN p)(hq:jN q):jN (fun l=>if c l=true then p l else q l):=fun l m h=>by
 simp only[hc l m h];by_cases hm:c m=true
 ·simp only[hm,abo];exact hp l m h
 ·simp only[hm,aa_];exact hq l m h
def mN(t:ae):jN (want t):=fun l m h=>by
 unfold want;rw[nc h];by_cases hm:eY t m=true
 ·rw[aaO hm,aaO hm];exact .inl ⟨(),1,by rw[aqc],by rw[aqc]⟩
 ·rw[aaw hm,aaw hm];exact .inr ⟨0,rfl,rfl⟩
def JG:jN bare:=fun l m h=>by
 have hn:=Kp h;rcases pC h with⟨rfl,rfl⟩|⟨x,y,l',m',rfl,rfl,h1,h2,h3,_⟩
 ·exact .inr ⟨0,rfl,rfl⟩
 ·unfold bare;simp only[hn,h2];by_cases hm:qf (y::m')=true
  ·simp only[hm,abo];exact .inl ⟨_,1,rfl,rfl⟩
  ·simp only[hm,aa_];exact .inr ⟨0,rfl,rfl⟩
def Ej:jN number:=fun l m h=>by
 have hn:=Kq h;rcases pC h with⟨rfl,rfl⟩|⟨x,y,l',m',rfl,rfl,h1,h2,h3,_⟩
 ·exact .inr ⟨0,rfl,rfl⟩
 ·unfold number;simp only[hn,h3];by_cases hm:oR (y::m')=true
  ·simp only[hm,abo];exact .inl ⟨_,1,rfl,rfl⟩
  ·simp only[hm,aa_];exact .inr ⟨0,rfl,rfl⟩
theorem JK{α:Type}{more:List Tk->Bool}{item:Rd α}(hc:∀l m,eH l m=true->more l=more m)(hi:jN item):∀n,jN (many more item n)
 |0=>gT _
 |n+1=>Ii hc (hi.bind fun a=>(JK hc hi n).bind fun _=>gT _) (gT _)
def rk{α:Type}{more:List Tk->Bool}{item:Rd α}(hc:∀l m,eH l m=true->more l=more m)(hi:jN item):jN (cb more item):=fun l m h=>by
 have:=JK hc hi l.length l m h
 grind [cb,FA]
def kb(t:ae):jN (gq t):=(mN t).bind fun _=>JG
def JH:jN qI:=(mN _).bind fun _=>Ej.bind fun _=>(mN _).bind fun _=>gT _
def Lo:jN category:=(kb _).bind fun _=>(mN _).bind fun _=>gT _
def Sn:jN fG:=(kb _).bind fun _=>(kb _).bind fun _=>(kb _).bind fun _=>(rk (fun _ _ h=>nc h _) (kb _)).bind fun _=>JH.bind fun _=>gT _
def JL:jN mn:=Ii (fun _ _ h=>nc h _) ((kb _).bind fun _=>gT _) (JG.bind fun _=>gT _)
def JI:jN mi:=Ii (fun _ _ h=>nc h _) ((kb _).bind fun _=>gT _) (Ej.bind fun _=>gT _)
def UN:jN gI:=(kb _).bind fun _=>(mN _).bind fun _=>JL.bind fun _=>(rk (fun _ _ h=>by grind [wm,Kp,nc]) JL).bind fun _=>(mN _).bind fun _=>JI.bind fun _=>
 (rk (fun _ _ h=>by grind [uH,Kq,nc]) JI).bind fun _=>JH.bind fun _=>gT _
def UM:jN kO:=(kb _).bind fun _=>(mN _).bind fun _=>(rk (fun _ _ h=>nc h _) Lo).bind fun _=>(kb _).bind fun _=>(mN _).bind fun _=>gT _
def Yj:jN MK:=fun l m h=>by
 rcases pC h with⟨rfl,rfl⟩|⟨x,y,l',m',rfl,rfl,_⟩
 ·exact .inl ⟨(),0,rfl,rfl⟩
 ·exact .inr ⟨0,rfl,rfl⟩
def Ve:jN ir:=UM.bind fun _=>(rk (fun _ _ h=>nc h _) Sn).bind fun _=>(rk (fun _ _ h=>nc h _) UN).bind fun _=>Yj.bind fun _=>gT _
theorem Vc{l r:List Tk}{g:aA}(h:ir l= .ok (g,r)):r=[]:=by grind [YK]
def nT(s:ae):Tk:=⟨1,s,0,0⟩
def sT(s:ae):Tk:=⟨3,s,0,0⟩
def dT(n:Int):Tk:=⟨2,[],n,0⟩
def kL(s:ae):List Tk:=[nT h_,nT s,sT [59]]
def l_(s:ae):List Tk:=[sT [44],nT s]
def e_:List ae->List Tk
 |[]=>[]
 |s::r=>nT s::r.flatMap l_
def lN(n:Int):List Tk:=[nT tp,dT n,sT [59]]
def dn(x:Entry):List Tk:=[nT gL,nT x.text,nT EL,nT x.cat,nT iC]++(e_ x.aE++lN x.cost)
def dM(p:Part):List Tk:=if p.text=[]then[nT p.cat]else[sT [58],nT p.text]
def dI(y:bt):List Tk:=if y.text=[]then[dT y.part]else[sT [58],nT y.text]
def dN(x:aF):List Tk:=[nT gJ,nT x.cat,sT [61]]++(x.parts.flatMap dM++(nT iC::(x.aE.flatMap dI++lN x.cost)))
def g_(n:ae)(cs:List ae)(s:ae):List Tk:=[nT kN,nT n,sT [59]]++(cs.flatMap kL++[nT qF,nT s,sT [59]])
def bf(g:aA):List Tk:=g_ g.name g.aB g.start++(g.entries.flatMap dn++g.rules.flatMap dN)
def fr(s:ae):Bool:=iP s&& !lP.contains s
def Ec(x:Entry):Prop:=fr x.text=true/\fr x.cat=true/\x.no=0/\x.aE≠[]/\x.aE.all fr=true
def HY(p:Part):Prop:=p.no=0/\((p.text=[]/\fr p.cat=true)\/(p.cat=[]/\fr p.text=true))
def O9(y:bt):Prop:=y.text=[]\/(y.part=0/\fr y.text=true)
def HZ(x:aF):Prop:=fr x.cat=true/\x.no=0/\x.parts≠[]/\(∀p∈x.parts,HY p)/\x.aE≠[]/\∀y∈x.aE,O9 y
def wf(g:aA):Prop:=fr g.name=true/\g.aB.all fr=true/\fr g.start=true/\g.no=0/\(∀x∈g.entries,Ec x)/\∀x∈g.rules,HZ x
def cG{α β:Type}{p:Rd α}{f:α->Rd β}{l:List Tk}{a:α}{r:List Tk}(h:p l= .ok (a,r)):p.bind f l=f a r:=by unfold Rd.bind;rw[h]
def ll{α:Type}{a b:α}{l r:List Tk}(h:Rd.pure a l= .ok (b,r)):b=a/\r=l:=by grind [Rd.pure]
def km(l r:List Tk)(v:List Tk):Prop:=∃u,l=u++r/\eH u v=true
theorem OK:∀ {a b c d:List Tk},eH a b=true->eH c d=true->eH (a++c) (b++d)=true
 |[],[],c,d,_,h=>h
 |[],_::_,_,_,h,_=>awI
 |_::_,[],_,_,h,_=>awI
 |x::a,y::b,c,d,h,k=>by
  simp only[eH,aas,aeF]at h⊢;exact⟨h.1,OK h.2 k⟩
theorem km.refl(l:List Tk):km l l []:=⟨[],rfl,rfl⟩
theorem km.trans{l m r v w:List Tk}(h:km l m v)(k:km m r w):km l r (v++w):=by
 obtain⟨u,rfl,h2⟩:=h;obtain⟨u',rfl,k2⟩:=k;exact⟨u++u',by rw[aaU],OK h2 k2⟩
def Vd(l:List Tk):Prop:=l.all cg=true
theorem km.vd{l r v:List Tk}(h:km l r v)(hv:Vd l):Vd r:=by
 obtain⟨u,rfl,_⟩:=h;simp_all[Vd]
def Bn{x y:Tk}{l:List Tk}(h:uM x y=true):km (x::l) l [y]:=⟨[x],rfl,by simp[eH,h]⟩
def wz{x:Tk}{l:List Tk}(h:Vd (x::l)):cg x=true:=by simp_all[Vd]
def Dy{t:ae}{l r:List Tk}{a:Unit}(hv:Vd l)(ht:iP t=true)(h:want t l= .ok (a,r)):km l r [nT t]:=by
 unfold want at h;split at h
 ·rename_i hi;injection h with h;injection h with _ h;subst h;cases l with
  |nil=>cases hi
  |cons x l=>
   simp only[eY,aas,aaH]at hi;have hx:=wz hv;refine Bn ?_;obtain⟨k,t',n,p⟩:=x;obtain⟨h1,rfl⟩:=hi;simp only at h1 hx;unfold cg at hx;simp only at hx;split at hx
   ·simp_all[uM,nT]
   ·split at hx
    ·simp only[aas]at hx;exfalso;cases t' with
     |nil=>cases ht
     |cons c r=>
      cases r<;>simp_all[pz,iP,JE]
    ·exact awG
 ·exact awI
def rW{t:ae}{l r:List Tk}{a:Unit}(hv:Vd l)(ht:iP t=false)(h:want t l= .ok (a,r)):km l r [sT t]:=by
 unfold want at h;split at h
 ·rename_i hi;injection h with h;injection h with _ h;subst h;cases l with
  |nil=>cases hi
  |cons x l=>
   simp only[eY,aas,aaH]at hi;have hx:=wz hv;simp_all[Bn,cg,uM,sT]
 ·exact awI
theorem Ic{l r:List Tk}{s:ae}(hv:Vd l)(h:bare l= .ok (s,r)):km l r [nT s]/\fr s=true:=by
 unfold bare at h;cases l with
 |nil=>cases h
 |cons x l=>
  simp only at h;split at h
  ·rename_i hi;injection h with h;injection h with h1 h2;subst h1;subst h2;simp only[qf,aas,aaH]at hi;have hx:=wz hv;simp_all[cg,Bn,uM,nT,fr]
  ·exact awI
theorem KF{l r:List Tk}{n:Int}(hv:Vd l)(h:number l= .ok (n,r)):km l r [dT n]:=by
 unfold number at h;cases l with
 |nil=>cases h
 |cons x l=>
  simp only at h;split at h
  ·rename_i hi;injection h with h;injection h with h1 h2;subst h1;subst h2;simp only[oR,aaH]at hi;have hx:=wz hv;simp_all[cg,Bn,uM,dT]
  ·exact awI
def uc{t:ae}{l r:List Tk}{s:ae}(hv:Vd l)(ht:iP t=true)(h:gq t l= .ok (s,r)):km l r [nT t,nT s]/\fr s=true:=by
 obtain⟨_,r1,h1,h2⟩:=cj h;have k1:=Dy hv ht h1;exact ars
def Fi{t:ae}{l r:List Tk}{s:ae}(hv:Vd l)(ht:iP t=false)(h:gq t l= .ok (s,r)):km l r [sT t,nT s]/\fr s=true:=by
 obtain⟨_,r1,h1,h2⟩:=cj h;have k1:=rW hv ht h1;exact ars
def Qe{l r:List Tk}{n:Int}(hv:Vd l)(h:qI l= .ok (n,r)):km l r (lN n):=by
 obtain⟨_,r1,h1,h⟩:=cj h;obtain⟨m,r2,h2,h⟩:=cj h;obtain⟨_,r3,h3,h⟩:=cj h;obtain⟨rfl,rfl⟩:=ll h;have k1:=Dy hv avT h1;have k2:=KF (k1.vd hv) h2;have k3:=rW (k2.vd (k1.vd hv)) avT h3;exact k1.trans (k2.trans k3)
theorem tU{α:Type}{more:List Tk->Bool}{item:Rd α}{f:α->List Tk}{w:α->Prop}(hi:∀l a r,Vd l->item l= .ok (a,r)->km l r (f a)/\w a):∀(n:Nat) (l:List Tk) (xs:List α) (r:List Tk),Vd l->many more item n l= .ok (xs,r)->km l r (xs.flatMap f)/\∀x∈xs,w x
 |0,l,xs,r,hv,h=>by
  obtain⟨rfl,rfl⟩:=ll h;exact⟨.refl _,fun x hx=>awG⟩
 |n+1,l,xs,r,hv,h=>by
  simp only[many]at h;split at h
  ·obtain⟨a,r1,h1,h⟩:=cj h;obtain⟨ys,r2,h2,h⟩:=cj h;obtain⟨rfl,rfl⟩:=ll h;obtain⟨k1,w1⟩:=hi l a r1 hv h1;obtain⟨k2,w2⟩:=tU hi n r1 ys r (k1.vd hv) h2;refine⟨by rw[afs];exact k1.trans k2,fun x hx=>?_⟩
   exact awN
  ·injection h with h;injection h with h1 h2;subst h1;subst h2;exact⟨.refl _,fun x hx=>awG⟩
def LC{s:ae}(h:fr s=true):s≠[]:=by intro e;subst e;cases h
def Po{l r:List Tk}{s:ae}(hv:Vd l)(h:category l= .ok (s,r)):km l r (kL s)/\fr s=true:=by
 obtain⟨t,r1,h1,h⟩:=cj h;obtain⟨_,r2,h2,h⟩:=cj h;obtain⟨rfl,rfl⟩:=ll h;obtain⟨k1,w1⟩:=uc hv avT h1;exact⟨k1.trans (rW (k1.vd hv) avT h2),w1⟩
def Rs{l r:List Tk}{p:Part}(hv:Vd l)(h:mn l= .ok (p,r)):km l r (dM p)/\HY p:=by
 unfold mn at h;split at h
 ·obtain⟨s,r1,h1,h⟩:=cj h;obtain⟨rfl,rfl⟩:=ll h;obtain⟨k1,w1⟩:=Fi hv avT h1;refine⟨?_,rfl,.inr ⟨rfl,w1⟩⟩;simp_all[dM,LC]
 ·obtain⟨s,r1,h1,h⟩:=cj h;obtain⟨rfl,rfl⟩:=ll h;obtain⟨k1,w1⟩:=Ic hv h1;exact⟨k1,rfl,.inl ⟨rfl,w1⟩⟩
def QC{l r:List Tk}{p:bt}(hv:Vd l)(h:mi l= .ok (p,r)):km l r (dI p)/\O9 p:=by
 unfold mi at h;split at h
 ·obtain⟨s,r1,h1,h⟩:=cj h;obtain⟨rfl,rfl⟩:=ll h;obtain⟨k1,w1⟩:=Fi hv avT h1;refine⟨?_,.inr ⟨rfl,w1⟩⟩;simp_all[dI,LC]
 ·obtain⟨s,r1,h1,h⟩:=cj h;obtain⟨rfl,rfl⟩:=ll h;exact⟨KF hv h1,.inl rfl⟩
def Yu{l r:List Tk}{x:Entry}(hv:Vd l)(h:fG l= .ok (x,r)):km l r (dn x)/\Ec x:=by
 obtain⟨t,r1,h1,h⟩:=cj h;obtain⟨c,r2,h2,h⟩:=cj h;obtain⟨g,r3,h3,h⟩:=cj h;obtain⟨gs,r4,h4,h⟩:=cj h;obtain⟨n,r5,h5,h⟩:=cj h;obtain⟨rfl,rfl⟩:=ll h;obtain⟨k1,w1⟩:=uc hv avT h1;have v1:=k1.vd hv;obtain⟨k2,w2⟩:=uc v1 avT h2;have v2:=k2.vd v1;obtain⟨k3,w3⟩:=uc v2 avT h3;have v3:=k3.vd v2;obtain⟨k4,w4⟩:=tU (f:=l_) (w:=fun s=>fr s=true) (fun l a r hv h=>Fi hv avT h) _ r3 gs r4 v3 h4;have v4:=k4.vd v3;have k5:=Qe v4 h5;refine⟨?_,w1,w2,rfl,sI,?_⟩
 ·have:=k1.trans (k2.trans (k3.trans (k4.trans k5)))
  grind [dn,e_]
 exact awN
def acT{l r:List Tk}{x:aF}(hv:Vd l)(h:gI l= .ok (x,r)):km l r (dN x)/\HZ x:=by
 obtain⟨c,r1,h1,h⟩:=cj h;obtain⟨_,r2,h2,h⟩:=cj h;obtain⟨p,r3,h3,h⟩:=cj h;obtain⟨ps,r4,h4,h⟩:=cj h;obtain⟨_,r5,h5,h⟩:=cj h;obtain⟨g,r6,h6,h⟩:=cj h;obtain⟨gs,r7,h7,h⟩:=cj h;obtain⟨n,r8,h8,h⟩:=cj h;obtain⟨rfl,rfl⟩:=ll h;obtain⟨k1,w1⟩:=uc hv avT h1;have v1:=k1.vd hv;have k2:=rW v1 avT h2;have v2:=k2.vd v1;obtain⟨k3,w3⟩:=Rs v2 h3;have v3:=k3.vd v2;obtain⟨k4,w4⟩:=tU (fun l a r hv h=>Rs hv h) _ r3 ps r4 v3 h4;have v4:=k4.vd v3;have k5:=Dy v4 avT h5;have v5:=k5.vd v4;obtain⟨k6,w6⟩:=QC v5 h6;have v6:=k6.vd v5;obtain⟨k7,w7⟩:=tU (fun l a r hv h=>QC hv h) _ r6 gs r7 v6 h7;have v7:=k7.vd v6;have k8:=Qe v7 h8;refine⟨?_,w1,rfl,sI,fun q hq=>?_,sI,fun q hq=>?_⟩
 ·have:=k1.trans (k2.trans (k3.trans (k4.trans (k5.trans (k6.trans (k7.trans k8))))))
  grind [dN]
 ·exact awN
 exact awN
def ru{l r:List Tk}{g:aA}(hv:Vd l)(h:ir l= .ok (g,r)):eH l (bf g)=true/\wf g:=by
 obtain⟨hd,r1,h1,h⟩:=cj h;obtain⟨es,r2,h2,h⟩:=cj h;obtain⟨rs,r3,h3,h⟩:=cj h;obtain⟨_,r4,h4,h⟩:=cj h;obtain⟨rfl,rfl⟩:=ll h;obtain⟨n,q1,g1,h1⟩:=cj h1;obtain⟨_,q2,g2,h1⟩:=cj h1;obtain⟨cs,q3,g3,h1⟩:=cj h1;obtain⟨s,q4,g4,h1⟩:=cj h1;obtain⟨_,q5,g5,h1⟩:=cj h1;obtain⟨rfl,rfl⟩:=ll h1;obtain⟨k1,w1⟩:=uc hv avT g1;have v1:=k1.vd hv;have k2:=rW v1 avT g2;have v2:=k2.vd v1;obtain⟨k3,w3⟩:=tU (fun l a r hv h=>Po hv h) _ q2 cs q3 v2 g3;have v3:=k3.vd v2;obtain⟨k4,w4⟩:=uc v3 avT g4;have v4:=k4.vd v3;have k5:=rW v4 avT g5;have v5:=k5.vd v4;obtain⟨k6,w6⟩:=tU (fun l a r hv h=>Yu hv h) _ _ es r2 v5 h2;have v6:=k6.vd v5;obtain⟨k7,w7⟩:=tU (fun l a r hv h=>acT hv h) _ _ rs r3 v6 h3;have yz:r3=[]:=by
  unfold MK at h4
  exact awN
 subst yz;refine⟨?_,w1,aaI.2 w3,w4,rfl,w6,w7⟩;obtain⟨u,hu,hs⟩:=k1.trans (k2.trans (k3.trans (k4.trans (k5.trans (k6.trans k7)))))
 grind [bf,g_]
end Go.V.Gr
namespace Go.V.Gr
open Go.Proofs Go.Proofs.Tryz Go.RowKit Go.V.Lx
inductive It where
 |w (s:ae)
 |n (s:ae)
 |i (z:Int)
 |p (x:Part)
 |g (x:bt)
def It.d:It->D
 | .w s=> .bK 9 (.str s)
 | .n s=> .bK 208 (.str s)
 | .i z=> .bK 3 (.int .i64 z)
 | .p x=> .bK 161 x.d
 | .g x=> .bK 210 x.d
def wT(s:ae):Tk:=if lP.contains s then nT s else sT s
def It.bW:It->List Tk
 | .w s=>[wT s]
 | .n s=>[nT s]
 | .i z=>[dT z]
 | .p x=>dM x
 | .g x=>dI x
def It.flat:It->Bool
 | .p _| .g _=>false
 |_=>true
def iV:List Nat:=[234,248,262]
def nk(bx:ab)(e:Nat)(xs:List Tk):Prop:=∃l,bx 9=⟨e,1,1,144,[.agg [l]]⟩/\aP bx iV 212 4 l (xs.map Tok.d)
def mT(bx bx':ab):Prop:=∀q,q<200->q≠9->bx' q=bx q
theorem mT.refl(bx:ab):mT bx bx:=fun _ _ _=>rfl
theorem mT.trans{a b c:ab}(h:mT a b)(k:mT b c):mT a c:=fun q h1 h2=>(k q h1 h2).trans (h q h1 h2)
theorem It.pure:∀x:It,x.d.pure=true
 | .w _=>rfl
 | .n _=>rfl
 | .i _=>rfl
 | .p _=>rfl
 | .g _=>rfl
theorem aaf(x:It):x.bW.length<=2:=by cases x<;>grind [It.bW,dM,dI]
def X3(N:Nat)(l:List It):Prop:=∀(e:Nat) (bx:ab) (xs:List Tk),nk bx e xs->xs.length+2 * l.length<=N->
 az prog 84 0 [.loc 9 e 0 0,.sl 1 (l.map It.d)] bx (fun d bx'=>d= .aL []/\nk bx' e (xs++l.flatMap It.bW)/\mT bx bx') (fun _ _=>False)
def abp(l:List It)(hr:l.all It.flat=true\/∀m:List It,m.all It.flat=true->X3 1000000 m)(e:Nat)(bx:ab)(xs:List Tk)(hw:nk bx e xs)(hn:xs.length+2 * l.length<=1000000)(xd:l.all It.flat=true\/xs.length+2 * l.length<=999990):
 M3 prog (dD prog) [] f84 200 [.loc 9 e 0 0,.sl 1 (l.map It.d)] bx (fun d bx'=>d= .aL []/\nk bx' e (xs++l.flatMap It.bW)/\mT bx bx') (fun _ _=>False):=by
 refine eG _ [] 104 rfl rfl rfl ar ?_;simp(disch:=omega) only[go_sem];refine bB l.length (fun k σ bx'=>σ 0= .loc 9 e 0 0/\σ 12= .sl 1 (l.map It.d)/\σ 13= .int .i64 l.length/\σ 14= .int .i64 k/\nk bx' e (xs++(l.take k).flatMap It.bW)/\mT bx bx')
  ⟨avB,avB,sG,sG,awN,mT.refl _⟩ ?_ ?_
 ·rintro k σ bx' hk ⟨h0,fa,kc,mB,eL,hK⟩;obtain⟨x,hx⟩:=bk hk;have au:(k:Int)<(l.length:Int):=oM;have rD:(l.take (k+1)).flatMap It.bW=(l.take k).flatMap It.bW++x.bW:=auJ
  have hlen:((l.take k).flatMap It.bW).length<=2 * k:=by
   have:∀m:List It,(m.flatMap It.bW).length<=2 * m.length:=fun m=>by induction m<;>grind [aaf]
   exact awN
  obtain⟨lw,En,hv⟩:=eL;obtain⟨v1,v2,v3⟩:=hv.facts;have VN:((List.map Tok.d (xs++(l.take k).flatMap It.bW)).length+1) * 40<=140737488355328:=awN
  have xX:IntKind.i64.wrap ((k:Int)+1)=((k+1:Nat):Int):=aR oM;have fin:∀(t:Nat) (tk:Tk) (e':Nat) (b1 b2:ab),t∈iV->x.bW=[tk]->(∀q,q≠9->q≠t->q∉iV->b1 q=bx' q)->b2=ah b1 9 ⟨e,1,1,144,[.agg [.ba t e' 4 0 (List.map Tok.d (xs++(l.take k).flatMap It.bW)++[tk.d]).length]]⟩->b1 t=⟨e',1,4,212,List.map Tok.d (xs++(l.take k).flatMap It.bW)++[tk.d]⟩->nk b2 e (xs++(l.take (k+1)).flatMap It.bW)/\mT bx b2:=by
   intro t tk e' b1 b2 ht hxt hq h9 hb;subst h9;have hm:List.map Tok.d (xs++(l.take (k+1)).flatMap It.bW)=List.map Tok.d (xs++(l.take k).flatMap It.bW)++[tk.d]:=awN
   refine⟨⟨_,by rw[aY],?_⟩,fun q h1 h2=>?_⟩
   ·rw[hm];refine .inr ⟨t,e',ht,rfl,?_⟩
    grind [al,iV]
   ·rw[al h2,hq q h2 awl (by simp[iV];omega)];exact hK q h1 h2
  cases x with
  |w s=>
   simp(disch:=omega) only[go_sem,h0,fa,kc,mB,au,hx,It.d];refine aI RU rfl ?_;simp(disch:=omega) only[go_sem,h0,fa,kc,mB,au,hx,It.d];refine aI (wM lP s awL) auW ?_;simp(disch:=omega) only[go_sem,h0,fa,kc,mB,au,hx,It.d];refine aO (fun hc=>?_) (fun hc=>?_)
   ·simp(disch:=omega) only[go_sem,h0,fa,kc,mB,au,hx,It.d,En];refine il hv sI sG VN oM oM (fun q hq=>aes _) (fun e' b1 g1 g2=>?_);have g9:b1 9=⟨e,1,1,144,[.agg [lw]]⟩:=awl
    simp(disch:=omega) only[go_sem,g9,mB,xX,v1,v2,v3];exact⟨h0,fa,kc,fin 234 (nT s) e' b1 _ (by simp[iV]) (by simp_all[It.bW,wT]) (fun q h1 h2 h3=>g2 q h2 h3) rfl g1⟩
   ·simp(disch:=omega) only[go_sem,h0,fa,kc,mB,au,hx,It.d,En];refine il hv sI sG VN oM oM (fun q hq=>aes _) (fun e' b1 g1 g2=>?_);have g9:b1 9=⟨e,1,1,144,[.agg [lw]]⟩:=awl
    simp(disch:=omega) only[go_sem,g9,mB,xX,v1,v2,v3];exact⟨h0,fa,kc,fin 234 (sT s) e' b1 _ (by simp[iV]) (by simp_all[It.bW,wT]) (fun q h1 h2 h3=>g2 q h2 h3) rfl g1⟩
  |n s=>
   simp(disch:=omega) only[go_sem,h0,fa,kc,mB,au,hx,It.d,En,v1,v2,v3];refine il hv sI sG VN oM oM (fun q hq=>aes _) (fun e' b1 g1 g2=>?_);have g9:b1 9=⟨e,1,1,144,[.agg [lw]]⟩:=awl
   simp(disch:=omega) only[go_sem,g9,mB,xX,v1,v2,v3];exact⟨h0,fa,kc,fin 248 (nT s) e' b1 _ (by simp[iV]) rfl (fun q h1 h2 h3=>g2 q h2 h3) rfl g1⟩
  |i s=>
   simp(disch:=omega) only[go_sem,h0,fa,kc,mB,au,hx,It.d,En,v1,v2,v3];refine il hv sI sG VN oM oM (fun q hq=>aes _) (fun e' b1 g1 g2=>?_);have g9:b1 9=⟨e,1,1,144,[.agg [lw]]⟩:=awl
   simp(disch:=omega) only[go_sem,g9,mB,xX,v1,v2,v3];exact⟨h0,fa,kc,fin 262 (dT s) e' b1 _ (by simp[iV]) rfl (fun q h1 h2 h3=>g2 q h2 h3) rfl g1⟩
  |p y=>
   rcases hr with hr|hr
   ·exact absurd (aaI.1 hr _ (aat hx)) avZ
   replace xd:=xd.resolve_left fun hr=>absurd (aaI.1 hr _ (aat hx)) avZ;have hd:y.d= .agg [.str y.cat,.int .i64 y.no,.str y.text]:=rfl;simp(disch:=omega) only[go_sem,h0,fa,kc,mB,au,hx,It.d,En,v1,v2,v3,hd];have ez:∀b1:ab,(∀q,q≠210->b1 q=bx' q)->mT bx b1:=fun b1 hb q h1 h2=>by rw[hb q oM];exact hK q h1 h2
   have eL:∀b1:ab,(∀q,q≠210->b1 q=bx' q)->nk b1 e (xs++(l.take k).flatMap It.bW):=fun b1 hb=>⟨lw,awN,hv.of fun q hq=>hb q awl⟩
   have sub:∀m:List It,m.all It.flat=true->m.length<=2->m.flatMap It.bW=dM y->∀b1:ab,(∀q,q≠210->b1 q=bx' q)->az prog 84 0 [.loc 9 e 0 0,.sl 1 (m.map It.d)] b1 (fun d b2=>d= .aL []/\nk b2 e (xs++(l.take (k+1)).flatMap It.bW)/\mT bx b2) (fun _ _=>False):=by
    intro m m1 m2 m3 b1 hb;refine(hr m m1 e _ _ (eL b1 hb) awN).mono ?_ (fun _ _ h=>h);rintro d b2 ⟨q1,q2,q3⟩;rw[aaU,m3,show dM y=It.bW (It.p y)from rfl,<-rD]at q2;exact⟨q1,q2,(ez b1 hb).trans q3⟩
   refine aW (fun h1=>?_) (fun h1=>?_)
   ·simp(disch:=omega) only[go_sem,h0,fa,kc,mB,En,v1,v2,v3,D.pure];refine ao (sub [It.n y.cat] rfl sI (by simp[It.bW,dM,h1]) _ (fun q hq=>awa)) rfl ?_;rintro d b2 ⟨rfl,q2,q3⟩;simp(disch:=omega) only[go_sem,h0,fa,kc,mB,xX]
    exact awN
   ·simp(disch:=omega) only[go_sem,h0,fa,kc,mB,En,v1,v2,v3,D.pure];refine ao (sub [It.w [58],It.n y.text] rfl sI (by simp[It.bW,dM,wT,lP,h1];decide) _ (fun q hq=>awa)) rfl ?_;rintro d b2 ⟨rfl,q2,q3⟩;simp(disch:=omega) only[go_sem,h0,fa,kc,mB,xX]
    exact awN
  |g y=>
   rcases hr with hr|hr
   ·exact absurd (aaI.1 hr _ (aat hx)) avZ
   replace xd:=xd.resolve_left fun hr=>absurd (aaI.1 hr _ (aat hx)) avZ;have hd:y.d= .agg [.int .i64 y.part,.str y.text]:=rfl;simp(disch:=omega) only[go_sem,h0,fa,kc,mB,au,hx,It.d,En,v1,v2,v3,hd];have ez:∀b1:ab,(∀q,q≠211->b1 q=bx' q)->mT bx b1:=fun b1 hb q h1 h2=>by rw[hb q oM];exact hK q h1 h2
   have eL:∀b1:ab,(∀q,q≠211->b1 q=bx' q)->nk b1 e (xs++(l.take k).flatMap It.bW):=fun b1 hb=>⟨lw,awN,hv.of fun q hq=>hb q awl⟩
   have sub:∀m:List It,m.all It.flat=true->m.length<=2->m.flatMap It.bW=dI y->∀b1:ab,(∀q,q≠211->b1 q=bx' q)->az prog 84 0 [.loc 9 e 0 0,.sl 1 (m.map It.d)] b1 (fun d b2=>d= .aL []/\nk b2 e (xs++(l.take (k+1)).flatMap It.bW)/\mT bx b2) (fun _ _=>False):=by
    intro m m1 m2 m3 b1 hb;refine(hr m m1 e _ _ (eL b1 hb) awN).mono ?_ (fun _ _ h=>h);rintro d b2 ⟨q1,q2,q3⟩;rw[aaU,m3,show dI y=It.bW (It.g y)from rfl,<-rD]at q2;exact⟨q1,q2,(ez b1 hb).trans q3⟩
   refine aW (fun h1=>?_) (fun h1=>?_)
   ·simp(disch:=omega) only[go_sem,h0,fa,kc,mB,En,v1,v2,v3,D.pure];refine ao (sub [It.i y.part] rfl sI (by simp[It.bW,dI,h1]) _ (fun q hq=>awa)) rfl ?_;rintro d b2 ⟨rfl,q2,q3⟩;simp(disch:=omega) only[go_sem,h0,fa,kc,mB,xX]
    exact awN
   ·simp(disch:=omega) only[go_sem,h0,fa,kc,mB,En,v1,v2,v3,D.pure];refine ao (sub [It.w [58],It.n y.text] rfl sI (by simp[It.bW,dI,wT,lP,h1];decide) _ (fun q hq=>awa)) rfl ?_;rintro d b2 ⟨rfl,q2,q3⟩;simp(disch:=omega) only[go_sem,h0,fa,kc,mB,xX]
    exact awN
 ·rintro σ bx' ⟨h0,fa,kc,mB,eL,hK⟩;have au:¬(l.length:Int)<(l.length:Int):=oM;rw[aaP]at eL;simp(disch:=omega) only[go_sem,h0,fa,kc,mB,au]
  exact awN
def ZR(m:List It)(hm:m.all It.flat=true):X3 1000000 m:=fun e bx xs hw hn=>(dY mixed (abp m (.inl hm) e bx xs hw hn (.inl hm)) rfl ar rfl:az _ _ 200 _ _ _ _)
def kS(m:List It):X3 999990 m:=fun e bx xs hw hn=>(dY mixed (abp m (.inr ZR) e bx xs hw oM (.inr hn)) rfl ar rfl:az _ _ 200 _ _ _ _)
end Go.V.Gr
