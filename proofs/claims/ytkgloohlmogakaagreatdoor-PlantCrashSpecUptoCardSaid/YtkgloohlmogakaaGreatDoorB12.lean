/- Plain laws: B12. -/
import Derived.Test.YtkgloohlmogakaaGreatDoorB11
import Derived.Test.YtkgloohlmogakaaGreatDoorVE
set_option linter.all false
set_option maxHeartbeats 8000000
set_option maxRecDepth 100000
namespace Go.V.Ty
open Go.Proofs Go.Proofs.Tryz Go.RowKit Go.V.Lx Go.V.Gr
def T7{e3 e6 e8 t3 t6 t8 s3:Nat}{n:Int}{c:ah}{m:PM}{bx0:ae}(h6:bx0 6=⟨e6,1,1,t6,[.str c]⟩)(h3:bx0 3=⟨e3,1,1,t3,[.omap 8 e8]⟩)(h8:bx0 8=⟨e8,3,s3,t8,.int .i64 n::dJ m⟩)(hm:∀e∈m,e.2.1= .bool true):
 cp 273 [.loc 6 e6 0 0,.loc 3 e3 0 0] 9 100 bx0 aH.d JH (gC (m.map (·.1)) c):=by
 intro bx x hb hx;refine aK (fn:=f273) (tab:=[]) (base:=100) mixed ?_ rfl ak rfl;refine aL _ [.tmp 4] 32 rfl rfl rfl ak ?_;have g6:=(hb 6 oM).trans h6;have g3:=(hb 3 oM).trans h3;have g8:=(hb 8 oM).trans h8;have mT:=hx.xm;have fin:∀(b:Bool) (B:ae),b=gC (m.map (·.1)) c x->(∀s,s<100->B s=bx s)->D.bool b= .bool (gC (m.map (·.1)) c x)/\∀s,s<100->B s=bx s:=fun b B h h'=>⟨by rw[h],h'⟩
 simp(disch:=omega) only[go_sem,g6,aH.d];refine bh (fun c1=>?_) (fun c1=>?_)
 rotate_left
 ·simp(disch:=omega) only[go_sem,c1,decide_false];refine fin false _ ?_ (fun s hs=>by simp(disch:=omega) only[if_neg]);unfold gC;split
  ·rename_i a b he;have:a=x.cat:=by
    unfold jv at he;split at he
    ·split at he<;>simp at he;exact he.1.symm
    ·cases he
   simp[this,c1]
  ·rfl
 ·simp(disch:=omega) only[go_sem,c1,decide_true];refine bh (fun c2=>?_) (fun c2=>?_)
  rotate_left
  ·simp(disch:=omega) only[go_sem,c2,decide_false];refine fin false _ ?_ (fun s hs=>by simp(disch:=omega) only[if_neg]);unfold gC jv;split
   ·rename_i a b he;split at he
    ·rename_i q hq;rw[hq]at c2;exact(c2 rfl).elim
    ·cases he
   ·rfl
  ·obtain⟨q,hq⟩:=List.length_eq_one_iff.1 (show x.parts.length=1 by omega);have AZ:x.parts[0]? =some q:=by rw[hq];rfl
   simp(disch:=omega) only[go_sem,c1,c2,decide_true,AZ,Part.d];refine bh (fun c3=>?_) (fun c3=>?_)
   rotate_left
   ·simp(disch:=omega) only[go_sem,c2,c3,decide_true,decide_false];refine fin false _ ?_ (fun s hs=>by simp(disch:=omega) only[if_neg]);simp[gC,jv,hq,c3]
   ·have hl:gC (m.map (·.1)) c x=(m.map (·.1)).contains q.cat:=by
     have he:jv x=some (x.cat,q.cat):=by unfold jv;rw[hq];exact if_pos c3
     simp[gC,he,c1]
    rcases qM q.cat m 0 with⟨f1,f2⟩|⟨j,e,f1,f2,f3⟩
    ·simp(disch:=omega) only[go_sem,c1,c2,c3,decide_true,g3,g8,f1,AZ,Part.d];refine fin false _ ?_ (fun s hs=>by simp(disch:=omega) only[if_neg]);rw[hl];symm;rw[Bool.eq_false_iff,Ne,List.contains_iff_mem,List.mem_map];rintro⟨e,he,h⟩;exact f2 e he h
    ·have hv:=hm e (mG f2);simp(disch:=omega) only[go_sem,c1,c2,c3,decide_true,g3,g8,f1,hv,AZ,Part.d];refine fin true _ ?_ (fun s hs=>by simp(disch:=omega) only[if_neg]);rw[hl];symm;rw[List.contains_iff_mem,List.mem_map];exact⟨e,mG f2,f3⟩
def jS(L:List (ah×Nat)):PM:=L.map fun p=>(p.1,.bool true,(p.2:Int))
def QY(L:List (ah×Nat)):(jS L).map (·.1)=L.map (·.1):=by simp[jS]
theorem Fs:∀(L:List (ah×Nat)) (j:Nat),(jS L).eraseIdx j=jS (L.eraseIdx j)
 |[],j=>by simp[jS]
 |p::L,0=>by simp[jS]
 |p::L,j+1=>by simpa[jS]using Fs L j
def QZ(L:List (ah×Nat)):∀e∈jS L,e.2.1= .bool true:=by
 intro e he;obtain⟨p,_,rfl⟩:=List.mem_map.1 he;rfl
def I7{l:List ah}{j:Nat}{c:ah}(h:l[j]? =some c):l.zipIdx.take (j+1)=l.zipIdx.take j++[(c,j)]:=by rw[List.take_add_one,List.getElem?_zipIdx,h];simp
def UI{l:List ah}(hn:l.Nodup){j:Nat}{c:ah}(h:l[j]? =some c):∀e∈jS (l.zipIdx.take j),e.1≠c:=by
 intro e he hc;obtain⟨p,hp,rfl⟩:=List.mem_map.1 he;obtain⟨i,hi,hpi⟩:=List.mem_iff_getElem.1 hp;have fU:i<j:=by simp at hi;omega
 rw[List.getElem_take,List.getElem_zipIdx]at hpi;have hl:j<l.length:=(gS.1 h).1;have h1:l[i]'oM=l[j]:=by
  have:=(gS.1 h).2;rw[this,<-hc,<-hpi]
 have:=(List.getElem_inj hn).1 h1;omega
structure Left(g:aW)(k:Nat)(L:List (ah×Nat)):Prop where
 of:List.Sublist L g.au.zipIdx
 has:∀F,Full g.rules F->(∀x∈F,x∈g.au)->∀x∈F,x∈L.map (·.1)
 how:Full g.rules (L.map (·.1))\/L.length+k<=g.au.length
theorem Left.all(g:aW):Left g 0 g.au.zipIdx:=⟨List.Sublist.refl _,fun F _ h x hx=>by simpa using h x hx,.inr sI⟩
theorem Left.sub{g:aW}{k:Nat}{L:List (ah×Nat)}(h:Left g k L):∀x∈L.map (·.1),x∈g.au:=by
 intro x hx;have:=h.of.map (·.1);rw[List.zipIdx_map_fst]at this;exact this.subset hx
theorem Left.fin{g:aW}{L:List (ah×Nat)}(h:Left g g.au.length L):Full g.rules (L.map (·.1)):=by
 rcases h.how with h|h
 ·exact h
 ·have:L=[]:=List.eq_nil_of_length_eq_zero oM;rw[this];exact GY _
structure nR(g:aW)(L0 L:List (ah×Nat))(seen:List D):Prop where
 of:List.Sublist L L0
 has:∀F,Full g.rules F->(∀x∈F,x∈g.au)->∀x∈F,x∈L.map (·.1)
 how:(L=L0/\∀p∈L0,(p.2:Int)∈seen.map intOf->g.rules.any (gC (L0.map (·.1)) p.1)=true)\/L.length<L0.length
 full:Full g.rules (L0.map (·.1))->L=L0
theorem nR.start{g:aW}{k:Nat}{L0:List (ah×Nat)}(h:Left g k L0):nR g L0 L0 []:=⟨List.Sublist.refl _,h.has,.inl ⟨rfl,by simp⟩,fun _=>rfl⟩
def one(p:ah×Nat):D:=.aI [.str p.1,.bool true,.int .i64 (p.2:Int)]
def vN(L:List (ah×Nat)):dJ (jS L)=L.map one:=by simp[dJ,jS,one]
def xa{L:List (ah×Nat)}{seen:List D}{d:D}:d∈iG seen (dJ (jS L))<->∃p∈L,d=one p/\(p.2:Int)∉seen.map intOf:=by
 simp only[iG,List.mem_filter,vN,List.mem_map];constructor
 ·rintro⟨⟨p,hp,rfl⟩,h⟩;refine⟨p,hp,rfl,fun hm=>?_⟩;have:(seen.map intOf).contains (gQ (one p))=true:=by rw[List.contains_iff_mem];exact List.mem_map.2 hm
  rw[this]at h;cases h
 ·rintro⟨p,hp,rfl,h⟩;refine⟨⟨p,hp,rfl⟩,?_⟩;have:(seen.map intOf).contains (gQ (one p))=false:=by rw[Bool.eq_false_iff,Ne,List.contains_iff_mem];exact fun hm=>h (List.mem_map.1 hm)
  rw[this];rfl
theorem sO{p:ah×Nat}:∀(L:List (ah×Nat)),(L.map (·.2)).Nodup->p∈L->(L.map one).find? (fun e=>gQ e==(p.2:Int))=some (one p)
 |[],_,h=>by simp at h
 |q::L,hn,h=>by
  simp only[mC,List.nodup_cons]at hn;rcases List.mem_cons.1 h with rfl|h
  ·simp[one,gQ]
  ·have bw:q.2≠p.2:=fun e=>hn.1 (List.mem_map.2 ⟨p,h,e.symm⟩);have hb:(gQ (one q)==(p.2:Int))=false:=by simp[one,gQ];omega
   rw[mC,List.find?_cons,hb];exact sO L hn.2 h
def P1{L:List (ah×Nat)}{p:ah×Nat}(seen:List D)(hn:(L.map (·.2)).Nodup)(h:p∈L):Ag (seen++[.int .i64 (p.2:Int)]) (dJ (jS L))=some (.aI [.str p.1,.bool true]):=by simp only[Ag,List.getLast?_concat,intOf,vN,sO L hn h,one]
def Kv{L L':List (ah×Nat)}{seen:List D}{p:ah×Nat}(hs:List.Sublist L' L)(h:p∈L)(hp:(p.2:Int)∉seen.map intOf):(iG (seen++[.int .i64 (p.2:Int)]) (dJ (jS L'))).length<(iG seen (dJ (jS L))).length:=by
 have e:∀es:List D,iG (seen++[.int .i64 (p.2:Int)]) es=(iG seen es).filter fun e=> !(gQ e==(p.2:Int)):=by
  intro es;simp only[iG,List.filter_filter];refine List.filter_congr fun x _=>?_;simp[intOf,Bool.not_or];by_cases h1:gQ x=p.2<;>simp[h1]
 have vE:List.Sublist (iG (seen++[.int .i64 (p.2:Int)]) (dJ (jS L'))) (iG seen (dJ (jS L))):=by
  rw[e];refine List.filter_sublist.trans ?_;rw[vN,vN];exact(hs.map one).filter _
 have hle:=vE.length_le;by_cases ar:(iG (seen++[.int .i64 (p.2:Int)]) (dJ (jS L'))).length<(iG seen (dJ (jS L))).length
 ·exact ar
 ·have heq:=vE.eq_of_length_le oM;have hm:one p∈iG seen (dJ (jS L)):=xa.2 ⟨p,h,rfl,hp⟩;rw[<-heq]at hm;obtain⟨q,hq,oQ,iM⟩:=xa.1 hm;have:p.2=q.2:=by injection oQ with oQ;injection oQ with _ oQ;injection oQ with _ oQ;injection oQ with oQ _;injection oQ;omega
  exact(iM (by rw[<-this];simp[intOf])).elim
def DQ{l:List ah}{L:List (ah×Nat)}(h:List.Sublist L l.zipIdx):(L.map (·.2)).Nodup/\∀p∈L,p.2<l.length:=by
 have h2:=h.map (·.2);rw[List.zipIdx_map_snd]at h2;refine⟨h2.nodup List.nodup_range',fun p hp=>?_⟩;have:=h2.subset (List.mem_map_of_mem hp);simp at this;omega
theorem nR.round{g:aW}{k:Nat}{L0 L:List (ah×Nat)}{seen:List D}(h0:Left g k L0)(h:nR g L0 L seen)(hl:∀e∈iG seen (dJ (jS L)),(g.au.length:Int)<=gQ e):Left g (k+1) L:=by
 have eH:∀p∈L,(p.2:Int)∈seen.map intOf:=fun p hp=>Classical.byContradiction fun hn=>by
  have h1:=hl _ (xa.2 ⟨p,hp,rfl,hn⟩);have h2:=(DQ (h.of.trans h0.of)).2 p hp;simp only[one,gQ]at h1;omega
 refine⟨h.of.trans h0.of,h.has,?_⟩;rcases h.how with⟨rfl,h1⟩|h1
 ·refine .inl fun c hc=>?_;obtain⟨p,hp,rfl⟩:=List.mem_map.1 hc;exact h1 p hp (eH p hp)
 ·rcases h0.how with h2|h2
  ·rw[h.full h2]at h1;omega
  ·exact .inr oM
theorem nR.je{g:aW}{L0 L:List (ah×Nat)}{seen:List D}{p:ah×Nat}(hn:(L.map (·.2)).Nodup)(hp:p∈L)(h:nR g L0 L seen)(hl:g.rules.any (gC (L.map (·.1)) p.1)=true):nR g L0 L (seen++[.int .i64 (p.2:Int)]):=by
 refine⟨h.of,h.has,?_,h.full⟩;rcases h.how with⟨rfl,h1⟩|h1
 ·refine .inl ⟨rfl,fun q hq hs=>?_⟩;simp only[List.map_append,List.mem_append,mC,List.map_nil,List.mem_singleton,intOf]at hs;rcases hs with hs|hs
  ·exact h1 q hq hs
  ·have SA:q=p:=by
    have:=sO L hn hq;rw[hs,sO L hn hp]at this;injection this with this;injection this with this;injection this with t1 t2;injection t2 with _ t2;injection t2 with t2 _;injection t1 with t1;injection t2 with _ t2;exact Prod.ext t1.symm oM
   rw[SA];exact hl
 ·exact .inr h1
theorem nR.cut{g:aW}{L0 L:List (ah×Nat)}{seen s':List D}{c:ah}{j:Nat}{q:ah×Nat}(hj:L[j]? =some q)(hq:q.1=c)(h:nR g L0 L seen)(hl:g.rules.any (gC (L.map (·.1)) c)=false):nR g L0 (L.eraseIdx j) s':=by
 have qa:j<L.length:=(gS.1 hj).1;have hlen:=h.of.length_le;have hc:c∈L.map (·.1):=List.mem_map.2 ⟨q,mG hj,hq⟩;refine⟨(List.eraseIdx_sublist _ _).trans h.of,fun F hF hs x hx=>?_,.inr ?_,fun hf=>?_⟩
 ·have hxc:x≠c:=by
   rintro rfl;have:=C8 (h.has F hF hs) (hF x hx);rw[hl]at this;cases this
  obtain⟨r,hr,rfl⟩:=List.mem_map.1 (h.has F hF hs x hx);obtain⟨i,hi⟩:=List.mem_iff_getElem?.1 hr;refine List.mem_map.2 ⟨r,List.mem_eraseIdx_iff_getElem?.2 ⟨i,?_,hi⟩,rfl⟩;rintro rfl;rw[hj]at hi;injection hi with hi;exact hxc (by rw[<-hi];exact hq)
 ·rw[List.length_eraseIdx];split<;>omega
 ·have e:=h.full hf;rw[<-e]at hf;rw[hf c hc]at hl;cases hl
def K_(g:aW)(hg:mP g)(N_:g.au.Nodup):mn prog (cJ prog) [] f225 0 [g.d] (fun _=> .none) (fun d _=>d= .bool (pS g)) (fun _ _=>False):=by
 refine aL _ [.tmp 2] 42 rfl rfl rfl ak ?_;have fL:=hg.Bm;simp(disch:=omega) only[go_sem,aW.d,strs];refine bo g.au.length (fun j σ bx=>σ 1= .loc 1 1 0 0/\σ 3= .loc 3 1 0 0/\σ 10=strs g.au/\σ 11= .int .i64 g.au.length/\σ 12= .int .i64 j/\bx 1=⟨1,1,6,81,[g.d]⟩/\bx 3=⟨1,1,1,355,[.omap 8 1]⟩/\bx 8=⟨1,3,0,355,.int .i64 j::dJ (jS (g.au.zipIdx.take j))⟩) ?_ ?_ ?_
 ·simp(disch:=omega) only[go_sem,aW.d,strs,List.take_zero];simp[jS,dJ]
 ·rintro j σ bx hj ⟨q1,q3,oC,Iq,XW,b1,b3,b8⟩;obtain⟨c,hc⟩:=ba hj;have ar:(j:Int)<(g.au.length:Int):=oM;have oy:IntKind.i64.wrap ((j:Int)+1)=((j+1:Nat):Int):=aE oM;have hu:=Ca (c:=(j:Int)) (v:=.bool true) (UI N_ hc);simp(disch:=omega) only[go_sem,q1,q3,oC,Iq,XW,b1,b3,b8,ar,hc,strs,hu,oy,fR];rw[I7 hc];simp[jS]
 ·rintro σ bx ⟨q1,q3,oC,Iq,XW,b1,b3,b8⟩;have ar:¬(g.au.length:Int)<(g.au.length:Int):=oM;simp(disch:=omega) only[go_sem,q1,Iq,XW,b1,ar,strs,aW.d];refine bo g.au.length (fun k σ bx=>σ 1= .loc 1 1 0 0/\σ 3= .loc 3 1 0 0/\σ 21= .int .i64 g.au.length/\σ 22= .int .i64 k/\bx 1=⟨1,1,6,81,[g.d]⟩/\bx 3=⟨1,1,1,355,[.omap 8 1]⟩/\
   ∃L,bx 8=⟨1,3,0,355,.int .i64 g.au.length::dJ (jS L)⟩/\Left g k L) ?_ ?_ ?_
  ·simp(disch:=omega) only[go_sem,q1,q3,b1,b3,b8,aW.d,strs];exact⟨_,by rw[<-List.length_zipIdx (l:=g.au) (i:=0),tL],Left.all g⟩
  ·rintro k σ bx hk ⟨q1,q3,FE,FF,b1,b3,L0,b8,V0⟩;have ar:(k:Int)<(g.au.length:Int):=oM;have iL:IntKind.i64.wrap ((k:Int)+1)=((k+1:Nat):Int):=aE oM;simp(disch:=omega) only[go_sem,q3,FE,FF,b3,b8,ar];obtain⟨R2,he⟩:∃R2,(bx 25).ep+1=R2:=⟨_,rfl⟩
   rw[he];refine JL (fun σ bx=>σ 1= .loc 1 1 0 0/\σ 3= .loc 3 1 0 0/\σ 21= .int .i64 g.au.length/\σ 22= .int .i64 k/\σ 25= .loc 25 R2 0 0/\bx 1=⟨1,1,6,81,[g.d]⟩/\bx 3=⟨1,1,1,355,[.omap 8 1]⟩/\
    ∃L seen,bx 8=⟨1,3,0,355,.int .i64 g.au.length::dJ (jS L)⟩/\bx 25=⟨R2,3,0,0,.omap 8 1:: .int .i64 g.au.length:: .int .i64 g.au.length::seen⟩/\nR g L0 L seen)
    (fun σ bx=>(iG ((bx 25).es.drop 3) ((bx 8).es.drop 1)).length) ?_ ?_
   ·simp(disch:=omega) only[go_sem,q1,q3,FE,FF,b1,b3,b8];exact⟨L0,[],rfl,rfl,nR.start V0⟩
   ·rintro σ bx ⟨q1,q3,FE,FF,XX,b1,b3,L,seen,b8,Vh,hm⟩;simp(disch:=omega) only[go_sem,q1,q3,FE,FF,XX,b1,b3,b8,Vh,xe];have hz:=DQ (hm.of.trans V0.of);refine⟨?_,?_,fun hl=>⟨by rw[iL],L,rfl,nR.round V0 hm hl⟩⟩
    ·cases hL:L with
     |nil=>exact .inr (.inl rfl)
     |cons p L'=>exact .inr (.inr ⟨one p,by rw[vN];simp,by have:=hz.2 p (by rw[hL];simp);simp only[one,gQ];omega⟩)
    ·intro k1 v b hd;obtain⟨p,hp,p9,qD⟩:=xa.1 hd;obtain⟨rfl,rfl,rfl⟩:k1= .str p.1/\v= .bool true/\b=(p.2:Int):=by
      injection p9 with p9;injection p9 with t1 p9;injection p9 with t2 p9;injection p9 with t3 _;injection t3 with _ t3;exact⟨t1,t2,t3⟩
     have aeQ:=P1 seen hz.1 hp;have Hc:∀(b:ae),(iG (List.drop 3 (bx 25).es) (List.drop 1 (bx 8).es))=iG seen (dJ (jS L)):=fun _=>by rw[Vh,b8];rfl
     rw[Hc bx];simp(disch:=omega) only[go_sem,fR,Vh,b8,tN,aeQ,q1,q3,b1,aW.d,strs];refine aC (NS (n0:=9) (k:=100) (T7 (e6:=(bx 6).ep+1) (e3:=1) (e8:=1) (n:=g.au.length) (c:=p.1) (m:=jS L) (t3:=355) (t6:=9) (t8:=355) (s3:=0) (by simp[aj]) (by simp[aj,b3]) (by simp[aj,b8]) (QZ L)) oM g.rules hg.zH hg.rules _ (fun _ _=>rfl)) rfl ?_;rintro d B ⟨rfl,hk⟩;have c1:=(hk 1 oM).trans (show _=bx 1 by simp[aj]);have c3:=(hk 3 oM).trans (show _=bx 3 by simp[aj]);have c8:=(hk 8 oM).trans (show _=bx 8 by simp[aj]);have c6:=hk 6 oM;have Vr:=hk 25 oM;rw[b1]at c1;rw[b3]at c3;rw[b8]at c8;simp[aj]at c6 Vr;rw[QY]at *;cases hl:g.rules.any (gC (L.map (·.1)) p.1)
     ·obtain⟨j,e,d1,d2,d3⟩:=Tx (m:=jS L) (s:=p.1) (c:=(g.au.length:Int)) ⟨_,List.mem_map.2 ⟨p,hp,rfl⟩,rfl⟩;simp(disch:=omega) only[go_sem,nF,c1,c3,c8,c6,Vr,d3,fR,q1,q3,FE,FF,XX];have he:=Fs L j;obtain⟨q,oQ,iM⟩:∃q,L[j]? =some q/\q.1=p.1:=by
       simp only[jS,gM,mS]at d1;obtain⟨q,h1,h2⟩:=d1;exact⟨q,h1,by rw[<-d2,<-h2]⟩
      rw[he];exact⟨⟨by simp[aW.d,strs],L.eraseIdx j,_,rfl,rfl,hm.cut oQ iM hl⟩,Kv (List.eraseIdx_sublist _ _) hp qD⟩
     ·simp(disch:=omega) only[go_sem,nT,c1,c3,c8,Vr,q1,q3,FE,FF,XX];exact⟨⟨by simp[aW.d,strs],L,_,rfl,rfl,hm.je hz.1 hp hl⟩,Kv (List.Sublist.refl _) hp qD⟩
  ·rintro σ bx ⟨q1,q3,FE,FF,b1,b3,L,b8,hL⟩;have ar:¬(g.au.length:Int)<(g.au.length:Int):=oM;simp(disch:=omega) only[go_sem,q3,FE,FF,b3,b8,ar,GL];rw[Nh hL.sub hL.fin hL.has];cases L<;>simp[jS]
def K9(g:aW)(hg:mP g)(N_:g.au.Nodup):ao prog 225 [g.d] (.bool (pS g)):=
 (aK mixed (K_ g hg N_) rfl ak rfl).to (fun _ _ h=>h) (fun d' bx' h=>⟨.bool (pS g),by rw[h];rfl,.refl _⟩)
def eV(B sz el:Nat)(l:List D)(bx:ae)(d:D)(bx':ae):Prop:=
 ((l=[]/\aS bx' [B+5] el sz d [])\/(l≠[]/\∃e,d= .bp (B+7) e sz 0 l.length/\bx' (B+7)=⟨e,1,sz,el,l⟩))/\∀s,s<B->bx' s=bx s
theorem eV.je{B sz el:Nat}{l:List D}{bx bx':ae}{d:D}(h:eV B sz el l bx d bx'):∀s,s<B->bx' s=bx s:=h.2
theorem eV.own{B sz el:Nat}{l:List D}{bx bx':ae}{d:D}(h:eV B sz el l bx d bx')(hl:l≠[]):∃e,d= .bp (B+7) e sz 0 l.length/\bx' (B+7)=⟨e,1,sz,el,l⟩:=by
 rcases h.1 with h|h
 ·exact(hl h.1).elim
 ·exact h.2
theorem eV.none{B sz el:Nat}{bx bx':ae}{d:D}(h:eV B sz el [] bx d bx'):aS bx' [B+5] el sz d []:=by
 rcases h.1 with h|h
 ·exact h.2
 ·exact(h.1 rfl).elim
def GC(B:Nat)(l:List Part)(hl:l.length<=65536)(bx:ae):bj prog 228 0 [.sl 3 (l.map Part.d)] bx (eV B 3 247 (l.map Part.d) bx) (fun _ _=>False):=by
 refine aK (fn:=f228) (tab:=[(1000005,[])]) (base:=B) mixed ?_ rfl ak rfl;refine aL _ [.tmp 2] 8 rfl rfl rfl ak ?_;cases l with
 |nil=>
  simp(disch:=omega) only[go_sem,List.map_nil,List.isEmpty_nil];refine⟨⟨.inl ⟨rfl,.nil _ _ _ _⟩,fun _ _=>rfl⟩,?_⟩;refine iD (ts:=[B+5]) (xs:=[]) (.inr ⟨B+5,(bx (B+5)).ep+1,by simp,rfl,by simp[aj]⟩) ?_;simp(disch:=omega) only[go_sem];exact⟨.inl ⟨rfl,.inr ⟨B+5,(bx (B+5)).ep+1,by simp,rfl,by simp[aj]⟩⟩,fun s hs=>by simp(disch:=omega) only[aD]⟩
 |cons x l=>
  simp only[List.length_cons]at hl;simp(disch:=omega) only[go_sem,mC,List.isEmpty_cons];refine eJ (ts:=[B+5]) (xs:=[]) (.inr ⟨B+5,(bx (B+5)).ep+1,by simp,rfl,by simp[aj]⟩) sI sG (by simp;omega) oM oM sI fun e' bx' h1 h2=>?_;simp(disch:=omega) only[go_sem];refine⟨.inr ⟨by simp,e',by simp,by simpa using h1⟩,fun s hs=>?_⟩;rw[h2 s oM (by simp;omega)];simp(disch:=omega) only[aD]
def PE(B:Nat)(l:List Entry)(hl:l.length<=65536)(bx:ae):bj prog 226 0 [.sl 5 (l.map Entry.d)] bx (eV B 5 138 (l.map Entry.d) bx) (fun _ _=>False):=by
 refine aK (fn:=f226) (tab:=[(1000005,[])]) (base:=B) mixed ?_ rfl ak rfl;refine aL _ [.tmp 2] 8 rfl rfl rfl ak ?_;cases l with
 |nil=>
  simp(disch:=omega) only[go_sem,List.map_nil,List.isEmpty_nil];refine⟨⟨.inl ⟨rfl,.nil _ _ _ _⟩,fun _ _=>rfl⟩,?_⟩;refine iD (ts:=[B+5]) (xs:=[]) (.inr ⟨B+5,(bx (B+5)).ep+1,by simp,rfl,by simp[aj]⟩) ?_;simp(disch:=omega) only[go_sem];exact⟨.inl ⟨rfl,.inr ⟨B+5,(bx (B+5)).ep+1,by simp,rfl,by simp[aj]⟩⟩,fun s hs=>by simp(disch:=omega) only[aD]⟩
 |cons x l=>
  simp only[List.length_cons]at hl;simp(disch:=omega) only[go_sem,mC,List.isEmpty_cons];refine eJ (ts:=[B+5]) (xs:=[]) (.inr ⟨B+5,(bx (B+5)).ep+1,by simp,rfl,by simp[aj]⟩) sI sG (by simp;omega) oM oM sI fun e' bx' h1 h2=>?_;simp(disch:=omega) only[go_sem];refine⟨.inr ⟨by simp,e',by simp,by simpa using h1⟩,fun s hs=>?_⟩;rw[h2 s oM (by simp;omega)];simp(disch:=omega) only[aD]
def PF(B:Nat)(l:List aH)(hl:l.length<=65536)(bx:ae):bj prog 227 0 [.sl 5 (l.map aH.d)] bx (eV B 5 142 (l.map aH.d) bx) (fun _ _=>False):=by
 refine aK (fn:=f227) (tab:=[(1000005,[])]) (base:=B) mixed ?_ rfl ak rfl;refine aL _ [.tmp 2] 8 rfl rfl rfl ak ?_;cases l with
 |nil=>
  simp(disch:=omega) only[go_sem,List.map_nil,List.isEmpty_nil];refine⟨⟨.inl ⟨rfl,.nil _ _ _ _⟩,fun _ _=>rfl⟩,?_⟩;refine iD (ts:=[B+5]) (xs:=[]) (.inr ⟨B+5,(bx (B+5)).ep+1,by simp,rfl,by simp[aj]⟩) ?_;simp(disch:=omega) only[go_sem];exact⟨.inl ⟨rfl,.inr ⟨B+5,(bx (B+5)).ep+1,by simp,rfl,by simp[aj]⟩⟩,fun s hs=>by simp(disch:=omega) only[aD]⟩
 |cons x l=>
  simp only[List.length_cons]at hl;simp(disch:=omega) only[go_sem,mC,List.isEmpty_cons];refine eJ (ts:=[B+5]) (xs:=[]) (.inr ⟨B+5,(bx (B+5)).ep+1,by simp,rfl,by simp[aj]⟩) sI sG (by simp;omega) oM oM sI fun e' bx' h1 h2=>?_;simp(disch:=omega) only[go_sem];refine⟨.inr ⟨by simp,e',by simp,by simpa using h1⟩,fun s hs=>?_⟩;rw[h2 s oM (by simp;omega)];simp(disch:=omega) only[aD]
def mN(l:List (ah×Nat)):PM:=l.map fun p=>(p.1,.int .i64 (p.2:Int),(p.2:Int))
def num(l:List ah)(s:ah):Int:=if l.contains s then(l.idxOf s:Int)else 0
def HU{l:List ah}(hn:l.Nodup){j:Nat}{c:ah}(h:l[j]? =some c):c∉l.take j:=by
 intro hm;obtain⟨i,hi,hc⟩:=List.mem_iff_getElem.1 hm;obtain⟨hj,yU⟩:=gS.1 h;rw[List.getElem_take]at hc;simp at hi;have:=(List.getElem_inj hn).1 (hc.trans yU.symm);omega
def R6(l:List ah)(hn:l.Nodup)(s:ah):∃r,ff .str (.str s) (dJ (mN l.zipIdx)) 0=some r/\((r=none/\l.contains s=false/\num l s=0)\/∃j,r=some (j,.int .i64 (num l s))/\l.contains s=true):=by
 rcases qM s (mN l.zipIdx) 0 with⟨h1,h2⟩|⟨j,e,h1,h2,h3⟩
 ·have hs:l.contains s=false:=by
   rw[Bool.eq_false_iff,Ne,List.contains_iff_mem];intro hm;obtain⟨i,hi⟩:=List.mem_iff_getElem?.1 hm;refine h2 (s,.int .i64 (i:Int),(i:Int)) (List.mem_map.2 ⟨(s,i),?_,rfl⟩) rfl;exact mG (i:=i) (by rw[List.getElem?_zipIdx,hi];simp)
  exact⟨none,h1,.inl ⟨rfl,hs,by unfold num;rw[hs];rfl⟩⟩
 ·simp only[mN,gM,List.getElem?_zipIdx,Option.map_map,mS]at h2;obtain⟨c,hc,rfl⟩:=h2;simp only[Function.comp,Nat.zero_add]at h1 h3;subst h3;have hm:l.contains c=true:=List.contains_iff_mem.2 (mG hc);have hi:l.idxOf c=j:=(y6 l j c hc (HU hn hc)).1;exact⟨_,h1,.inr ⟨j,by simp only[num,hm,if_true,hi],hm⟩⟩
def VG{e e2 t t2 s2:Nat}{n:Int}{l:List ah}{bx0:ae}(hn:l.Nodup)(h4:bx0 4=⟨e,1,1,t,[.omap 29 e2]⟩)(h29:bx0 29=⟨e2,3,s2,t2,.int .i64 n::dJ (mN l.zipIdx)⟩):
 FU 223 [.loc 4 e 0 0] 30 bx0 l.contains:=by
 intro bx s hb hs;refine aK (fn:=f223) (tab:=[]) (base:=100000) mixed ?_ rfl ak rfl;refine aL _ [.tmp 3,.tmp 4] 15 rfl rfl rfl ak ?_;have g4:=(hb 4 oM).trans h4;have g29:=(hb 29 oM).trans h29;obtain⟨r,hr,⟨rfl,hc,_⟩|⟨j,rfl,hc⟩⟩:=R6 l hn s
 ·simp(disch:=omega) only[go_sem,g4,g29,hr];exact⟨⟨_,by rw[hc]⟩,fun _ _=>trivial⟩
 ·simp(disch:=omega) only[go_sem,g4,g29,hr];exact⟨⟨_,by rw[hc]⟩,fun _ _=>trivial⟩
def qp(l:List ah)(x:Entry):Entry:={x with no:=num l x.cat}
def uo(l:List ah)(q:Part):Part:={q with no:=if q.text=[]then num l q.cat else 0}
def ku(l:List ah)(x:aH):aH:={x with no:=num l x.cat,parts:=x.parts.map (uo l)}
def fp(g:aW):aW:={g with no:=num g.au g.start,entries:=g.entries.map (qp g.au),rules:=g.rules.map (ku g.au)}
def dq(g:aW):aW×Int:=
 if 32<g.au.length\/512<g.entries.length\/128<g.rules.length then(.zero,2)
 else if ¬g.au.Nodup\/gG g.au.contains g=false then(.zero,260)
 else if pS g=true then(.zero,261)else(fp g,0)
def pv(p:aW×Int):D:=.aI [p.1.d,.int .i64 p.2]
def mh:D:=.agg [.str [],.aq,.str [],.int .i64 0,.aq,.aq]
def UY(p:aW×Int)(d:D)(bx:ae):Prop:=∃r,bD bx d=some r/\bN r (pv p)
theorem zW{a b c d f k a' b' c' d' f' k':D}(h1:bN a a')(h2:bN b b')(h3:bN c c')(h4:bN d d')(h5:bN f f')(h6:bN k k'):bN (.agg [a,b,c,d,f,k]) (.agg [a',b',c',d',f',k']):=by
 refine .agg rfl fun i x x' hx dQ=>?_
 match i with
 |0=>simp at hx dQ;subst hx;subst dQ;exact h1
 |1=>simp at hx dQ;subst hx;subst dQ;exact h2
 |2=>simp at hx dQ;subst hx;subst dQ;exact h3
 |3=>simp at hx dQ;subst hx;subst dQ;exact h4
 |4=>simp at hx dQ;subst hx;subst dQ;exact h5
 |5=>simp at hx dQ;subst hx;subst dQ;exact h6
 |i+6=>simp at hx
def jU(n:Int)(bx:ae):UY (.zero,n) (.aI [mh,.int .i64 n]) bx:=by
 refine⟨.aI [mh,.int .i64 n],by simp[mh,go_sem],?_⟩;exact lk (zW (.refl _) (.nil _) (.refl _) (.refl _) (.nil _) (.nil _)) (.refl _)
def LL{l:List ah}{j:Nat}{s:ah}(hs:l[j]? =some s){c:Int}{m:PM}(hm:((l.take j).Nodup/\c=j/\m=mN (l.zipIdx.take j))\/(¬l.Nodup/\m.length<j)):
 ∃m' c',oI .str (.str s) (.int .i64 j) c (dJ m)=some (.int .i64 c'::dJ m')/\(((l.take (j+1)).Nodup/\c'=((j+1:Nat):Int)/\m'=mN (l.zipIdx.take (j+1)))\/(¬l.Nodup/\m'.length<j+1)):=by
 have fV:l.take (j+1)=l.take j++[s]:=by rw[List.take_add_one,hs];rfl
 rcases hm with⟨h1,rfl,rfl⟩|⟨h1,h2⟩
 ·have Sp:(mN (l.zipIdx.take j)).map (·.1)=l.take j:=by
   simp only[mN,List.map_map,Function.comp_def];rw[List.map_take,List.zipIdx_map_fst]
  have hlen:(mN (l.zipIdx.take j)).length<=j:=by simp[mN];omega
  by_cases fO:s∈l.take j
  ·obtain⟨m',c',g1,g2,g3⟩:=I0 (mN (l.zipIdx.take j)) s (j:Int) (.int .i64 j);refine⟨m',c',g1,.inr ⟨fun hn=>?_,?_⟩⟩
   ·have:=hn.sublist (List.take_sublist (j+1) l);rw[fV,List.nodup_append]at this;exact this.2.2 s fO s sI rfl
   ·have:=g3 (by rw[<-Sp]at fO;obtain⟨e,he,h⟩:=List.mem_map.1 fO;exact⟨e,he,h⟩);omega
  ·refine⟨_,_,Ca ?_,.inl ⟨?_,by omega,?_⟩⟩
   ·intro e he h;exact fO (by rw[<-Sp];exact List.mem_map.2 ⟨e,he,h⟩)
   ·rw[fV,List.nodup_append];refine⟨h1,by simp,fun a ha b hb h=>?_⟩;simp at hb;subst hb;subst h;exact fO ha
   ·rw[I7 hs];simp[mN]
 ·obtain⟨m',c',g1,g2,g3⟩:=I0 m s c (.int .i64 j);exact⟨m',c',g1,.inr ⟨h1,by omega⟩⟩
theorem eV.facts{B sz el:Nat}{l:List D}{bx bx':ae}{d:D}(h:eV B sz el l bx d bx'):d.cells=[d]/\D.one d=true/\∀e z b ag,ua (.slice e z b ag) d=some l.length:=by
 rcases h.1 with⟨hl,h⟩|⟨_,e,h,h2⟩
 ·rcases h with⟨h,h2⟩|⟨t,e,h1,h,h2⟩<;>rw[h,hl]<;>exact⟨rfl,rfl,fun _ _ _ _=>rfl⟩
 ·rw[h];exact⟨rfl,rfl,fun _ _ _ _=>rfl⟩
def kx{α:Type}(f:α->α)(l:List α)(k:Nat):List α:=(l.take k).map f++l.drop k
def IZ{α:Type}(f:α->α)(l:List α):kx f l 0=l:=by simp[kx]
def B7{α:Type}(f:α->α)(l:List α):kx f l l.length=l.map f:=by simp[kx]
def B9{α:Type}(f:α->α)(l:List α)(k:Nat):(kx f l k).length=l.length:=by simp[kx];omega
def B8{α:Type}{f:α->α}{l:List α}{k:Nat}{x:α}(h:l[k]? =some x):(kx f l k)[k]? =some x:=by
 have hk:=(gS.1 h).1;rw[kx,List.getElem?_append_right (by simp;omega)];simp[Nat.min_eq_left (Nat.le_of_lt hk),h]
def RB{α:Type}{f:α->α}{l:List α}{k:Nat}{x:α}(h:l[k]? =some x):(kx f l k).set k (f x)=kx f l (k+1):=by
 have hk:=(gS.1 h).1;have hx:=(gS.1 h).2;have e1:l.drop k=x::l.drop (k+1):=by rw[List.drop_eq_getElem_cons hk,hx]
 have e2:l.take (k+1)=l.take k++[x]:=by rw[List.take_add_one,h];rfl
 rw[kx,kx,e1,e2,List.set_append];simp[Nat.min_eq_left (Nat.le_of_lt hk)]
def B_{α:Type}{f:α->α}{d:α->D}{l:List α}{k:Nat}{x:α}(h:l[k]? =some x):((kx f l k).map d).set k (d (f x))=(kx f l (k+1)).map d:=by rw[<-RB h,List.map_set]
def Ge(eR:Nat)(l:List D)(bx:ae):Prop:=∃es,bx 327=⟨eR,1,5,142,es⟩/\cY bx es=some l/\∀t∈bM es,t=347
theorem rU(bx:ae):∀l:List aH,cY bx (l.map aH.d)=some (l.map aH.d)/\bM (l.map aH.d)=[]
 |[]=>⟨by simp[cY],rfl⟩
 |x::l=>by
  obtain⟨h1,h2⟩:=rU bx l;refine⟨?_,?_⟩
  ·rw[mC,dS,h1];simp[aH.d,go_sem]
  ·simp[aH.d,names,bM,h2]
theorem KC{bx:ae}{d d':D}(hd:bD bx d=some d'):∀(l l':List D) (k:Nat),cY bx l=some l'->cY bx (l.set k d)=some (l'.set k d')
 |[],l',k,h=>by simp only[pt,sJ]at h;subst h;simp[cY]
 |x::l,l',0,h=>by
  rw[dS]at h;obtain⟨y,ys,h1,h2,rfl⟩:=pB h;rw[List.set_cons_zero,dS,hd,h2];rfl
 |x::l,l',k+1,h=>by
  rw[dS]at h;obtain⟨y,ys,h1,h2,rfl⟩:=pB h;rw[List.set_cons_succ,dS,h1,KC hd l ys k h2];rfl
theorem rS{d:D}{t:Nat}:∀(l:List D) (k:Nat),t∈bM (l.set k d)->t∈bM l\/t∈names d
 |[],k,h=> .inl (by simpa using h)
 |x::l,0,h=>by
  simp only[List.set_cons_zero,bM,List.mem_append]at h⊢;exact h.elim .inr fun h=> .inl (.inr h)
 |x::l,k+1,h=>by
  simp only[List.set_cons_succ,bM,List.mem_append]at h⊢;rcases h with h|h
  ·exact .inl (.inl h)
  ·rcases rS l k h with h|h
   ·exact .inl (.inr h)
   ·exact .inr h
theorem Ge.of{eR:Nat}{l:List aH}{bx:ae}(h:bx 327=⟨eR,1,5,142,l.map aH.d⟩):Ge eR (l.map aH.d) bx:=
 ⟨_,h,(rU bx l).1,by rw[(rU bx l).2];simp⟩
theorem Ge.eI{eR:Nat}{l:List D}{bx:ae}(h:Ge eR l bx):∃bx0,((bx 327).k=1/\cY bx (bx 327).es=some l/\bx0=Go.V.eI bx 327 l)/\bx0 327=⟨eR,1,5,142,l⟩/\∀s,s≠327->s≠347->bx0 s=bx s:=by
 obtain⟨es,h1,h2,h3⟩:=h;have h4:dX bx es 327=bx 327:=by rw[eL,if_neg (fun hm=>by have:=h3 _ hm;omega)]
 have h5:(bx 327).es=es:=by rw[h1]
 refine⟨_,⟨by rw[h1],by rw[h5];exact h2,rfl⟩,?_,fun s hs sC=>?_⟩
 ·unfold Go.V.eI;rw[h5,dC,h4,h1]
 ·unfold Go.V.eI;rw[h5,aD hs,eL,if_neg];exact fun hm=>sC (h3 s hm)
def Mw{g:aW}{p:ah->Bool}(h:gG p g=true){x:aH}(hx:x∈g.rules):x.parts≠[]/\x.parts.length<=4:=by
 simp only[gG,bA,List.all_eq_true]at h;have:=h.2.2.2.2.2 x hx;simp only[ja,bA,fA,decide_eq_true_eq]at this;have h2:=this.2.1;exact⟨fun e=>by rw[e]at h2;simp at h2,by omega⟩
def QV(l:List ah)(hn:l.Nodup)(s:ah):sk (some (.int .i64 0)) false (ff .str (.str s) (dJ (mN l.zipIdx)) 0)=some (.int .i64 (num l s)):=by
 obtain⟨r,hr,⟨rfl,_,h⟩|⟨j,rfl,_⟩⟩:=R6 l hn s
 ·rw[hr,h];rfl
 ·rw[hr];rfl
def OW(g:aW)(hg:mP g):mn prog (cJ prog) [(2000016,[]),(2000026,[]),(16,[(7,5)]),(20,[(12,3)]),(26,[(11,7),(16,6),(12,6),(11,6)]),(32,[(14,3)])] f172 0 [g.d] (fun _=> .none) (UY (dq g)) (fun _ _=>False):=by
 refine aL _ [.cell 2 81,.tmp 3] 164 rfl rfl rfl ak ?_;simp(disch:=omega) only[go_sem,aW.d,strs];by_cases vC:32<g.au.length\/512<g.entries.length\/128<g.rules.length
 ·have hr:dq g=(.zero,2):=by unfold dq;rw[if_pos vC]
  rw[hr];by_cases l1:(32:Int)<(g.au.length:Int)
  ·simp(disch:=omega) only[go_sem,l1,decide_true];exact jU _ _
  by_cases l2:(512:Int)<(g.entries.length:Int)
  ·simp(disch:=omega) only[go_sem,l1,l2,decide_true,decide_false];exact jU _ _
  have l3:(128:Int)<(g.rules.length:Int):=oM;simp(disch:=omega) only[go_sem,l1,l2,l3,decide_true,decide_false];exact jU _ _
 ·have l1:¬(32:Int)<(g.au.length:Int):=oM;have l2:¬(512:Int)<(g.entries.length:Int):=oM;have l3:¬(128:Int)<(g.rules.length:Int):=oM;simp(disch:=omega) only[go_sem,l1,l2,l3,decide_false];refine bo g.au.length (fun j σ bx=>σ 1= .loc 1 1 0 0/\σ 2= .loc 2 1 0 0/\σ 4= .loc 4 1 0 0/\σ 31=strs g.au/\σ 32= .int .i64 g.au.length/\σ 33= .int .i64 j/\bx 1=⟨1,1,6,81,[g.d]⟩/\bx 2=⟨1,1,6,81,[mh]⟩/\bx 4=⟨1,1,1,307,[.omap 29 1]⟩/\
   ∃c m,bx 29=⟨1,3,0,307,.int .i64 c::dJ m⟩/\(((g.au.take j).Nodup/\c=j/\m=mN (g.au.zipIdx.take j))\/(¬g.au.Nodup/\m.length<j))) ?_ ?_ ?_
  ·simp(disch:=omega) only[go_sem,aW.d,strs,List.take_zero,mh];exact⟨0,[],rfl,.inl ⟨.nil,rfl,rfl⟩⟩
  ·rintro j σ bx hj ⟨q1,q2,q4,q31,XY,XZ,b1,b2,b4,c,m,xO,hm⟩;obtain⟨s,hs⟩:=ba hj;have ar:(j:Int)<(g.au.length:Int):=oM;have oy:IntKind.i64.wrap ((j:Int)+1)=((j+1:Nat):Int):=aE oM;obtain⟨m',c',hu,tT⟩:∃m' c',oI .str (.str s) (.int .i64 j) c (dJ m)=some (.int .i64 c'::dJ m')/\(((g.au.take (j+1)).Nodup/\c'=((j+1:Nat):Int)/\m'=mN (g.au.zipIdx.take (j+1)))\/(¬g.au.Nodup/\m'.length<j+1)):=LL hs hm;simp(disch:=omega) only[go_sem,q1,q2,q4,q31,XY,XZ,b1,b2,b4,xO,ar,hs,strs,hu,oy,fR];exact⟨c',m',rfl,tT⟩
  ·rintro σ bx ⟨q1,q2,q4,q31,XY,XZ,b1,b2,b4,c,m,xO,hm⟩;have ar:¬(g.au.length:Int)<(g.au.length:Int):=oM;simp(disch:=omega) only[go_sem,q1,q4,XY,XZ,b1,b4,xO,ar,strs,aW.d,GL];rcases hm with⟨hn,rfl,rfl⟩|⟨hn,h2⟩
   rotate_left
   ·have hr:dq g=(.zero,260):=by unfold dq;rw[if_neg vC,if_pos (.inl hn)]
    have h3:¬((m.length:Int)=(g.au.length:Int)):=oM;simp(disch:=omega) only[go_sem,h3,decide_false,nF,q2,b2,mh];rw[hr];exact jU _ _
   rw[tL]at hn;have hz:g.au.zipIdx.take g.au.length=g.au.zipIdx:=by rw[<-List.length_zipIdx (l:=g.au) (i:=0),tL]
   rw[hz]at xO⊢;have h3:(((mN g.au.zipIdx).length:Nat):Int)=(g.au.length:Int):=by simp[mN]
   simp(disch:=omega) only[go_sem,h3,decide_true,nT,q1,b1,aW.d,strs];refine aC (Uz g hg bx (VG hn b4 xO) oM) rfl ?_;rintro d B ⟨rfl,hk⟩;have c1:=(hk 1 oM).trans b1;have c2:=(hk 2 oM).trans b2;have c4:=(hk 4 oM).trans b4;have R0:=(hk 29 oM).trans xO;cases ht:gG g.au.contains g
   ·have hr:dq g=(.zero,260):=by unfold dq;rw[if_neg vC,if_pos (.inr ht)]
    simp(disch:=omega) only[go_sem,h3,decide_true,nT,nF,q2,c2,mh];rw[hr];exact jU _ _
   simp(disch:=omega) only[go_sem,h3,decide_true,nT,q1,c1,aW.d,strs];refine av (K9 g hg hn) (show D.aF [g.d]=true by simp[D.aF,kW]) ?_;cases hc:pS g
   rotate_left
   ·have hr:dq g=(.zero,261):=by unfold dq;rw[if_neg vC,if_neg (by simp[hn,ht]),if_pos hc]
    simp(disch:=omega) only[go_sem,q2,c2,mh];rw[hr];exact jU _ _
   have hr:dq g=(fp g,0):=by unfold dq;rw[if_neg vC,if_neg (by simp[hn,ht]),if_neg (by simp[hc])]
   rw[hr];have CS:=QV g.au hn;simp(disch:=omega) only[go_sem,q1,q2,q4,c1,c2,c4,R0,CS,mh,aW.d,strs];refine gY (.aY 0 (.load 1 1 (.aY 3 (.load 4 1 (.both 2 [1] (.aY 6 (.both 5 [] (.both 7 [] (.aY 8 (.both 9 [] .fin .stop)) .stop) .stop)) .stop))))) ak ?_;simp(disch:=omega) only[go_sem,q1,c1,aW.d,strs];generalize EY:aj (aj B 2 _) 2 _=B1;have d1:B1 1=⟨1,1,6,81,[g.d]⟩:=by rw[<-EY];simp[aj,c1]
   have d2:B1 2=⟨1,1,6,81,[.agg [.str g.name,.sl 1 (g.au.map D.str),.str g.start,.int .i64 (num g.au g.start),.sl 5 (g.entries.map Entry.d),.sl 5 (g.rules.map aH.d)]]⟩:=by rw[<-EY];simp[aj]
   have d4:B1 4=⟨1,1,1,307,[.omap 29 1]⟩:=by rw[<-EY];simp[aj,c4]
   obtain⟨cl,d29⟩:∃c:Int,B1 29=⟨1,3,0,307,.int .i64 c::dJ (mN g.au.zipIdx)⟩:=⟨_,by rw[<-EY];simp[aj,R0];rfl⟩
   clear EY;refine aC (PE 300 g.entries oM B1) rfl ?_;rintro dE B2 ⟨hE,kE⟩;simp(disch:=omega) only[go_sem,kE 1 oM,aW.d,strs,q2,d1];refine aC (PF 320 g.rules oM B2) rfl ?_;rintro dR B3 ⟨hR,kR⟩;have e1:=(kR 1 oM).trans ((kE 1 oM).trans d1);have e2:=(kR 2 oM).trans ((kE 2 oM).trans d2);have e4:=(kR 4 oM).trans ((kE 4 oM).trans d4);have e29:=(kR 29 oM).trans ((kE 29 oM).trans d29);obtain⟨f1,f2,f3⟩:=eV.facts ⟨hE,kE⟩;obtain⟨f4,f5,f6⟩:=eV.facts ⟨hR,kR⟩;rw[List.length_map]at f3 f6;simp(disch:=omega) only[go_sem,e2,q2,f1,f2,f3,f4,f5];generalize VW:aj (aj B3 2 _) 2 _=B4;have uW:∀s,s≠2->B4 s=B3 s:=fun s hs=>by rw[<-VW];simp[aj,hs]
   have g2:B4 2=⟨1,1,6,81,[.agg [.str g.name,.sl 1 (g.au.map D.str),.str g.start,.int .i64 (num g.au g.start),dE,dR]]⟩:=by rw[<-VW];simp[aj]
   clear VW;obtain⟨eE,Wq⟩:∃eE,g.entries≠[]->dE= .bp 307 eE 5 0 g.entries.length/\B4 307=⟨eE,1,5,138,g.entries.map Entry.d⟩:=by
    by_cases he:g.entries=[]
    ·exact⟨0,fun h=>(h he).elim⟩
    ·obtain⟨e,h1,h2⟩:=eV.own ⟨hE,kE⟩ (by simpa using he);exact⟨e,fun _=>⟨by simpa using h1,(uW 307 oM).trans ((kR 307 oM).trans h2)⟩⟩
   have er:=hg.Bp;refine bo g.entries.length (fun j σ bx=>σ 2= .loc 2 1 0 0/\σ 4= .loc 4 1 0 0/\σ 75= .int .i64 g.entries.length/\σ 76= .int .i64 j/\(∀s,s≠307->bx s=B4 s)/\(g.entries≠[]->bx 307=⟨eE,1,5,138,(kx (qp g.au) g.entries j).map Entry.d⟩)) ?_ ?_ ?_
   ·simp(disch:=omega) only[go_sem,q2,q4,IZ];exact⟨fun _ _=>trivial,fun h=>(Wq h).2⟩
   ·rintro j σ bx hj ⟨q2,q4,X2,X3,hk,Lt⟩;obtain⟨x,hx⟩:=ba hj;have bw:g.entries≠[]:=by rintro e;rw[e]at hj;simp at hj
    obtain⟨rfl,-⟩:=Wq bw;have b7:=Lt bw;have b2:=(hk 2 oM).trans g2;have b4:=(hk 4 oM).trans ((uW 4 oM).trans e4);have xO:=(hk 29 oM).trans ((uW 29 oM).trans e29);have ar:(j:Int)<(g.entries.length:Int):=oM;have oy:IntKind.i64.wrap ((j:Int)+1)=((j+1:Nat):Int):=aE oM;have ez:=B8 (f:=qp g.au) hx;have gI:=B_ (f:=qp g.au) (d:=Entry.d) hx;simp only[qp,Entry.d]at gI;simp(disch:=omega) only[go_sem,q2,q4,X2,X3,ar,oy,b2,b4,xO,b7,ez,CS,Entry.d,strs];refine⟨fun s hs=>by rw[if_neg hs];exact hk s hs,fun _=>?_⟩;rw[<-gI];try rfl
   ·rintro σ bx ⟨q2,q4,X2,X3,hk,Lt⟩;have ar:¬(g.entries.length:Int)<(g.entries.length:Int):=oM;have b2:=(hk 2 oM).trans g2;simp(disch:=omega) only[go_sem,q2,X2,X3,ar,b2,f6];rw[B7]at Lt;obtain⟨eR,Wu⟩:∃eR,g.rules≠[]->dR= .bp 327 eR 5 0 g.rules.length/\bx 327=⟨eR,1,5,142,g.rules.map aH.d⟩:=by
     by_cases he:g.rules=[]
     ·exact⟨0,fun h=>(h he).elim⟩
     ·obtain⟨e,h1,h2⟩:=eV.own ⟨hR,kR⟩ (by simpa using he);exact⟨e,fun _=>⟨by simpa using h1,(hk 327 oM).trans ((uW 327 oM).trans h2)⟩⟩
    have qe:=hg.zH;generalize hB5:bx=B5 at *;refine Ac g.rules.length (fun j σ bx=>σ 2= .loc 2 1 0 0/\σ 4= .loc 4 1 0 0/\σ 95= .int .i64 g.rules.length/\σ 96= .int .i64 j/\(∀s,s≠327->s<340->bx s=B5 s)/\(g.rules≠[]->Ge eR ((kx (ku g.au) g.rules j).map aH.d) bx)) ?_ ?_ ?_
    ·simp(disch:=omega) only[go_sem,q2,q4,IZ];exact⟨fun _ _ _=>trivial,fun h=> .of (Wu h).2⟩
    ·rintro j σ bx hj ⟨q2,q4,ye,yf,vS,hh⟩;obtain⟨x,hx⟩:=ba hj;have bw:g.rules≠[]:=by rintro e;rw[e]at hj;simp at hj
     obtain⟨rfl,-⟩:=Wu bw;obtain⟨bx0,hm,qy,kN⟩:=(hh bw).eI;refine⟨bx0,.inr ⟨rfl,327,_,hm.1,hm.2.1,hm.2.2⟩,?_⟩;clear hm;have low:∀s,s≠307->s≠327->s<340->bx0 s=B4 s:=fun s h1 h2 h3=>(kN s h2 oM).trans ((vS s h2 h3).trans (hk s h1));have b2:=(low 2 oM oM oM).trans g2;have b4:=(low 4 oM oM oM).trans ((uW 4 oM).trans e4);have xO:=(low 29 oM oM oM).trans ((uW 29 oM).trans e29);have ar:(j:Int)<(g.rules.length:Int):=oM;have ez:=B8 (f:=ku g.au) hx;have mT:x.parts≠[]/\x.parts.length<=4:=Mw ht (mG hx);have vX:x.parts.map Part.d≠[]:=by simpa using mT.1
     have oy:IntKind.i64.wrap ((j:Int)+1)=((j+1:Nat):Int):=aE oM;simp(disch:=omega) only[go_sem,q2,q4,ye,yf,ar,b2,b4,qy,ez];refine wQ (Q:=fun σ bx=>σ 2= .loc 2 1 0 0/\σ 4= .loc 4 1 0 0/\σ 10= .loc 327 eR j 0/\σ 95= .int .i64 g.rules.length/\σ 96= .int .i64 j/\∃eP,bx 327=⟨eR,1,5,142,((kx (ku g.au) g.rules j).map aH.d).set j (.agg [.str x.cat,.int .i64 (num g.au x.cat),.bp 347 eP 3 0 x.parts.length,.sl 2 (x.aN.map dT.d),.int .i64 x.cost])⟩/\bx 347=⟨eP,1,3,247,x.parts.map Part.d⟩/\∀s,s≠327->s<340->bx s=bx0 s) (fun _ _ h=>h) ?_ ?_
     ·rintro σ bx ⟨q2,q4,oC,ye,yf,eP,qy,AD,iV⟩;have hz:=mT.2;have LD:(((kx (ku g.au) g.rules j).map aH.d).set j (D.agg [.str x.cat,.int .i64 (num g.au x.cat),.bp 347 eP 3 0 x.parts.length,.sl 2 (x.aN.map dT.d),.int .i64 x.cost]))[j]? =some (D.agg [.str x.cat,.int .i64 (num g.au x.cat),.bp 347 eP 3 0 x.parts.length,.sl 2 (x.aN.map dT.d),.int .i64 x.cost]):=by rw[List.getElem?_set_self (by rw[List.length_map,B9];exact hj)]
      simp(disch:=omega) only[go_sem,oC,qy,LD];have hnum:num g.au x.cat=(ku g.au x).no:=rfl;refine bo x.parts.length (fun i σ bx=>σ 2= .loc 2 1 0 0/\σ 4= .loc 4 1 0 0/\σ 10= .loc 327 eR j 0/\σ 95= .int .i64 g.rules.length/\σ 96= .int .i64 j/\σ 124= .int .i64 x.parts.length/\σ 125= .int .i64 i/\bx 327=⟨eR,1,5,142,((kx (ku g.au) g.rules j).map aH.d).set j (.agg [.str x.cat,.int .i64 (num g.au x.cat),.bp 347 eP 3 0 x.parts.length,.sl 2 (x.aN.map dT.d),.int .i64 x.cost])⟩/\bx 347=⟨eP,1,3,247,(kx (uo g.au) x.parts i).map Part.d⟩/\∀s,s≠327->s<340->bx s=bx0 s) ?_ ?_ ?_
      ·simp(disch:=omega) only[go_sem,q2,q4,oC,ye,yf,qy,AD,IZ];exact iV
      ·rintro i σ bx hi ⟨q2,q4,oC,ye,yf,Ir,Is,qy,AD,iV⟩;obtain⟨y,hy⟩:=ba hi;have ar:(i:Int)<(x.parts.length:Int):=oM;have jF:IntKind.i64.wrap ((i:Int)+1)=((i+1:Nat):Int):=aE oM;have hyg:=B8 (f:=uo g.au) hy;have gI:=B_ (f:=uo g.au) (d:=Part.d) hy;have qa:∀d:D,(((kx (uo g.au) x.parts i).map Part.d).set i d)[i]? =some d:=fun d=>List.getElem?_set_self (by rw[List.length_map,B9];exact hi);have b4':=(iV 4 oM oM).trans b4;have ad5:=(iV 29 oM oM).trans xO;simp(disch:=omega) only[go_sem,oC,Ir,Is,ar,qy,AD,LD,hyg,Part.d,qa];refine bh (fun c1=>?_) (fun c1=>?_)
       ·simp(disch:=omega) only[go_sem,q2,q4,oC,ye,yf,Ir,Is,qy,LD,qa,jF,b4',ad5,CS,List.set_set];refine⟨by rw[<-gI];simp[uo,Part.d,c1],fun s h1 h2=>?_⟩;rw[if_neg oM,if_neg oM];exact iV s h1 h2
       ·simp(disch:=omega) only[go_sem,q2,q4,oC,ye,yf,Ir,Is,qy,jF];refine⟨by rw[<-gI];simp[uo,Part.d,c1],fun s h1 h2=>?_⟩;rw[if_neg oM];exact iV s h1 h2
      ·rintro σ bx ⟨q2,q4,oC,ye,yf,Ir,Is,qy,AD,iV⟩;have ar:¬(x.parts.length:Int)<(x.parts.length:Int):=oM;simp(disch:=omega) only[go_sem,q2,q4,ye,yf,Ir,Is,ar,oy];rw[B7]at AD;refine⟨fun s h1 h2=>(iV s h1 h2).trans ((kN s h1 oM).trans (vS s h1 h2)),fun _=>⟨_,qy,?_,fun t ht=>?_⟩⟩
       ·rw[<-B_ hx];refine KC ?_ _ _ _ (rU bx _).1;have:=ej eP 1 3 247 x.parts.length ((x.parts.map (uo g.au)).map Part.d) (by decide) sI (zD _);simp only[uf,dS,pt,ma,AD,this];simp[go_sem,aH.d,ku]
       ·rcases rS _ _ ht with h|h
        ·rw[(rU bx _).2]at h;simp at h
        ·simpa[names,bM]using h
     ·refine gY (.aY 0 (.aY 1 (.load 2 4 (.aY 3 (.aY 4 (.aY 5 (.load 6 327 (.aY 8 (.aY 9 (.aY 10 (.load 11 327 (.both 7 [327] (.both 12 [4,327] (.aY 13 (.aY 14 (.both 15 [] (.aY 16 (.aY 17 (.both 18 [] .fin .stop))) .stop))) .stop) (.both 12 [4,327] (.both 7 [327] (.aY 13 (.aY 14 (.both 15 [] (.aY 16 (.aY 17 (.both 18 [] .fin .stop))) .stop))) .stop) .stop))))))))))))) ak ?_;simp(disch:=omega) only[go_sem,q4,b4,xO,qy,ez,CS,aH.d];have qa:∀d:D,(((kx (ku g.au) g.rules j).map aH.d).set j d)[j]? =some d:=fun d=>List.getElem?_set_self (by rw[List.length_map,B9];exact hj);refine⟨?_,?_⟩
      ·refine aC (GC 340 x.parts oM bx0) rfl ?_;rintro dP B6 ⟨hP,kP⟩;obtain⟨eP,rfl,AD⟩:=eV.own ⟨hP,kP⟩ vX;rw[List.length_map];have Vs:=(kP 327 oM).trans qy;have c4:=kP 4 oM;simp(disch:=omega) only[go_sem,Vs,c4,q2,q4,ye,yf,ez,aH.d,qa,List.set_set];exact⟨qy.symm,eP,rfl,AD,fun s h1 h2=>by rw[if_neg h1,if_neg h1];exact kP s oM⟩
      ·refine aC (GC 340 x.parts oM bx0) rfl ?_;rintro dP B6 ⟨hP,kP⟩;obtain⟨eP,rfl,AD⟩:=eV.own ⟨hP,kP⟩ vX;rw[List.length_map];have Vs:=(kP 327 oM).trans qy;have c4:=kP 4 oM;have R0:=(kP 29 oM).trans xO;simp(disch:=omega) only[go_sem,Vs,c4,R0,q2,q4,ye,yf,ez,aH.d,qa,List.set_set,qy,CS];exact⟨eP,rfl,AD,fun s h1 h2=>by rw[if_neg h1,if_neg h1];exact kP s oM⟩
    ·rintro σ bx ⟨q2,q4,ye,yf,vS,hh⟩;have ar:¬(g.rules.length:Int)<(g.rules.length:Int):=oM;obtain⟨bx0,hm,QH,rR,EZ,E0⟩:∃bx0,(bx0=bx\/∃l,(bx 327).k=1/\cY bx (bx 327).es=some l/\bx0=Go.V.eI bx 327 l)/\(∀s,s≠327->s<340->bx0 s=B5 s)/\∃r,bD bx0 dR=some r/\bN r (.sl 5 ((g.rules.map (ku g.au)).map aH.d)):=by
      by_cases he:g.rules=[]
      ·refine⟨bx,.inl rfl,vS,?_⟩;rw[he]at hR⊢;have ho:=(eV.none (bx:=B2) ⟨hR,kR⟩).of (bx':=bx) fun t ht=>by
        simp at ht;subst ht;exact(vS 325 oM oM).trans ((hk 325 oM).trans (uW 325 oM))
       exact ho.out (by simp[D.aF])
      ·obtain⟨bx0,hm,qy,kN⟩:=(hh he).eI;rw[B7]at qy hm;refine⟨bx0,.inr ⟨_,hm⟩,fun s h1 h2=>(kN s h1 oM).trans (vS s h1 h2),?_⟩;rw[(Wu he).1,ma,qy];exact⟨_,ej _ _ _ _ _ _ (by decide) sI (Im _),.refl _⟩
     refine⟨bx0,?_,?_⟩
     ·rcases hm with rfl|⟨l,h1,h2,h3⟩
      ·exact .inl rfl
      ·exact .inr ⟨rfl,327,l,h1,h2,h3⟩
     have b2:=(QH 2 oM oM).trans ((hk 2 oM).trans g2);obtain⟨rE,VX,VY⟩:∃r,bD bx0 dE=some r/\bN r (.sl 5 ((g.entries.map (qp g.au)).map Entry.d)):=by
      by_cases he:g.entries=[]
      ·rw[he]at hE⊢;have ho:=(eV.none (bx:=B1) ⟨hE,kE⟩).of (bx':=bx0) fun t ht=>by
        simp at ht;subst ht;exact(QH 305 oM oM).trans ((hk 305 oM).trans ((uW 305 oM).trans (kR 305 oM)))
       exact ho.out (by simp[D.aF])
      ·have b7:=(QH 307 oM oM).trans (Lt he);rw[(Wq he).1,ma,b7];exact⟨_,ej _ _ _ _ _ _ (by decide) sI (BM _),.refl _⟩
     simp(disch:=omega) only[go_sem,q2,ye,yf,ar,b2,f2,f5];have hu:aj bx0 2 ⟨1,1,6,81,[.agg [.str g.name,.sl 1 (g.au.map D.str),.str g.start,.int .i64 (num g.au g.start),dE,dR]]⟩=bx0:=by
      funext s;by_cases h:s=2
      ·subst h;rw[dC,b2]
      ·rw[aD h]
     rw[hu];refine⟨.aI [.agg [.str g.name,.sl 1 (g.au.map D.str),.str g.start,.int .i64 (num g.au g.start),rE,rR],.int .i64 0],?_,lk (zW (.refl _) (.refl _) (.refl _) (.refl _) VY E0) (.refl _)⟩;simp only[Ib,uf,dS,pt,VX,EZ];simp[go_sem]
def OV(g:aW)(hg:mP g):ao prog 172 [g.d] (pv (dq g)):=
 (aK mixed (OW g hg) rfl ak rfl).to (fun _ _ h=>h) (fun d' bx' ⟨r,h1,h2⟩=>⟨r,h1,h2⟩)
def mJ{α:Type}(p:α->α->Bool)(l m:List α):Bool:=decide (l.length=m.length)&&(l.zip m).all fun q=>p q.1 q.2
def Pg{α:Type}{l m:List α}{k:Nat}{x y:α}(hx:l[k]? =some x)(hy:m[k]? =some y):(l.zip m).take (k+1)=(l.zip m).take k++[(x,y)]:=by
 have h:(l.zip m)[k]? =some (x,y):=List.getElem?_zip_eq_some.2 ⟨hx,hy⟩;rw[List.take_add_one,h];rfl
def VC{f:FuncId}{p:Entry->Entry->Bool}(l m:List Entry)(hl:l.length<=140737488355328)(hf:∀x∈l,∀y∈m,ao prog f [x.d,y.d] (.bool (p x y))):
 ao prog 173 [.sl 5 (l.map Entry.d),.sl 5 (m.map Entry.d),.fn (.func f) []] (.bool (mJ p l m)):=by
 refine aw mixed (fn:=f173) (tab:=[]) ?_ rfl ak rfl;refine ax _ [.tmp 6] _ rfl rfl rfl ak ?_;simp(disch:=omega) only[go_sem];refine bh (fun h1=>?_) (fun h1=>?_)
 rotate_left
 ·exact ab (congrArg D.bool (by rw[mJ,decide_eq_false oM];rfl))
 have h1:l.length=m.length:=oM;simp(disch:=omega) only[go_sem];refine bo l.length (fun k σ bx=>σ 1= .sl 5 (m.map Entry.d)/\σ 2= .fn (.func f) []/\σ 15= .sl 5 (l.map Entry.d)/\σ 16= .int .i64 l.length/\σ 17= .int .i64 k/\((l.zip m).take k).all (fun q=>p q.1 q.2)=true) ?_ ?_ ?_
 ·simp[go_sem,bF]
 ·rintro k σ bx hk ⟨q1,q2,It,Dl,Dm,hn⟩;obtain⟨x,hx⟩:=ba hk;obtain⟨y,hy⟩:=ba (show k<m.length by omega);have ar:(k:Int)<(l.length:Int):=oM;have wZ:(k:Int)<(m.length:Int):=oM;have iL:IntKind.i64.wrap ((k:Int)+1)=((k+1:Nat):Int):=aE oM;simp(disch:=omega) only[go_sem,q1,q2,It,Dl,Dm,ar,hx,hy,Entry.d,strs];refine av (hf x (mG hx) y (mG hy)) (show D.aF [x.d,y.d]=true by simp[D.aF,D.pure,Entry.d,strs]) ?_;cases hp:p x y
  ·simp(disch:=omega) only[go_sem,nF];refine ab (congrArg D.bool ?_);have:((l.zip m).all fun q=>p q.1 q.2)=false:=by
    rw[List.all_eq_false];exact⟨(x,y),mG (List.getElem?_zip_eq_some.2 ⟨hx,hy⟩),by simp[hp]⟩
   rw[mJ,this,Bool.and_false]
  ·simp(disch:=omega) only[go_sem,nT,q1,q2,It,Dl,Dm,iL];rw[Pg hx hy,List.all_append,hn];simp[hp]
 ·rintro σ bx ⟨q1,q2,It,Dl,Dm,hn⟩;have ar:¬(l.length:Int)<(l.length:Int):=oM;simp(disch:=omega) only[go_sem,Dl,Dm,ar];refine ab (congrArg D.bool ?_);rw[List.take_of_length_le (by simp;omega)]at hn;rw[mJ,hn,decide_eq_true h1];rfl
def VD{f:FuncId}{p:aH->aH->Bool}(l m:List aH)(hl:l.length<=140737488355328)(hf:∀x∈l,∀y∈m,ao prog f [x.d,y.d] (.bool (p x y))):
 ao prog 175 [.sl 5 (l.map aH.d),.sl 5 (m.map aH.d),.fn (.func f) []] (.bool (mJ p l m)):=by
 refine aw mixed (fn:=f175) (tab:=[]) ?_ rfl ak rfl;refine ax _ [.tmp 6] _ rfl rfl rfl ak ?_;simp(disch:=omega) only[go_sem];refine bh (fun h1=>?_) (fun h1=>?_)
 rotate_left
 ·exact ab (congrArg D.bool (by rw[mJ,decide_eq_false oM];rfl))
 have h1:l.length=m.length:=oM;simp(disch:=omega) only[go_sem];refine bo l.length (fun k σ bx=>σ 1= .sl 5 (m.map aH.d)/\σ 2= .fn (.func f) []/\σ 15= .sl 5 (l.map aH.d)/\σ 16= .int .i64 l.length/\σ 17= .int .i64 k/\((l.zip m).take k).all (fun q=>p q.1 q.2)=true) ?_ ?_ ?_
 ·simp[go_sem,bF]
 ·rintro k σ bx hk ⟨q1,q2,It,Dl,Dm,hn⟩;obtain⟨x,hx⟩:=ba hk;obtain⟨y,hy⟩:=ba (show k<m.length by omega);have ar:(k:Int)<(l.length:Int):=oM;have wZ:(k:Int)<(m.length:Int):=oM;have iL:IntKind.i64.wrap ((k:Int)+1)=((k+1:Nat):Int):=aE oM;simp(disch:=omega) only[go_sem,q1,q2,It,Dl,Dm,ar,hx,hy,aH.d];refine av (hf x (mG hx) y (mG hy)) (show D.aF [x.d,y.d]=true by simp[D.aF,D.pure,aH.d]) ?_;cases hp:p x y
  ·simp(disch:=omega) only[go_sem,nF];refine ab (congrArg D.bool ?_);have:((l.zip m).all fun q=>p q.1 q.2)=false:=by
    rw[List.all_eq_false];exact⟨(x,y),mG (List.getElem?_zip_eq_some.2 ⟨hx,hy⟩),by simp[hp]⟩
   rw[mJ,this,Bool.and_false]
  ·simp(disch:=omega) only[go_sem,nT,q1,q2,It,Dl,Dm,iL];rw[Pg hx hy,List.all_append,hn];simp[hp]
 ·rintro σ bx ⟨q1,q2,It,Dl,Dm,hn⟩;have ar:¬(l.length:Int)<(l.length:Int):=oM;simp(disch:=omega) only[go_sem,Dl,Dm,ar];refine ab (congrArg D.bool ?_);rw[List.take_of_length_le (by simp;omega)]at hn;rw[mJ,hn,decide_eq_true h1];rfl
def Vw(x y:Entry):ao prog 174 [x.d,y.d] (.bool (decide (x.no=y.no))):=by
 refine aw mixed (fn:=f174) (tab:=[]) ?_ rfl ak rfl;refine ax _ [.tmp 4] _ rfl rfl rfl ak ?_;simp(disch:=omega) only[go_sem,Entry.d,strs];exact .refl _
def Vx(x y:aH)(hx:x.parts.length<=140737488355328)(hy:y.parts.length<=140737488355328):ao prog 176 [x.d,y.d] (.bool (decide (x.no=y.no)&&decide (x.parts=y.parts))):=by
 refine aw mixed (fn:=f176) (tab:=[]) ?_ rfl ak rfl;refine ax _ [.tmp 4] _ rfl rfl rfl ak ?_;simp(disch:=omega) only[go_sem,aH.d];refine bh (fun h1=>?_) (fun h1=>?_)
 rotate_left
 ·simp(disch:=omega) only[go_sem,h1,decide_false];exact ab (by simp[h1])
 simp(disch:=omega) only[go_sem,h1,decide_true];refine av (P3 x.parts y.parts hx hy) sG ?_;simp(disch:=omega) only[go_sem,h1,decide_true];exact ab (by simp[h1])
def jL(g:aW):Int:=
 if(dq g).2≠0 then(dq g).2
 else if decide ((dq g).1.no=g.no)&&(mJ (fun x y=>decide (x.no=y.no)) (dq g).1.entries g.entries&&mJ (fun x y=>decide (x.no=y.no)&&decide (x.parts=y.parts)) (dq g).1.rules g.rules)then 0 else 260
def xz{g:aW}(h:(dq g).2=0):(dq g).1=fp g:=by
 unfold dq at h⊢;split
 ·rename_i h1;rw[if_pos h1]at h;simp at h
 ·rename_i h1;rw[if_neg h1]at h;split
  ·rename_i h2;rw[if_pos h2]at h;simp at h
  ·rename_i h2;rw[if_neg h2]at h;split
   ·rename_i h3;rw[if_pos h3]at h;simp at h
   ·rfl
def JN(g:aW)(hg:mP g):ao prog 125 [g.d] (.int .i64 (jL g)):=by
 refine aw mixed (fn:=f125) (tab:=[]) ?_ rfl ak rfl;refine ax _ [.tmp 2] _ rfl rfl rfl ak ?_;have er:=hg.Bp;have qe:=hg.zH;simp(disch:=omega) only[go_sem,aW.d,strs];refine av (OV g hg) (show D.aF [g.d]=true by simp[D.aF,kW]) ?_;simp(disch:=omega) only[go_sem,pv,aW.d,strs];refine bh (fun h1=>?_) (fun h1=>?_)
 rotate_left
 ·simp(disch:=omega) only[go_sem,h1,decide_false,nF];exact ab (by rw[jL,if_pos h1])
 have hr:=xz h1;have N4:jL g=if decide ((fp g).no=g.no)&&(mJ (fun x y=>decide (x.no=y.no)) (fp g).entries g.entries&&mJ (fun x y=>decide (x.no=y.no)&&decide (x.parts=y.parts)) (fp g).rules g.rules)then 0 else 260:=by rw[jL,if_neg (by simp[h1]),hr]
 rw[N4];clear N4;simp(disch:=omega) only[go_sem,h1,hr,decide_true,nT];have gq:(fp g).entries.length<=140737488355328:=by simp[fp,er]
 have hsr:(fp g).rules.length<=140737488355328:=by simp[fp,qe]
 refine av (VC (fp g).entries g.entries gq (fun x _ y _=>Vw x y)) sG ?_;simp(disch:=omega) only[go_sem,hr];refine av (VD (fp g).rules g.rules hsr (fun x hx y hy=>Vx x y ?_ (hg.rules y hy).xm)) sG ?_
 ·obtain⟨z,hz,rfl⟩:=List.mem_map.1 hx;have:=(hg.rules z hz).xm;simpa[ku]using this
 simp(disch:=omega) only[go_sem,hr];refine bh (fun h2=>?_) (fun h2=>?_)
 rotate_left
 ·simp(disch:=omega) only[go_sem,h2,decide_false,nF];first|exact .refl _|exact ab (by simp[h2])
 cases h3:mJ (fun x y=>decide (x.no=y.no)) (fp g).entries g.entries
 ·simp(disch:=omega) only[go_sem,h2,decide_true,nT,nF];first|exact .refl _|exact ab sI
 cases h4:mJ (fun x y=>decide (x.no=y.no)&&decide (x.parts=y.parts)) (fp g).rules g.rules
 ·simp(disch:=omega) only[go_sem,h2,decide_true,nT,nF];first|exact .refl _|exact ab sI
 ·simp(disch:=omega) only[go_sem,h2,decide_true,nT];first|exact .refl _|exact ab sI
def wx{α:Type}{l m:List α}{k:Nat}{x y:α}(hx:l[k]? =some x)(hy:m[k]? =some y)(h:¬x=y):¬l=m:=fun e=>by
 rw[e,hy]at hx;exact h (Option.some.inj hx).symm
def P5(l m:List ah)(hl:l.length<=140737488355328)(hm:m.length<=140737488355328):qz prog (cJ prog) [] f116 [strs l,strs m] (.bool (decide (l=m))):=by
 refine ax _ [.tmp 4] _ rfl rfl rfl ak ?_;simp(disch:=omega) only[go_sem,strs];refine bh (fun h1=>?_) (fun h1=>?_)
 ·have h1:l.length=m.length:=oM;simp(disch:=omega) only[go_sem];refine bo l.length (fun k σ bx=>σ 0=strs l/\σ 1=strs m/\σ 5= .int .i64 k/\l.take k=m.take k) ?_ ?_ ?_
  ·simp[go_sem,bF,strs]
  ·rintro k σ bx hk ⟨h0,ly,h8,hn⟩;obtain⟨x,hx⟩:=ba hk;obtain⟨y,hy⟩:=ba (show k<m.length by omega);have ar:(k:Int)<(l.length:Int):=oM;have wZ:(k:Int)<(m.length:Int):=oM;repeat' (first|with_reducible apply zJ<;>intro _|simp(disch:=omega) only[go_sem, *,h0,ly,h8,ar,wZ,strs,hx,hy])
   ·rename_i mu;rw[aE oM];exact⟨rfl,tB hx hy hn mu⟩
   ·rename_i mu;exact ab (congrArg D.bool (decide_eq_false (wx hx hy mu)).symm)
  ·rintro σ bx ⟨h0,ly,h8,hn⟩;have ar:¬(l.length:Int)<(l.length:Int):=oM;simp(disch:=omega) only[go_sem,h0,h8,ar,strs];rw[tL,h1,tL]at hn;exact ab (congrArg D.bool (decide_eq_true hn).symm)
 ·have:¬l=m:=fun e=>h1 (by rw[e]);exact ab (congrArg D.bool (decide_eq_false this).symm)
def GN(l m:List ah)(hl:l.length<=140737488355328)(hm:m.length<=140737488355328):ao prog 116 [strs l,strs m] (.bool (decide (l=m))):=aw mixed (P5 l m hl hm) rfl ak rfl
def Rf(x y:Entry)(hx:x.aN.length<=140737488355328)(hy:y.aN.length<=140737488355328):qz prog (cJ prog) [] f117 [x.d,y.d] (.bool (decide (x=y))):=by
 refine ax _ [.tmp 4] _ rfl rfl rfl ak ?_;have hq:=GN x.aN y.aN hx hy;simp only[strs]at hq;obtain⟨a,b,c,d,e⟩:=x;obtain⟨a',b',c',d',e'⟩:=y;simp only at hq hx hy;repeat' (first|with_reducible apply zJ<;>intro _|with_reducible refine bY (hq) sG ?_|with_reducible refine bZ (hq) sG ?_|simp(disch:=omega) only[go_sem, *,Entry.d,strs])
 all_goals (refine ab (congrArg D.bool ?_);simp[*];done)
def Re(x y:Entry)(hx:x.aN.length<=140737488355328)(hy:y.aN.length<=140737488355328):ao prog 117 [x.d,y.d] (.bool (decide (x=y))):=aw mixed (Rf x y hx hy) rfl ak rfl
def Rh(x y:aH)(hx:x.parts.length<=140737488355328/\x.aN.length<=140737488355328)(hy:y.parts.length<=140737488355328/\y.aN.length<=140737488355328):qz prog (cJ prog) [] f118 [x.d,y.d] (.bool (decide (x=y))):=by
 refine ax _ [.tmp 4] _ rfl rfl rfl ak ?_;obtain⟨a,b,c,d,e⟩:=x;obtain⟨a',b',c',d',e'⟩:=y;simp only at hx hy;repeat' (first|with_reducible apply zJ<;>intro _|simp(disch:=omega) only[go_sem, *,aH.d])
 case refine_1.refine_1.refine_1.refine_1.refine_1=>
  rename_i e1 e2 e3 e4 e5;have e4:c.length=c'.length:=oM;have e5:d.length=d'.length:=oM;refine bo c.length (fun k σ bx=>σ 2= .loc 2 1 0 0/\σ 3= .loc 3 1 0 0/\σ 5= .int .i64 k/\bx 2=⟨1,1,5,142,[.agg [.str a,.int .i64 b,.sl 3 (c.map Part.d),.sl 2 (d.map dT.d),.int .i64 e]]⟩/\bx 3=⟨1,1,5,142,[.agg [.str a',.int .i64 b',.sl 3 (c'.map Part.d),.sl 2 (d'.map dT.d),.int .i64 e']]⟩/\c.take k=c'.take k) ?_ ?_ ?_
  ·simp[go_sem,aj,Bx.none]
  ·rintro k σ bx hk ⟨h2,h3,h5,b2,b3,hn⟩;obtain⟨x,hx⟩:=ba hk;obtain⟨y,hy⟩:=ba (show k<c'.length by omega);have ar:(k:Int)<(c.length:Int):=oM;have wZ:(k:Int)<(c'.length:Int):=oM;obtain⟨x1,x2,x3⟩:=x;obtain⟨y1,y2,y3⟩:=y;repeat' (first|with_reducible apply zJ<;>intro _|simp(disch:=omega) only[go_sem, *,h2,h3,h5,b2,b3,ar,hx,hy,Part.d])
   ·rename_i mu;rw[aE oM];exact⟨rfl,tB hx hy hn (by simpa using mu)⟩
   ·rename_i mu;refine ab (congrArg D.bool (decide_eq_false fun e=>wx hx hy (fun h=>?_) (by injection e)).symm);injection h
    subst_vars
    simp at mu
  ·rintro σ bx ⟨h2,h3,h5,b2,b3,hn⟩;have ar:¬(c.length:Int)<(c.length:Int):=oM;rw[tL,e4,tL]at hn;simp(disch:=omega) only[go_sem,h2,h5,b2,ar];refine bo d.length (fun k σ bx=>σ 2= .loc 2 1 0 0/\σ 3= .loc 3 1 0 0/\σ 6= .int .i64 k/\bx 2=⟨1,1,5,142,[.agg [.str a,.int .i64 b,.sl 3 (c.map Part.d),.sl 2 (d.map dT.d),.int .i64 e]]⟩/\bx 3=⟨1,1,5,142,[.agg [.str a',.int .i64 b',.sl 3 (c'.map Part.d),.sl 2 (d'.map dT.d),.int .i64 e']]⟩/\d.take k=d'.take k) ?_ ?_ ?_
   ·simp[go_sem,aj,h2,h3,b2,b3]
   ·rintro k σ bx hk ⟨h2,h3,h5,b2,b3,vU⟩;obtain⟨x,hx⟩:=ba hk;obtain⟨y,hy⟩:=ba (show k<d'.length by omega);have ar:(k:Int)<(d.length:Int):=oM;have wZ:(k:Int)<(d'.length:Int):=oM;obtain⟨x1,x2⟩:=x;obtain⟨y1,y2⟩:=y;repeat' (first|with_reducible apply zJ<;>intro _|simp(disch:=omega) only[go_sem, *,h2,h3,h5,b2,b3,ar,hx,hy,dT.d])
    ·rename_i mu;rw[aE oM];exact⟨rfl,tB hx hy vU (by simpa using mu)⟩
    ·rename_i mu;refine ab (congrArg D.bool (decide_eq_false fun e=>wx hx hy (fun h=>?_) (by injection e)).symm);injection h
     subst_vars
     simp at mu
   ·rintro σ bx ⟨h2,h3,h5,b2,b3,vU⟩;have ar:¬(d.length:Int)<(d.length:Int):=oM;rw[tL,e5,tL]at vU;simp(disch:=omega) only[go_sem,h2,h5,b2,ar];exact ab (congrArg D.bool (decide_eq_true (by rw[e1,e2,e3,hn,vU])).symm)
 all_goals
  refine ab (congrArg D.bool (decide_eq_false ?_).symm);intro e;injection e;simp_all
def Rg(x y:aH)(hx:x.parts.length<=140737488355328/\x.aN.length<=140737488355328)(hy:y.parts.length<=140737488355328/\y.aN.length<=140737488355328):ao prog 118 [x.d,y.d] (.bool (decide (x=y))):=aw mixed (Rh x y hx hy) rfl ak rfl
def Uk(x y:aW)(hx:Sz x)(hy:Sz y):qz prog (cJ prog) [] f68 [x.d,y.d] (.bool (decide (x=y))):=by
 refine ax _ [.tmp 4] _ rfl rfl rfl ak ?_;have hq:=GN x.au y.au hx.au hy.au;simp only[strs]at hq;obtain⟨a,b,c,d,e,f⟩:=x;obtain⟨a',b',c',d',e',f'⟩:=y;obtain⟨u1,u2,u3,u4,u5⟩:=hx;obtain⟨v1,v2,v3,v4,v5⟩:=hy;simp only at hq u1 u2 u3 u4 u5 v1 v2 v3 v4 v5;repeat' (first|with_reducible apply zJ<;>intro _|with_reducible refine bY (hq) sG ?_|with_reducible refine bZ (hq) sG ?_|simp(disch:=omega) only[go_sem, *,aW.d,strs])
 case refine_1.refine_1.refine_1.refine_1.refine_1.refine_1=>
  rename_i e1 e2 e3 e4 e5 e6;have e5:e.length=e'.length:=oM;have e6:f.length=f'.length:=oM;refine bo e.length (fun k σ bx=>σ 2= .loc 2 1 0 0/\σ 3= .loc 3 1 0 0/\σ 5= .int .i64 k/\bx 2=⟨1,1,6,81,[.agg [.str a,.sl 1 (b.map D.str),.str c,.int .i64 d,.sl 5 (e.map Entry.d),.sl 5 (f.map aH.d)]]⟩/\bx 3=⟨1,1,6,81,[.agg [.str a',.sl 1 (b'.map D.str),.str c',.int .i64 d',.sl 5 (e'.map Entry.d),.sl 5 (f'.map aH.d)]]⟩/\e.take k=e'.take k) ?_ ?_ ?_
  ·simp[go_sem,aj,Bx.none]
  ·rintro k σ bx hk ⟨h2,h3,h5,b2,b3,hn⟩;obtain⟨x,hx⟩:=ba hk;obtain⟨y,hy⟩:=ba (show k<e'.length by omega);have ar:(k:Int)<(e.length:Int):=oM;have hc:=Re x y (u4 x (mG hx)) (v4 y (mG hy));have gf:x.d= .agg [.str x.text,.str x.cat,.int .i64 x.no,strs x.aN,.int .i64 x.cost]:=rfl;have oS:y.d= .agg [.str y.text,.str y.cat,.int .i64 y.no,strs y.aN,.int .i64 y.cost]:=rfl;rw[gf,oS]at hc;simp only[strs]at gf oS hc;simp(disch:=omega) only[go_sem,h2,h3,h5,b2,b3,ar,hx,hy,gf,oS];refine av hc sG ?_;simp(disch:=omega) only[go_sem];refine bh (fun hv=>?_) (fun hv=>?_)
   ·simp(disch:=omega) only[go_sem,h2,h3,h5,b2,b3];rw[aE oM];exact⟨rfl,tB hx hy hn hv⟩
   ·simp(disch:=omega) only[go_sem];exact ab (congrArg D.bool (decide_eq_false fun e=>wx hx hy hv (by injection e)).symm)
  ·rintro σ bx ⟨h2,h3,h5,b2,b3,hn⟩;have ar:¬(e.length:Int)<(e.length:Int):=oM;rw[tL,e5,tL]at hn;simp(disch:=omega) only[go_sem,h2,h5,b2,ar];refine bo f.length (fun k σ bx=>σ 2= .loc 2 1 0 0/\σ 3= .loc 3 1 0 0/\σ 6= .int .i64 k/\bx 2=⟨1,1,6,81,[.agg [.str a,.sl 1 (b.map D.str),.str c,.int .i64 d,.sl 5 (e.map Entry.d),.sl 5 (f.map aH.d)]]⟩/\bx 3=⟨1,1,6,81,[.agg [.str a',.sl 1 (b'.map D.str),.str c',.int .i64 d',.sl 5 (e'.map Entry.d),.sl 5 (f'.map aH.d)]]⟩/\f.take k=f'.take k) ?_ ?_ ?_
   ·simp[go_sem,aj,h2,h3,b2,b3]
   ·rintro k σ bx hk ⟨h2,h3,h5,b2,b3,vU⟩;obtain⟨x,hx⟩:=ba hk;obtain⟨y,hy⟩:=ba (show k<f'.length by omega);have ar:(k:Int)<(f.length:Int):=oM;have hc:=Rg x y (u5 x (mG hx)) (v5 y (mG hy));have gf:x.d= .agg [.str x.cat,.int .i64 x.no,.sl 3 (x.parts.map Part.d),.sl 2 (x.aN.map dT.d),.int .i64 x.cost]:=rfl;have oS:y.d= .agg [.str y.cat,.int .i64 y.no,.sl 3 (y.parts.map Part.d),.sl 2 (y.aN.map dT.d),.int .i64 y.cost]:=rfl;rw[gf,oS]at hc;simp(disch:=omega) only[go_sem,h2,h3,h5,b2,b3,ar,hx,hy,gf,oS];refine av hc (by simp[D.aF,D.pure]) ?_;simp(disch:=omega) only[go_sem];refine bh (fun hv=>?_) (fun hv=>?_)
    ·simp(disch:=omega) only[go_sem,h2,h3,h5,b2,b3];rw[aE oM];exact⟨rfl,tB hx hy vU hv⟩
    ·simp(disch:=omega) only[go_sem];exact ab (congrArg D.bool (decide_eq_false fun e=>wx hx hy hv (by injection e)).symm)
   ·rintro σ bx ⟨h2,h3,h5,b2,b3,vU⟩;have ar:¬(f.length:Int)<(f.length:Int):=oM;rw[tL,e6,tL]at vU;simp(disch:=omega) only[go_sem,h2,h5,b2,ar];exact ab (congrArg D.bool (decide_eq_true (by rw[e1,e2,e3,e4,hn,vU])).symm)
 all_goals
  refine ab (congrArg D.bool (decide_eq_false ?_).symm);intro e;injection e;simp_all
def KO(x y:aW)(hx:Sz x)(hy:Sz y):ao prog 68 [x.d,y.d] (.bool (decide (x=y))):=aw mixed (Uk x y hx hy) rfl ak rfl
def Bq(x:Entry):Bool:=decide (x.aN.length<=10)
def yD(x:aH):Bool:=decide (x.parts.length<=10)&&decide (x.aN.length<=20)
def JF(g:aW):Prop:=40<g.au.length\/(40<g.entries.length/\g.entries.length<=512)\/600<g.entries.length\/(20<g.rules.length/\g.rules.length<=128)\/200<g.rules.length
instance(g:aW):Decidable (JF g):=by unfold JF;infer_instance
def tO(g:aW):Bool:= !decide (JF g)&&(g.entries.all Bq&&g.rules.all yD)
def ZM(g:aW):qz prog (cJ prog) [] f30 [g.d] (.bool (tO g)):=by
 refine ax _ [.tmp 2] _ rfl rfl rfl ak ?_;have dj:g.d= .agg [.str g.name,strs g.au,.str g.start,.int .i64 g.no,.sl 5 (g.entries.map Entry.d),.sl 5 (g.rules.map aH.d)]:=rfl;rw[dj];by_cases wX:JF g
 ·have hf:tO g=false:=by unfold tO;rw[decide_eq_true wX];rfl
  rw[hf];unfold JF at wX;repeat' (first|with_reducible apply zJ<;>intro _|simp(disch:=omega) only[go_sem, *,strs])
  all_goals first
   |exact .refl _
   |(exfalso;omega)
 ·have hf:tO g=(g.entries.all Bq&&g.rules.all yD):=by unfold tO;rw[decide_eq_false wX];rfl
  rw[hf];unfold JF at wX;repeat' (first|with_reducible apply zJ<;>intro _|simp(disch:=omega) only[go_sem, *,strs])
  all_goals first
   |(exfalso;omega)
   |skip
  all_goals
   refine bo g.entries.length (fun k σ bx=>σ 1= .loc 1 1 0 0/\σ 3= .int .i64 k/\bx 1=⟨1,1,6,81,[.agg [.str g.name,.sl 1 (g.au.map D.str),.str g.start,.int .i64 g.no,.sl 5 (g.entries.map Entry.d),.sl 5 (g.rules.map aH.d)]]⟩/\(g.entries.take k).all Bq=true) ?_ ?_ ?_
   ·simp[go_sem,aj,Bx.none]
   ·rintro k σ bx hk ⟨h1,h3,b1,hn⟩;obtain⟨x,hx⟩:=ba hk;have ar:(k:Int)<(g.entries.length:Int):=oM;have gf:x.d= .agg [.str x.text,.str x.cat,.int .i64 x.no,.sl 1 (x.aN.map D.str),.int .i64 x.cost]:=rfl;simp(disch:=omega) only[go_sem,h1,h3,b1,ar,hx,gf];refine bh (fun hv=>?_) (fun hv=>?_)
    ·simp(disch:=omega) only[go_sem];rw[pR Bq hx (by simp[Bq];omega)];exact .refl _
    ·simp(disch:=omega) only[go_sem,h1,h3,b1];rw[aE oM];exact⟨rfl,mf Bq hx hn (by simp[Bq];omega)⟩
   ·rintro σ bx ⟨h1,h3,b1,hn⟩;have ar:¬(g.entries.length:Int)<(g.entries.length:Int):=oM;rw[tL]at hn;rw[hn,Bool.true_and];simp(disch:=omega) only[go_sem,h1,h3,b1,ar];refine bo g.rules.length (fun k σ bx=>σ 1= .loc 1 1 0 0/\σ 4= .int .i64 k/\bx 1=⟨1,1,6,81,[.agg [.str g.name,.sl 1 (g.au.map D.str),.str g.start,.int .i64 g.no,.sl 5 (g.entries.map Entry.d),.sl 5 (g.rules.map aH.d)]]⟩/\(g.rules.take k).all yD=true) ?_ ?_ ?_
    ·simp[go_sem,aj,h1,b1]
    ·rintro k σ bx hk ⟨h1,h3,b1,hn⟩;obtain⟨x,hx⟩:=ba hk;have ar:(k:Int)<(g.rules.length:Int):=oM;have gf:x.d= .agg [.str x.cat,.int .i64 x.no,.sl 3 (x.parts.map Part.d),.sl 2 (x.aN.map dT.d),.int .i64 x.cost]:=rfl;repeat' (first|with_reducible apply zJ<;>intro _|simp(disch:=omega) only[go_sem, *,h1,h3,b1,ar,hx,gf])
     all_goals first
      |(rw[pR yD hx (by simp only[yD,Bool.and_eq_false_iff,decide_eq_false_iff_not];omega)];exact .refl _)
      |(rw[aE oM];exact⟨rfl,mf yD hx hn (by simp only[yD,bA,decide_eq_true_eq];omega)⟩)
    ·rintro σ bx ⟨h1,h3,b1,hn⟩;have ar:¬(g.rules.length:Int)<(g.rules.length:Int):=oM;rw[tL]at hn;rw[hn];simp(disch:=omega) only[go_sem,h1,h3,b1,ar];exact .refl _
def ZL(g:aW)(h:Sz g)(hn:g.name.length<=140737488355328)(hs:g.start.length<=140737488355328):ao prog 30 [g.d] (.bool (tO g)):=aw mixed (ZM g) rfl ak rfl
end Go.V.Ty
namespace Go.V.Ty
open Go.Proofs Go.RowKit Go.V.Lx Go.V.Gr
def i1:((1:Nat):Int)=1:=rfl
def i2:((2:Nat):Int)=2:=rfl
def i3:((3:Nat):Int)=3:=rfl
mutual
theorem zr(bx:ae):∀d:D,d.pure=true->bD bx d=some d/\names d=[]
 | .loc ..,h| .bp ..,h| .fJ ..,h| .omap ..,h=>by cases h
 | .agg ds,h=>by have:=lW bx ds h;simp[bD,names,this]
 | .aI ds,h=>by have:=lW bx ds h;simp[bD,names,this]
 | .fn f ds,h=>by have:=lW bx ds h;simp[bD,names,this]
 | .iC f ds,h=>by have:=lW bx ds h;simp[bD,names,this]
 | .dI t d,h=>by have:=zr bx d h;simp[bD,names,this]
 | .undef,_| .int ..,_| .bool _,_| .str _,_| .raw _,_| .aq,_| .sl ..,_| .ij ..,_| .cG ..,_| .any _,_| .fK,_| .ic,_=>⟨by simp[bD],by simp[names]⟩
theorem lW(bx:ae):∀ds:List D,D.aF ds=true->cY bx ds=some ds/\bM ds=[]
 |[],_=>⟨by simp[cY],by simp[bM]⟩
 |d::ds,h=>by
  simp only[D.aF,bA]at h;have h1:=zr bx d h.1;have h2:=lW bx ds h.2;exact⟨by rw[dS,h1.1,h2.1];rfl,by simp[bM,h1.2,h2.2]⟩
end
theorem Ie{bx:ae}{d d':D}(hd:bD bx d=some d'):∀(l l':List D),cY bx l=some l'->cY bx (l++[d])=some (l'++[d'])
 |[],l',h=>by simp only[pt,sJ]at h;subst h;rw[List.nil_append,dS,hd,pt];rfl
 |x::l,l',h=>by
  rw[dS]at h;obtain⟨y,ys,h1,h2,rfl⟩:=pB h;rw[List.cons_append,dS,h1,Ie hd l ys h2];rfl
theorem Ft:∀(l m:List D),bM (l++m)=bM l++bM m
 |[],m=>rfl
 |x::l,m=>by simp only[List.cons_append,bM,Ft l m,List.append_assoc]
theorem FC:∀(l m:List D),D.aF (l++m)=(D.aF l&&D.aF m)
 |[],m=>by simp[D.aF]
 |x::l,m=>by simp only[List.cons_append,D.aF,FC l m,Bool.and_assoc]
structure vK(l m:List D):Prop where
 len:l.length=m.length
 cells:∀(i:Nat) x x',l[i]? =some x->m[i]? =some x'->x.cells.length=x'.cells.length
 uy:∀(i:Nat) x x' (j:Nat) c c',l[i]? =some x->m[i]? =some x'->x.cells[j]? =some c->x'.cells[j]? =some c'->bN c c'
theorem vK.sl{l m:List D}(h:vK l m)(sz:Nat):bN (.sl sz l) (.sl sz m):=.sl h.len h.cells h.uy
theorem vK.nil:vK [] []:=⟨rfl,by simp,by simp⟩
theorem vK.snoc{l m:List D}{d d':D}(h:vK l m)(h1:d.cells.length=d'.cells.length)(h2:∀(j:Nat) c c',d.cells[j]? =some c->d'.cells[j]? =some c'->bN c c'):vK (l++[d]) (m++[d']):=by
 have hl:=h.len;have at_:∀(i:Nat) x x',(l++[d])[i]? =some x->(m++[d'])[i]? =some x'->(l[i]? =some x/\m[i]? =some x')\/(x=d/\x'=d'):=by
  intro i x x' hx dQ;by_cases hi:i<l.length
  ·rw[List.getElem?_append_left hi]at hx;rw[List.getElem?_append_left oM]at dQ;exact .inl ⟨hx,dQ⟩
  ·have:i=l.length:=by
    have:=(gS.1 hx).1;simp at this;omega
   subst this;rw[List.getElem?_append_right oM]at hx;rw[List.getElem?_append_right oM,hl]at dQ;simp at hx dQ;exact .inr ⟨hx.symm,dQ.symm⟩
 refine⟨by simp[hl],fun i x x' hx dQ=>?_,fun i x x' j c c' hx dQ hc fT=>?_⟩
 ·rcases at_ i x x' hx dQ with⟨g1,g2⟩|⟨rfl,rfl⟩
  ·exact h.cells i x x' g1 g2
  ·exact h1
 ·rcases at_ i x x' hx dQ with⟨g1,g2⟩|⟨rfl,rfl⟩
  ·exact h.uy i x x' j c c' g1 g2 hc fT
  ·exact h2 j c c' hc fT
def uB(s t el:Nat)(x:D)(m:List D)(bx:ae):Prop:=
 (x= .aq/\m=[])\/∃e es l,x= .bp s e 5 0 es.length/\bx s=⟨e,1,5,el,es⟩/\cY bx es=some l/\vK l m/\D.aF l=true/\∀q∈bM es,q=t
theorem uB.len{s t el:Nat}{x:D}{m:List D}{bx:ae}(h:uB s t el x m bx):x.cells=[x]/\x.one=true/\∀c,fl x 0 [c]=some c:=by rcases h with⟨rfl,rfl⟩|⟨e,es,l,rfl,h⟩<;>exact⟨rfl,rfl,fun c=>by simp[fl,D.cells]⟩
theorem uB.eI{s t el:Nat}{x:D}{m:List D}{bx:ae}(h:uB s t el x m bx)(bz:s≠t):
 ∃bx0,(bx0=bx\/∃l,(bx s).k=1/\cY bx (bx s).es=some l/\bx0=Go.V.eI bx s l)/\(∀q,q≠s->q≠t->bx0 q=bx q)/\∃l,aS bx0 [s] el 5 x l/\vK l m/\D.aF l=true:=by
 rcases h with⟨rfl,rfl⟩|⟨e,es,l,rfl,h1,h2,h3,h4,h5⟩
 ·exact⟨bx,.inl rfl,fun _ _ _=>rfl,[],.nil _ _ _ _,.nil,rfl⟩
 ·have ik:(bx s).es=es:=by rw[h1]
  have hf:dX bx es s=bx s:=by rw[eL,if_neg (fun hm=>bz (h5 _ hm))]
  refine⟨_,.inr ⟨l,by rw[h1],by rw[ik];exact h2,rfl⟩,fun q hq iM=>?_,l,.inr ⟨s,e,by simp,?_,?_⟩,h3,h4⟩
  ·unfold Go.V.eI;rw[ik,aD hq,eL,if_neg (fun hm=>iM (h5 _ hm))]
  ·rw[(ug _ _ h2).1]
  ·unfold Go.V.eI;rw[ik,dC,hf,h1]
theorem uB.add{s t el e:Nat}{l m:List D}{d d' dm:D}{bx:ae}(hw:vK l m)(hp:D.aF l=true)(hb:bx s=⟨e,1,5,el,l++[d]⟩)(hd:bD bx d=some d')(ox:d'.pure=true)(h1:d'.cells.length=dm.cells.length)
 (h2:∀(j:Nat) c c',d'.cells[j]? =some c->dm.cells[j]? =some c'->bN c c') (hn:∀q∈names d,q=t):uB s t el (.bp s e 5 0 (l++[d]).length) (m++[dm]) bx:=by
 obtain⟨o1,o2⟩:=lW bx l hp;refine .inr ⟨e,_,_,rfl,hb,Ie hd _ _ o1,hw.snoc h1 h2,by rw[FC,hp];simp[D.aF,ox],fun q hq=>?_⟩;rw[Ft,o2]at hq;simp[bM]at hq;exact hn q hq
theorem aS.names{ts:List Nat}{bx:ae}{el esz:Nat}{x:D}{xs:List D}(h:aS bx ts el esz x xs):∀q∈Go.V.names x,q∈ts:=by
 rcases h with⟨rfl,_⟩|⟨t,e,ht,rfl,_⟩
 ·intro q hq;simp[Go.V.names]at hq
 ·intro q hq;simp[Go.V.names]at hq;subst hq;exact ht
def BH{ts:List Nat}{bx:ae}{el esz:Nat}{x:D}{xs:List D}(h:aS bx ts el esz x xs)(hp:D.aF xs=true){m:List D}(hw:vK xs m):∃r,bD bx x=some r/\bN r (.sl esz m)/\r.pure=true:=by
 rcases h with⟨rfl,rfl⟩|⟨t,e,_,rfl,hb⟩
 ·have:m=[]:=List.eq_nil_of_length_eq_zero (by rw[<-hw.len];rfl);subst this;exact⟨_,xi,.nil _,rfl⟩
 ·exact⟨_,by rw[ma,hb];exact ej _ _ _ _ _ _ (by decide) rfl hp,hw.sl _,rfl⟩
theorem vK.refl(l:List D):vK l l:=⟨rfl,fun i x x' h h'=>by rw[h]at h';injection h' with h';rw[h'],fun i x x' j c c' h h' hc fT=>by rw[h]at h';injection h' with h';subst h';rw[hc]at fT;injection fT with fT;subst fT;exact .refl _⟩
end Go.V.Ty
namespace Go.V.Ty
open Go.Proofs Go.RowKit Go.V.Lx Go.V.Gr
def RY(n:Int)(x:Entry):Entry:={x with no:=n}
def Zq(n:Int)(x:Part):Part:={x with no:=n}
def FZ(n:Int)(x:aH):aH:={x with no:=n,parts:=x.parts.map (Zq n)}
def Cg(g:aW)(n:Int):aW:={g with no:=n,entries:=g.entries.map (RY n),rules:=g.rules.map (FZ n)}
def B0{α β:Type}{f:α->β}{l:List α}{k:Nat}{x:α}(h:l[k]? =some x):(l.map f).take (k+1)=(l.map f).take k++[f x]:=by rw[List.take_add_one,gM,h];rfl
def Nt{bx:ae}{t e esz ty:Nat}{d:D}(h:bx t=⟨e,1,esz,ty,[d]⟩):gT bx esz (.bp t e esz 0 1)=some [d]:=by simp[gT,h,lv]
def IK(g:aW)(n:Int):fp (Cg g n)=fp g:=by
 have h1:(g.entries.map (RY n)).map (qp g.au)=g.entries.map (qp g.au):=by rw[List.map_map];rfl
 have h2:(g.rules.map (FZ n)).map (ku g.au)=g.rules.map (ku g.au):=by
  rw[List.map_map];refine List.map_congr_left fun x _=>?_;simp only[Function.comp,ku,FZ,List.map_map]
  congr 1
 simp only[fp,Cg,h1,h2]
def Pt(g:aW)(n:Int):Cg (fp g) n=Cg g n:=by
 simp only[Cg,fp,List.map_map]
 congr 1
 refine List.map_congr_left fun x _=>?_;simp only[Function.comp,FZ,ku,List.map_map]
 congr 1
def set_set(g:aW):fp (fp g)=fp g:=by rw[<-IK (fp g) 0,Pt,IK]
theorem Gg{α:Type}(f:α->α)(p:α->α->Bool)(l:List α):mJ p (l.map f) l=l.all fun x=>p (f x) x:=by
 have:∀l:List α,((l.map f).zip l).all (fun q=>p q.1 q.2)=l.all fun x=>p (f x) x:=by
  intro l;induction l with
  |nil=>rfl
  |cons x l ih=>simp only[mC,List.zip_cons_cons,List.all_cons,ih]
 rw[mJ,this];simp
def Ng{g:aW}(h:(dq g).2=0):(jL g=0<->fp g=g)/\(jL g=0\/jL g=260):=by
 have hr:=xz h;have N4:jL g=if decide ((fp g).no=g.no)&&(mJ (fun x y=>decide (x.no=y.no)) (fp g).entries g.entries&&mJ (fun x y=>decide (x.no=y.no)&&decide (x.parts=y.parts)) (fp g).rules g.rules)then 0 else 260:=by rw[jL,if_neg (by simp[h]),hr]
 refine⟨?_,by rw[N4];split<;>simp⟩;rw[N4,show(fp g).entries=g.entries.map (qp g.au)from rfl,show(fp g).rules=g.rules.map (ku g.au)from rfl,Gg,Gg];constructor
 ·intro hc;split at hc
  ·rename_i h1;simp only[bA,decide_eq_true_eq,List.all_eq_true]at h1;obtain⟨h1,h2,h3⟩:=h1;have e1:g.entries.map (qp g.au)=g.entries:=by
    conv=>rhs;rw[<-List.map_id g.entries]
    refine List.map_congr_left fun x hx=>?_;have:=h2 x hx;obtain⟨a,b,c,d,e⟩:=x;simp only[qp,id]at this⊢;rw[this]
   have e2:g.rules.map (ku g.au)=g.rules:=by
    conv=>rhs;rw[<-List.map_id g.rules]
    refine List.map_congr_left fun x hx=>?_;have:=h3 x hx;obtain⟨a,b,c,d,e⟩:=x;simp only[ku,id]at this⊢;rw[this.1,this.2]
   obtain⟨a,b,c,d,e,f⟩:=g;simp only[fp]at h1 e1 e2⊢;rw[h1,e1,e2]
  ·cases hc
 ·intro hs;rw[if_pos];simp only[bA,decide_eq_true_eq,List.all_eq_true];refine⟨by rw[hs],fun x hx=>?_,fun x hx=>?_⟩
  ·have e1:g.entries.map (qp g.au)=g.entries:=congrArg aW.entries hs;obtain⟨i,hi⟩:=List.mem_iff_getElem?.1 hx;have:=congrArg (·[i]?) e1;simp only[gM,hi,Option.map_some,sJ]at this;rw[this]
  ·have e1:g.rules.map (ku g.au)=g.rules:=congrArg aW.rules hs;obtain⟨i,hi⟩:=List.mem_iff_getElem?.1 hx;have:=congrArg (·[i]?) e1;simp only[gM,hi,Option.map_some,sJ]at this;rw[this];exact⟨rfl,rfl⟩
def PA{g:aW}(h:(dq g).2≠0):jL g=(dq g).2:=by rw[jL,if_pos h]
theorem mP.sz{g:aW}(h:mP g):Sz g:=⟨h.Bm,h.Bp,h.zH,fun x hx=>(h.ew x hx).len,fun x hx=>⟨(h.rules x hx).xm,(h.rules x hx).Lr⟩⟩
def Uo{g:aW}(h:mP g):mP (fp g):=by
 refine⟨h.name,h.start,h.Bm,by simpa[fp]using h.Bp,by simpa[fp]using h.zH,h.au,fun x hx=>?_,fun x hx=>?_⟩
 ·obtain⟨y,hy,rfl⟩:=List.mem_map.1 hx;exact⟨(h.ew y hy).text,(h.ew y hy).cat,(h.ew y hy).len,(h.ew y hy).aN⟩
 ·obtain⟨y,hy,rfl⟩:=List.mem_map.1 hx;refine⟨(h.rules y hy).cat,by simpa[ku]using(h.rules y hy).xm,(h.rules y hy).Lr,fun q hq=>?_,(h.rules y hy).aN⟩;obtain⟨r,hr,rfl⟩:=List.mem_map.1 hq;exact⟨((h.rules y hy).parts r hr).text,((h.rules y hy).parts r hr).cat⟩
def pg(g:aW):D.aF [g.d]=true:=by simp[D.aF,kW]
def pg2(g h:aW):D.aF [g.d,h.d]=true:=by simp[D.aF,kW]
theorem qT{α:Type}{es:List D}{f:α->D}{p:α->Prop}(h:∀x∈es,∃a,x=f a/\p a):∃l:List α,es=l.map f/\∀x∈l,p x:=by
 induction es with
 |nil=>exact⟨[],rfl,fun x hx=>by cases hx⟩
 |cons x es ih=>
  obtain⟨a,rfl,ha⟩:=h x sI;obtain⟨l,rfl,hl⟩:=ih fun y hy=>h y (by simp[hy]);exact⟨a::l,rfl,fun y hy=>by
   rcases List.mem_cons.1 hy with rfl|hy
   ·exact ha
   ·exact hl y hy⟩
def fZ{n:Nat}(h:n<=reachBytes):n<=140737488355328:=by unfold reachBytes at h;show n<=140737488355328;omega
def ur:Sh:=.slice 1 .str
def pN:Sh:=.slice 1 (.int .u8)
def Dz:Sh:=.agg [.str,.int .i64,.str]
def Dy:Sh:=.agg [.int .i64,.str]
def Ar:Sh:=.agg [.str,.str,.int .i64,ur,.int .i64]
def DA:Sh:=.agg [.str,.int .i64,.slice 3 Dz,.slice 2 Dy,.int .i64]
def zM:Sh:=.agg [.str,ur,.str,.int .i64,.slice 5 Ar,.slice 5 DA]
def tP{ys:List D}(h:ur.bX ys):∃l:List ah,ys=[strs l]/\l.length<=140737488355328/\∀s∈l,s.length<=140737488355328:=by
 simp only[ur,Sh.bX]at h;obtain⟨es,rfl,hl,h⟩:=h;obtain⟨l,rfl,hp⟩:=qT (f:=D.str) (p:=fun s=>s.length<=140737488355328) (es:=es) fun x hx=>by
  obtain⟨zs,rfl,s,rfl,hs⟩:=h x hx;exact⟨s,rfl,fZ hs⟩
 exact⟨l,rfl,by rw[List.length_map]at hl;exact fZ hl,hp⟩
def Qv{ys:List D}(h:Dz.bX ys):∃x:Part,Dz.pack ys=x.d/\MT x:=by
 simp only[Dz,Sh.bX,Sh.iz]at h;obtain⟨a,b,rfl,⟨m,rfl,h1⟩,c,e,rfl,⟨s,rfl,_⟩,c2,e2,rfl,⟨n,rfl,h2⟩,rfl⟩:=h;exact⟨⟨m,s,n⟩,rfl,fZ h2,fZ h1⟩
def Qr{ys:List D}(h:Dy.bX ys):∃x:dT,Dy.pack ys=x.d/\small x.text:=by
 simp only[Dy,Sh.bX,Sh.iz]at h;obtain⟨a,b,rfl,⟨m,rfl,h1⟩,c,e,rfl,⟨s,rfl,h2⟩,rfl⟩:=h;exact⟨⟨m,s⟩,rfl,fZ h2⟩
def NT{ys:List D}(h:Ar.bX ys):∃x:Entry,Ar.pack ys=x.d/\MS x:=by
 simp only[Ar,Sh.bX,Sh.iz]at h;obtain⟨a,b,rfl,⟨t,rfl,h1⟩,c,e,rfl,⟨s,rfl,h2⟩,c2,e2,rfl,⟨n,rfl,_⟩,c3,e3,rfl,h3,c4,e4,rfl,⟨k,rfl,_⟩,rfl⟩:=h;obtain⟨l,rfl,hl,hp⟩:=tP h3;exact⟨⟨t,s,n,l,k⟩,rfl,fZ h1,fZ h2,hl,hp⟩
def Qx{ys:List D}(h:DA.bX ys):∃x:aH,DA.pack ys=x.d/\JH x:=by
 simp only[DA,Sh.bX,Sh.iz]at h;obtain⟨a,b,rfl,⟨t,rfl,h1⟩,c,e,rfl,⟨s,rfl,_⟩,c2,e2,rfl,⟨ps,rfl,mT,h2⟩,c3,e3,rfl,⟨gs,rfl,AP,h3⟩,c4,e4,rfl,⟨k,rfl,_⟩,rfl⟩:=h;obtain⟨l,rfl,hp⟩:=qT (f:=Part.d) (p:=MT) (es:=ps) fun x hx=>by
  obtain⟨zs,rfl,hz⟩:=h2 x hx;exact Qv hz
 obtain⟨m,rfl,hq⟩:=qT (f:=dT.d) (p:=fun x=>small x.text) (es:=gs) fun x hx=>by
  obtain⟨zs,rfl,hz⟩:=h3 x hx;exact Qr hz
 rw[List.length_map]at mT AP;exact⟨⟨t,s,l,m,k⟩,rfl,fZ h1,fZ mT,fZ AP,hp,hq⟩
def Qs{d:D}(h:zM.has d):∃g:aW,d=g.d/\mP g:=by
 obtain⟨ys,rfl,h⟩:=h;simp only[zM,Sh.bX,Sh.iz]at h;obtain⟨a,b,rfl,⟨t,rfl,h1⟩,c,e,rfl,h2,c2,e2,rfl,⟨s,rfl,h3⟩,c3,e3,rfl,⟨n,rfl,_⟩,c4,e4,rfl,⟨es,rfl,er,h4⟩,c5,e5,rfl,⟨rs,rfl,qe,h5⟩,rfl⟩:=h;obtain⟨l,rfl,hl,hp⟩:=tP h2;obtain⟨m,rfl,hm⟩:=qT (f:=Entry.d) (p:=MS) (es:=es) fun x hx=>by
  obtain⟨zs,rfl,hz⟩:=h4 x hx;exact NT hz
 obtain⟨k,rfl,hk⟩:=qT (f:=aH.d) (p:=JH) (es:=rs) fun x hx=>by
  obtain⟨zs,rfl,hz⟩:=h5 x hx;exact Qx hz
 rw[List.length_map]at er qe;exact⟨⟨t,l,s,n,m,k⟩,rfl,fZ h1,fZ h3,hl,fZ er,fZ qe,hp,hm,hk⟩
def Qt{d:D}(h:(Sh.int .i64).has d):∃n,d= .int .i64 n:=by
 obtain⟨ys,rfl,h⟩:=h;simp only[Sh.bX]at h;obtain⟨n,rfl,_⟩:=h;exact⟨n,rfl⟩
structure Typed(g:aW):Prop where
 start:g.au.contains g.start=true
 ent:∀x∈g.entries,g.au.contains x.cat=true
 Yb:∀x∈g.rules,g.au.contains x.cat=true
 part:∀x∈g.rules,∀q∈x.parts,q.text=[]->g.au.contains q.cat=true
def RA{g:aW}(h:gG g.au.contains g=true):Typed g:=by
 simp only[gG,bA,List.all_eq_true]at h;obtain⟨h1,h2,h3,h4,h5,h6⟩:=h;refine⟨h4,fun x hx=>?_,fun x hx=>?_,fun x hx q hq ht=>?_⟩
 ·have:=h5 x hx;simp only[fG,bA]at this;exact this.2.1
 ·have:=h6 x hx;simp only[ja,bA]at this;exact this.1
 ·have:=h6 x hx;simp only[ja,bA,List.all_eq_true]at this;have:=this.2.2.2.2.1 q hq;simpa[mW,ht]using this
def XI{l:List ah}{s:ah}(h:l.contains s=true):∃k:Nat,num l s=k/\l[k]? =some s:=by
 have hm:s∈l:=List.contains_iff_mem.1 h;have ar:=List.idxOf_lt_length_of_mem hm;exact⟨l.idxOf s,by simp only[num,h,if_true],by rw[gE ar,List.getElem_idxOf]⟩
end Go.V.Ty
