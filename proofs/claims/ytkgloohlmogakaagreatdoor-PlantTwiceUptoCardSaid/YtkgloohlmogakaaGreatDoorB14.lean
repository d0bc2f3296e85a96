/- Types: circular. -/
import Derived.Test.YtkgloohlmogakaaGreatDoorB13
set_option linter.unusedSimpArgs false
set_option linter.unusedVariables false
set_option maxRecDepth 100000
namespace Go.V.Ty
open Go.Proofs Go.RowKit Go.V.Lx Go.V.Gr
theorem J3{e3 e6 e8 t3 t6 t8 s3:Nat}{n:Int}{c:ah}{m:PM}{bx0:ae}(h6:bx0 6=⟨e6,1,1,t6,[.str c]⟩)(h3:bx0 3=⟨e3,1,1,t3,[.omap 8 e8]⟩)(h8:bx0 8=⟨e8,3,s3,t8,.int .i64 n::cn m⟩)(hm:∀e∈m,e.2.1= .bool true):
 bC 273 [.loc 6 e6 0 0,.loc 3 e3 0 0] 9 100 bx0 aC.d BZ (ew (m.map (·.1)) c):=by
 intro bx x hb hx;refine aG (fn:=Tryz.f273) (tab:=[]) (base:=100) mixed ?_ rfl aj rfl;refine aH _ [.tmp 4] 32 rfl rfl rfl aj ?_;have g6:=(hb 6 oM).trans h6;have g3:=(hb 3 oM).trans h3;have g8:=(hb 8 oM).trans h8;have hpl:=hx.plen;have fin:∀(b:Bool) (B:ae),b=ew (m.map (·.1)) c x->(∀s,s<100->B s=bx s)->D.bool b= .bool (ew (m.map (·.1)) c x)/\∀s,s<100->B s=bx s:=fun b B h h'=>⟨by rw[h],h'⟩
 simp(disch:=omega) only[go_sem,g6,g3,g8,aC.d];refine ar (fun c1=>?_) (fun c1=>?_)
 rotate_left
 ·simp(disch:=omega) only[go_sem,c1,decide_false];refine fin false _ ?_ (fun s hs=>by simp(disch:=omega) only[aA,if_neg]);unfold ew;split
  ·rename_i a b he;have:a=x.cat:=by
    unfold fG at he;split at he
    ·split at he<;>simp at he;exact he.1.symm
    ·cases he
   simp[this,c1]
  ·rfl
 ·simp(disch:=omega) only[go_sem,c1,decide_true,g6,g3,g8];refine ar (fun c2=>?_) (fun c2=>?_)
  rotate_left
  ·simp(disch:=omega) only[go_sem,c2,decide_false];refine fin false _ ?_ (fun s hs=>by simp(disch:=omega) only[aA,if_neg]);unfold ew fG;split
   ·rename_i a b he;split at he
    ·rename_i q hq;rw[hq]at c2;exact(c2 rfl).elim
    ·cases he
   ·rfl
  ·obtain⟨q,hq⟩:=List.length_eq_one_iff.1 (show x.parts.length=1 by omega);have hx0:x.parts[0]? =some q:=by rw[hq];rfl
   simp(disch:=omega) only[go_sem,c1,c2,decide_true,g6,g3,g8,hx0,Part.d,Int.reduceLT];refine ar (fun c3=>?_) (fun c3=>?_)
   rotate_left
   ·simp(disch:=omega) only[go_sem,c2,c3,decide_true,decide_false,hx0,Part.d];refine fin false _ ?_ (fun s hs=>by simp(disch:=omega) only[aA,if_neg]);simp[ew,fG,hq,c3]
   ·have hl:ew (m.map (·.1)) c x=(m.map (·.1)).contains q.cat:=by
     have he:fG x=some (x.cat,q.cat):=by unfold fG;rw[hq];exact if_pos c3
     simp[ew,he,c1]
    rcases lM q.cat m 0 with⟨f1,f2⟩|⟨j,e,f1,f2,f3⟩
    ·simp(disch:=omega) only[go_sem,c1,c2,c3,decide_true,g6,g3,g8,f1,hx0,Part.d];refine fin false _ ?_ (fun s hs=>by simp(disch:=omega) only[aA,if_neg]);rw[hl];symm;rw[Bool.eq_false_iff,Ne,List.contains_iff_mem,List.mem_map];rintro⟨e,he,h⟩;exact f2 e he h
    ·have hv:=hm e (List.mem_of_getElem? f2);simp(disch:=omega) only[go_sem,c1,c2,c3,decide_true,g6,g3,g8,f1,hv,hx0,Part.d];refine fin true _ ?_ (fun s hs=>by simp(disch:=omega) only[aA,if_neg]);rw[hl];symm;rw[List.contains_iff_mem,List.mem_map];exact⟨e,List.mem_of_getElem? f2,f3⟩
def fY(L:List (ah×Nat)):PM:=L.map fun p=>(p.1,.bool true,(p.2:Int))
theorem HK(L:List (ah×Nat)):(fY L).map (·.1)=L.map (·.1):=by simp[fY]
theorem xQ:∀(L:List (ah×Nat)) (j:Nat),(fY L).eraseIdx j=fY (L.eraseIdx j)
 |[],j=>by simp[fY]
 |p::L,0=>by simp[fY]
 |p::L,j+1=>by simpa[fY]using xQ L j
theorem HL(L:List (ah×Nat)):∀e∈fY L,e.2.1= .bool true:=by
 intro e he;obtain⟨p,_,rfl⟩:=List.mem_map.1 he;rfl
theorem Bp{l:List ah}{j:Nat}{c:ah}(h:l[j]? =some c):l.zipIdx.take (j+1)=l.zipIdx.take j++[(c,j)]:=by rw[List.take_add_one,List.getElem?_zipIdx,h];simp
theorem KG{l:List ah}(hn:l.Nodup){j:Nat}{c:ah}(h:l[j]? =some c):∀e∈fY (l.zipIdx.take j),e.1≠c:=by
 intro e he hc;obtain⟨p,hp,rfl⟩:=List.mem_map.1 he;obtain⟨i,hi,hpi⟩:=List.mem_iff_getElem.1 hp;have hi2:i<j:=by simp at hi;omega
 rw[List.getElem_take,List.getElem_zipIdx]at hpi;have hl:j<l.length:=(List.getElem?_eq_some_iff.1 h).1;have h1:l[i]'oM=l[j]:=by
  have:=(List.getElem?_eq_some_iff.1 h).2;rw[this,<-hc,<-hpi]
 have:=(List.getElem_inj hn).1 h1;omega
structure Left(g:aO)(k:Nat)(L:List (ah×Nat)):Prop where
 of:List.Sublist L g.cats.zipIdx
 has:∀F,Full g.rules F->(∀x∈F,x∈g.cats)->∀x∈F,x∈L.map (·.1)
 how:Full g.rules (L.map (·.1))\/L.length+k<=g.cats.length
theorem Left.all(g:aO):Left g 0 g.cats.zipIdx:=⟨List.Sublist.refl _,fun F _ h x hx=>by simpa using h x hx,.inr sI⟩
theorem Left.sub{g:aO}{k:Nat}{L:List (ah×Nat)}(h:Left g k L):∀x∈L.map (·.1),x∈g.cats:=by
 intro x hx;have:=h.of.map (·.1);rw[List.zipIdx_map_fst]at this;exact this.subset hx
theorem Left.fin{g:aO}{L:List (ah×Nat)}(h:Left g g.cats.length L):Full g.rules (L.map (·.1)):=by
 rcases h.how with h|h
 ·exact h
 ·have:L=[]:=List.eq_nil_of_length_eq_zero oM;rw[this];exact zT _
structure jF(g:aO)(L0 L:List (ah×Nat))(seen:List D):Prop where
 of:List.Sublist L L0
 has:∀F,Full g.rules F->(∀x∈F,x∈g.cats)->∀x∈F,x∈L.map (·.1)
 how:(L=L0/\∀p∈L0,(p.2:Int)∈seen.map intOf->g.rules.any (ew (L0.map (·.1)) p.1)=true)\/L.length<L0.length
 full:Full g.rules (L0.map (·.1))->L=L0
theorem jF.start{g:aO}{k:Nat}{L0:List (ah×Nat)}(h:Left g k L0):jF g L0 L0 []:=⟨List.Sublist.refl _,h.has,.inl ⟨rfl,by simp⟩,fun _=>rfl⟩
def one(p:ah×Nat):D:=.tup [.str p.1,.bool true,.int .i64 (p.2:Int)]
theorem pL(L:List (ah×Nat)):cn (fY L)=L.map one:=by simp[cn,fY,one]
theorem qA{L:List (ah×Nat)}{seen:List D}{d:D}:d∈fa seen (cn (fY L))<->∃p∈L,d=one p/\(p.2:Int)∉seen.map intOf:=by
 simp only[fa,List.mem_filter,pL,List.mem_map];constructor
 ·rintro⟨⟨p,hp,rfl⟩,h⟩;refine⟨p,hp,rfl,fun hm=>?_⟩;have:(seen.map intOf).contains (eH (one p))=true:=by rw[List.contains_iff_mem];exact List.mem_map.2 hm
  rw[this]at h;cases h
 ·rintro⟨p,hp,rfl,h⟩;refine⟨⟨p,hp,rfl⟩,?_⟩;have:(seen.map intOf).contains (eH (one p))=false:=by rw[Bool.eq_false_iff,Ne,List.contains_iff_mem];exact fun hm=>h (List.mem_map.1 hm)
  rw[this];rfl
theorem nd{p:ah×Nat}:∀(L:List (ah×Nat)),(L.map (·.2)).Nodup->p∈L->(L.map one).find? (fun e=>eH e==(p.2:Int))=some (one p)
 |[],_,h=>by simp at h
 |q::L,hn,h=>by
  simp only[List.map_cons,List.nodup_cons]at hn;rcases List.mem_cons.1 h with rfl|h
  ·simp[one,eH]
  ·have hne:q.2≠p.2:=fun e=>hn.1 (List.mem_map.2 ⟨p,h,e.symm⟩);have hb:(eH (one q)==(p.2:Int))=false:=by simp[one,eH];omega
   rw[List.map_cons,List.find?_cons,hb];exact nd L hn.2 h
theorem G8{L:List (ah×Nat)}{p:ah×Nat}(seen:List D)(hn:(L.map (·.2)).Nodup)(h:p∈L):s7 (seen++[.int .i64 (p.2:Int)]) (cn (fY L))=some (.tup [.str p.1,.bool true]):=by simp only[s7,List.getLast?_concat,intOf,pL,nd L hn h,one]
theorem CA{L L':List (ah×Nat)}{seen:List D}{p:ah×Nat}(hs:List.Sublist L' L)(h:p∈L)(hp:(p.2:Int)∉seen.map intOf):(fa (seen++[.int .i64 (p.2:Int)]) (cn (fY L'))).length<(fa seen (cn (fY L))).length:=by
 have e:∀es:List D,fa (seen++[.int .i64 (p.2:Int)]) es=(fa seen es).filter fun e=> !(eH e==(p.2:Int)):=by
  intro es;simp only[fa,List.filter_filter];refine List.filter_congr fun x _=>?_;simp[intOf,Bool.not_or];by_cases h1:eH x=p.2<;>simp[h1]
 have hsub:List.Sublist (fa (seen++[.int .i64 (p.2:Int)]) (cn (fY L'))) (fa seen (cn (fY L))):=by
  rw[e];refine List.filter_sublist.trans ?_;rw[pL,pL];exact(hs.map one).filter _
 have hle:=hsub.length_le;by_cases hlt:(fa (seen++[.int .i64 (p.2:Int)]) (cn (fY L'))).length<(fa seen (cn (fY L))).length
 ·exact hlt
 ·have heq:=hsub.eq_of_length_le oM;have hm:one p∈fa seen (cn (fY L)):=qA.2 ⟨p,h,rfl,hp⟩;rw[<-heq]at hm;obtain⟨q,hq,hq1,hq2⟩:=qA.1 hm;have:p.2=q.2:=by injection hq1 with hq1;injection hq1 with _ hq1;injection hq1 with _ hq1;injection hq1 with hq1 _;injection hq1;omega
  exact(hq2 (by rw[<-this];simp[intOf])).elim
theorem wz{l:List ah}{L:List (ah×Nat)}(h:List.Sublist L l.zipIdx):(L.map (·.2)).Nodup/\∀p∈L,p.2<l.length:=by
 have h2:=h.map (·.2);rw[List.zipIdx_map_snd]at h2;refine⟨h2.nodup List.nodup_range',fun p hp=>?_⟩;have:=h2.subset (List.mem_map_of_mem hp);simp at this;omega
theorem jF.round{g:aO}{k:Nat}{L0 L:List (ah×Nat)}{seen:List D}(h0:Left g k L0)(h:jF g L0 L seen)(hl:∀e∈fa seen (cn (fY L)),(g.cats.length:Int)<=eH e):Left g (k+1) L:=by
 have hall:∀p∈L,(p.2:Int)∈seen.map intOf:=fun p hp=>Classical.byContradiction fun hn=>by
  have h1:=hl _ (qA.2 ⟨p,hp,rfl,hn⟩);have h2:=(wz (h.of.trans h0.of)).2 p hp;simp only[one,eH]at h1;omega
 refine⟨h.of.trans h0.of,h.has,?_⟩;rcases h.how with⟨rfl,h1⟩|h1
 ·refine .inl fun c hc=>?_;obtain⟨p,hp,rfl⟩:=List.mem_map.1 hc;exact h1 p hp (hall p hp)
 ·rcases h0.how with h2|h2
  ·rw[h.full h2]at h1;omega
  ·exact .inr oM
theorem jF.fy{g:aO}{L0 L:List (ah×Nat)}{seen:List D}{p:ah×Nat}(hn:(L.map (·.2)).Nodup)(hp:p∈L)(h:jF g L0 L seen)(hl:g.rules.any (ew (L.map (·.1)) p.1)=true):jF g L0 L (seen++[.int .i64 (p.2:Int)]):=by
 refine⟨h.of,h.has,?_,h.full⟩;rcases h.how with⟨rfl,h1⟩|h1
 ·refine .inl ⟨rfl,fun q hq hs=>?_⟩;simp only[List.map_append,List.mem_append,List.map_cons,List.map_nil,List.mem_singleton,intOf]at hs;rcases hs with hs|hs
  ·exact h1 q hq hs
  ·have hpq:q=p:=by
    have:=nd L hn hq;rw[hs,nd L hn hp]at this;injection this with this;injection this with this;injection this with t1 t2;injection t2 with _ t2;injection t2 with t2 _;injection t1 with t1;injection t2 with _ t2;exact Prod.ext t1.symm oM
   rw[hpq];exact hl
 ·exact .inr h1
theorem jF.cut{g:aO}{L0 L:List (ah×Nat)}{seen s':List D}{c:ah}{j:Nat}{q:ah×Nat}(hj:L[j]? =some q)(hq:q.1=c)(h:jF g L0 L seen)(hl:g.rules.any (ew (L.map (·.1)) c)=false):jF g L0 (L.eraseIdx j) s':=by
 have hjl:j<L.length:=(List.getElem?_eq_some_iff.1 hj).1;have hlen:=h.of.length_le;have hc:c∈L.map (·.1):=List.mem_map.2 ⟨q,List.mem_of_getElem? hj,hq⟩;refine⟨(List.eraseIdx_sublist _ _).trans h.of,fun F hF hs x hx=>?_,.inr ?_,fun hf=>?_⟩
 ·have hxc:x≠c:=by
   rintro rfl;have:=vB (h.has F hF hs) (hF x hx);rw[hl]at this;cases this
  obtain⟨r,hr,rfl⟩:=List.mem_map.1 (h.has F hF hs x hx);obtain⟨i,hi⟩:=List.mem_iff_getElem?.1 hr;refine List.mem_map.2 ⟨r,List.mem_eraseIdx_iff_getElem?.2 ⟨i,?_,hi⟩,rfl⟩;rintro rfl;rw[hj]at hi;injection hi with hi;exact hxc (by rw[<-hi];exact hq)
 ·rw[List.length_eraseIdx];split<;>omega
 ·have e:=h.full hf;rw[<-e]at hf;rw[hf c hc]at hl;cases hl
theorem C_(g:aO)(hg:iZ g)(hnd:g.cats.Nodup):iI Tryz.prog (bK Tryz.prog) [] Tryz.f225 0 [g.d] (fun _=> .none) (fun d _=>d= .bool (kZ g)) (fun _ _=>False):=by
 refine aH _ [.tmp 2] 42 rfl rfl rfl aj ?_;have hcl:=hg.clen;simp(disch:=omega) only[go_sem,aO.d,strs];refine aX g.cats.length (fun j σ bx=>σ 1= .loc 1 1 0 0/\σ 3= .loc 3 1 0 0/\σ 10=strs g.cats/\σ 11= .int .i64 g.cats.length/\σ 12= .int .i64 j/\bx 1=⟨1,1,6,81,[g.d]⟩/\bx 3=⟨1,1,1,355,[.omap 8 1]⟩/\bx 8=⟨1,3,0,355,.int .i64 j::cn (fY (g.cats.zipIdx.take j))⟩) ?_ ?_ ?_
 ·simp(disch:=omega) only[go_sem,aO.d,strs,List.take_zero];simp[fY,cn]
 ·rintro j σ bx hj ⟨q1,q3,q10,q11,q12,b1,b3,b8⟩;obtain⟨c,hc⟩:=aP hj;have hlt:(j:Int)<(g.cats.length:Int):=oM;have hj1:IntKind.i64.wrap ((j:Int)+1)=((j+1:Nat):Int):=aK oM;have hu:=uJ (c:=(j:Int)) (v:=.bool true) (KG hnd hc);simp(disch:=omega) only[go_sem,q1,q3,q10,q11,q12,b1,b3,b8,hlt,hc,strs,hu,hj1,dW];rw[Bp hc];simp[fY]
 ·rintro σ bx ⟨q1,q3,q10,q11,q12,b1,b3,b8⟩;have hlt:¬(g.cats.length:Int)<(g.cats.length:Int):=oM;simp(disch:=omega) only[go_sem,q1,q3,q10,q11,q12,b1,b3,b8,hlt,strs,aO.d];refine aX g.cats.length (fun k σ bx=>σ 1= .loc 1 1 0 0/\σ 3= .loc 3 1 0 0/\σ 21= .int .i64 g.cats.length/\σ 22= .int .i64 k/\bx 1=⟨1,1,6,81,[g.d]⟩/\bx 3=⟨1,1,1,355,[.omap 8 1]⟩/\
   ∃L,bx 8=⟨1,3,0,355,.int .i64 g.cats.length::cn (fY L)⟩/\Left g k L) ?_ ?_ ?_
  ·simp(disch:=omega) only[go_sem,q1,q3,b1,b3,b8,aO.d,strs];exact⟨_,by rw[<-List.length_zipIdx (l:=g.cats) (i:=0),List.take_length],Left.all g⟩
  ·rintro k σ bx hk ⟨q1,q3,q21,q22,b1,b3,L0,b8,hL0⟩;have hlt:(k:Int)<(g.cats.length:Int):=oM;have hk1:IntKind.i64.wrap ((k:Int)+1)=((k+1:Nat):Int):=aK oM;simp(disch:=omega) only[go_sem,q1,q3,q21,q22,b1,b3,b8,hlt,strs];obtain⟨e25,he⟩:∃e25,(bx 25).ep+1=e25:=⟨_,rfl⟩
   rw[he];refine Ca (fun σ bx=>σ 1= .loc 1 1 0 0/\σ 3= .loc 3 1 0 0/\σ 21= .int .i64 g.cats.length/\σ 22= .int .i64 k/\σ 25= .loc 25 e25 0 0/\bx 1=⟨1,1,6,81,[g.d]⟩/\bx 3=⟨1,1,1,355,[.omap 8 1]⟩/\
    ∃L seen,bx 8=⟨1,3,0,355,.int .i64 g.cats.length::cn (fY L)⟩/\bx 25=⟨e25,3,0,0,.omap 8 1:: .int .i64 g.cats.length:: .int .i64 g.cats.length::seen⟩/\jF g L0 L seen)
    (fun σ bx=>(fa ((bx 25).es.drop 3) ((bx 8).es.drop 1)).length) ?_ ?_
   ·simp(disch:=omega) only[go_sem,q1,q3,q21,q22,b1,b3,b8];exact⟨L0,[],rfl,rfl,jF.start hL0⟩
   ·rintro σ bx ⟨q1,q3,q21,q22,q25,b1,b3,L,seen,b8,b25,hm⟩;simp(disch:=omega) only[go_sem,q1,q3,q21,q22,q25,b1,b3,b8,b25,qC];have hz:=wz (hm.of.trans hL0.of);refine⟨?_,?_,fun hl=>⟨by rw[hk1],L,rfl,jF.round hL0 hm hl⟩⟩
    ·cases hL:L with
     |nil=>exact .inr (.inl rfl)
     |cons p L'=>exact .inr (.inr ⟨one p,by rw[pL];simp,by have:=hz.2 p (by rw[hL];simp);simp only[one,eH];omega⟩)
    ·intro k1 v b hd;obtain⟨p,hp,hd1,hd2⟩:=qA.1 hd;obtain⟨rfl,rfl,rfl⟩:k1= .str p.1/\v= .bool true/\b=(p.2:Int):=by
      injection hd1 with hd1;injection hd1 with t1 hd1;injection hd1 with t2 hd1;injection hd1 with t3 _;injection t3 with _ t3;exact⟨t1,t2,t3⟩
     have hent:=G8 seen hz.1 hp;have hb8:∀(b:ae),(fa (List.drop 3 (bx 25).es) (List.drop 1 (bx 8).es))=fa seen (cn (fY L)):=fun _=>by rw[b25,b8];rfl
     rw[hb8 bx];simp(disch:=omega) only[go_sem,dW,b25,b8,nZ,hent,q1,q3,b1,b3,aO.d,strs];refine aB (Fp (n0:=9) (k:=100) (J3 (e6:=(bx 6).ep+1) (e3:=1) (e8:=1) (n:=g.cats.length) (c:=p.1) (m:=fY L) (t3:=355) (t6:=9) (t8:=355) (s3:=0) (by simp[ao]) (by simp[ao,b3]) (by simp[ao,b8]) (HL L)) oM g.rules hg.rlen hg.rules _ (fun _ _=>rfl)) rfl ?_;rintro d B ⟨rfl,hk⟩;have c1:=(hk 1 oM).trans (show _=bx 1 by simp[ao]);have c3:=(hk 3 oM).trans (show _=bx 3 by simp[ao]);have c8:=(hk 8 oM).trans (show _=bx 8 by simp[ao]);have c6:=hk 6 oM;have c25:=hk 25 oM;rw[b1]at c1;rw[b3]at c3;rw[b8]at c8;simp[ao]at c6 c25;rw[HK]at *;cases hl:g.rules.any (ew (L.map (·.1)) p.1)
     ·obtain⟨j,e,d1,d2,d3⟩:=Jz (m:=fY L) (s:=p.1) (c:=(g.cats.length:Int)) ⟨_,List.mem_map.2 ⟨p,hp,rfl⟩,rfl⟩;simp(disch:=omega) only[go_sem,hl,Bool.not_false,c1,c3,c8,c6,c25,d3,dW,q1,q3,q21,q22,q25];have he:=xQ L j;obtain⟨q,hq1,hq2⟩:∃q,L[j]? =some q/\q.1=p.1:=by
       simp only[fY,List.getElem?_map,Option.map_eq_some_iff]at d1;obtain⟨q,h1,h2⟩:=d1;exact⟨q,h1,by rw[<-d2,<-h2]⟩
      rw[he];exact⟨⟨by simp[aO.d,strs],L.eraseIdx j,_,rfl,rfl,hm.cut hq1 hq2 hl⟩,CA (List.eraseIdx_sublist _ _) hp hd2⟩
     ·simp(disch:=omega) only[go_sem,hl,Bool.not_true,c1,c3,c8,c6,c25,q1,q3,q21,q22,q25];exact⟨⟨by simp[aO.d,strs],L,_,rfl,rfl,hm.fy hz.1 hp hl⟩,CA (List.Sublist.refl _) hp hd2⟩
  ·rintro σ bx ⟨q1,q3,q21,q22,b1,b3,L,b8,hL⟩;have hlt:¬(g.cats.length:Int)<(g.cats.length:Int):=oM;simp(disch:=omega) only[go_sem,q1,q3,q21,q22,b1,b3,b8,hlt,zE];rw[EU hL.sub hL.fin hL.has];cases L<;>simp[fY]
theorem C9(g:aO)(hg:iZ g)(hnd:g.cats.Nodup):aq Tryz.prog 225 [g.d] (.bool (kZ g)):=
 (aG mixed (C_ g hg hnd) rfl aj rfl).to (fun _ _ h=>h) (fun d' bx' h=>⟨.bool (kZ g),by rw[h];rfl,.refl _⟩)
def c_(B sz el:Nat)(l:List D)(bx:ae)(d:D)(bx':ae):Prop:=
 ((l=[]/\aW bx' [B+5] el sz d [])\/(l≠[]/\∃e,d= .osl (B+7) e sz 0 l.length/\bx' (B+7)=⟨e,1,sz,el,l⟩))/\∀s,s<B->bx' s=bx s
theorem c_.fy{B sz el:Nat}{l:List D}{bx bx':ae}{d:D}(h:c_ B sz el l bx d bx'):∀s,s<B->bx' s=bx s:=h.2
theorem c_.own{B sz el:Nat}{l:List D}{bx bx':ae}{d:D}(h:c_ B sz el l bx d bx')(hl:l≠[]):∃e,d= .osl (B+7) e sz 0 l.length/\bx' (B+7)=⟨e,1,sz,el,l⟩:=by
 rcases h.1 with h|h
 ·exact(hl h.1).elim
 ·exact h.2
theorem c_.none{B sz el:Nat}{bx bx':ae}{d:D}(h:c_ B sz el [] bx d bx'):aW bx' [B+5] el sz d []:=by
 rcases h.1 with h|h
 ·exact h.2
 ·exact(h.1 rfl).elim
theorem zt(B:Nat)(l:List Part)(hl:l.length<=65536)(bx:ae):aU Tryz.prog 228 0 [.sl 3 (l.map Part.d)] bx (c_ B 3 247 (l.map Part.d) bx) (fun _ _=>False):=by
 refine aG (fn:=Tryz.f228) (tab:=[(1000005,[])]) (base:=B) mixed ?_ rfl aj rfl;refine aH _ [.tmp 2] 8 rfl rfl rfl aj ?_;cases l with
 |nil=>
  simp(disch:=omega) only[go_sem,List.map_nil,List.isEmpty_nil];refine⟨⟨.inl ⟨rfl,.nil _ _ _ _⟩,fun _ _=>rfl⟩,?_⟩;refine eY (ts:=[B+5]) (xs:=[]) (.inr ⟨B+5,(bx (B+5)).ep+1,by simp,rfl,by simp[ao]⟩) ?_;simp(disch:=omega) only[go_sem];exact⟨.inl ⟨rfl,.inr ⟨B+5,(bx (B+5)).ep+1,by simp,rfl,by simp[ao]⟩⟩,fun s hs=>by simp(disch:=omega) only[aA,if_neg]⟩
 |cons x l=>
  simp only[List.length_cons]at hl;simp(disch:=omega) only[go_sem,List.map_cons,List.isEmpty_cons];refine eG (ts:=[B+5]) (xs:=[]) (.inr ⟨B+5,(bx (B+5)).ep+1,by simp,rfl,by simp[ao]⟩) sI sG (by simp;omega) oM oM sI fun e' bx' h1 h2=>?_;simp(disch:=omega) only[go_sem];refine⟨.inr ⟨by simp,e',by simp,by simpa using h1⟩,fun s hs=>?_⟩;rw[h2 s oM (by simp;omega)];simp(disch:=omega) only[aA,if_neg]
theorem GP(B:Nat)(l:List Entry)(hl:l.length<=65536)(bx:ae):aU Tryz.prog 226 0 [.sl 5 (l.map Entry.d)] bx (c_ B 5 138 (l.map Entry.d) bx) (fun _ _=>False):=by
 refine aG (fn:=Tryz.f226) (tab:=[(1000005,[])]) (base:=B) mixed ?_ rfl aj rfl;refine aH _ [.tmp 2] 8 rfl rfl rfl aj ?_;cases l with
 |nil=>
  simp(disch:=omega) only[go_sem,List.map_nil,List.isEmpty_nil];refine⟨⟨.inl ⟨rfl,.nil _ _ _ _⟩,fun _ _=>rfl⟩,?_⟩;refine eY (ts:=[B+5]) (xs:=[]) (.inr ⟨B+5,(bx (B+5)).ep+1,by simp,rfl,by simp[ao]⟩) ?_;simp(disch:=omega) only[go_sem];exact⟨.inl ⟨rfl,.inr ⟨B+5,(bx (B+5)).ep+1,by simp,rfl,by simp[ao]⟩⟩,fun s hs=>by simp(disch:=omega) only[aA,if_neg]⟩
 |cons x l=>
  simp only[List.length_cons]at hl;simp(disch:=omega) only[go_sem,List.map_cons,List.isEmpty_cons];refine eG (ts:=[B+5]) (xs:=[]) (.inr ⟨B+5,(bx (B+5)).ep+1,by simp,rfl,by simp[ao]⟩) sI sG (by simp;omega) oM oM sI fun e' bx' h1 h2=>?_;simp(disch:=omega) only[go_sem];refine⟨.inr ⟨by simp,e',by simp,by simpa using h1⟩,fun s hs=>?_⟩;rw[h2 s oM (by simp;omega)];simp(disch:=omega) only[aA,if_neg]
theorem GQ(B:Nat)(l:List aC)(hl:l.length<=65536)(bx:ae):aU Tryz.prog 227 0 [.sl 5 (l.map aC.d)] bx (c_ B 5 142 (l.map aC.d) bx) (fun _ _=>False):=by
 refine aG (fn:=Tryz.f227) (tab:=[(1000005,[])]) (base:=B) mixed ?_ rfl aj rfl;refine aH _ [.tmp 2] 8 rfl rfl rfl aj ?_;cases l with
 |nil=>
  simp(disch:=omega) only[go_sem,List.map_nil,List.isEmpty_nil];refine⟨⟨.inl ⟨rfl,.nil _ _ _ _⟩,fun _ _=>rfl⟩,?_⟩;refine eY (ts:=[B+5]) (xs:=[]) (.inr ⟨B+5,(bx (B+5)).ep+1,by simp,rfl,by simp[ao]⟩) ?_;simp(disch:=omega) only[go_sem];exact⟨.inl ⟨rfl,.inr ⟨B+5,(bx (B+5)).ep+1,by simp,rfl,by simp[ao]⟩⟩,fun s hs=>by simp(disch:=omega) only[aA,if_neg]⟩
 |cons x l=>
  simp only[List.length_cons]at hl;simp(disch:=omega) only[go_sem,List.map_cons,List.isEmpty_cons];refine eG (ts:=[B+5]) (xs:=[]) (.inr ⟨B+5,(bx (B+5)).ep+1,by simp,rfl,by simp[ao]⟩) sI sG (by simp;omega) oM oM sI fun e' bx' h1 h2=>?_;simp(disch:=omega) only[go_sem];refine⟨.inr ⟨by simp,e',by simp,by simpa using h1⟩,fun s hs=>?_⟩;rw[h2 s oM (by simp;omega)];simp(disch:=omega) only[aA,if_neg]
def iV(l:List (ah×Nat)):PM:=l.map fun p=>(p.1,.int .i64 (p.2:Int),(p.2:Int))
def num(l:List ah)(s:ah):Int:=if l.contains s then(l.idxOf s:Int)else 0
theorem Aq{l:List ah}(hn:l.Nodup){j:Nat}{c:ah}(h:l[j]? =some c):c∉l.take j:=by
 intro hm;obtain⟨i,hi,hc⟩:=List.mem_iff_getElem.1 hm;obtain⟨hj,hj2⟩:=List.getElem?_eq_some_iff.1 h;rw[List.getElem_take]at hc;simp at hi;have:=(List.getElem_inj hn).1 (hc.trans hj2.symm);omega
theorem IQ(l:List ah)(hn:l.Nodup)(s:ah):∃r,dt .str (.str s) (cn (iV l.zipIdx)) 0=some r/\((r=none/\l.contains s=false/\num l s=0)\/∃j,r=some (j,.int .i64 (num l s))/\l.contains s=true):=by
 rcases lM s (iV l.zipIdx) 0 with⟨h1,h2⟩|⟨j,e,h1,h2,h3⟩
 ·have hs:l.contains s=false:=by
   rw[Bool.eq_false_iff,Ne,List.contains_iff_mem];intro hm;obtain⟨i,hi⟩:=List.mem_iff_getElem?.1 hm;refine h2 (s,.int .i64 (i:Int),(i:Int)) (List.mem_map.2 ⟨(s,i),?_,rfl⟩) rfl;exact List.mem_of_getElem? (i:=i) (by rw[List.getElem?_zipIdx,hi];simp)
  exact⟨none,h1,.inl ⟨rfl,hs,by unfold num;rw[hs];rfl⟩⟩
 ·simp only[iV,List.getElem?_map,List.getElem?_zipIdx,Option.map_map,Option.map_eq_some_iff]at h2;obtain⟨c,hc,rfl⟩:=h2;simp only[Function.comp,Nat.zero_add]at h1 h3;subst h3;have hm:l.contains c=true:=List.contains_iff_mem.2 (List.mem_of_getElem? hc);have hi:l.idxOf c=j:=(rY l j c hc (Aq hn hc)).1;exact⟨_,h1,.inr ⟨j,by simp only[num,hm,if_true,hi,Nat.zero_add],hm⟩⟩
theorem LD{e e2 t t2 s2:Nat}{n:Int}{l:List ah}{bx0:ae}(hn:l.Nodup)(h4:bx0 4=⟨e,1,1,t,[.omap 29 e2]⟩)(h29:bx0 29=⟨e2,3,s2,t2,.int .i64 n::cn (iV l.zipIdx)⟩):
 yA 223 [.loc 4 e 0 0] 30 bx0 l.contains:=by
 intro bx s hb hs;refine aG (fn:=Tryz.f223) (tab:=[]) (base:=100000) mixed ?_ rfl aj rfl;refine aH _ [.tmp 3,.tmp 4] 15 rfl rfl rfl aj ?_;have g4:=(hb 4 oM).trans h4;have g29:=(hb 29 oM).trans h29;obtain⟨r,hr,⟨rfl,hc,_⟩|⟨j,rfl,hc⟩⟩:=IQ l hn s
 ·simp(disch:=omega) only[go_sem,g4,g29,hr];exact⟨⟨_,by rw[hc]⟩,fun _ _=>trivial⟩
 ·simp(disch:=omega) only[go_sem,g4,g29,hr];exact⟨⟨_,by rw[hc]⟩,fun _ _=>trivial⟩
end Go.V.Ty
