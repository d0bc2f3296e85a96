/- Lemmas on plain data and programs: part B15. -/
import Derived.Test.YtkknfajchefgaaaGreatDoorB14
set_option linter.all false
set_option maxHeartbeats 8000000
set_option maxRecDepth 100000
namespace Go.V.Rp
open Go.Proofs Go.RowKit Go.V.Lx Go.V.Gr Go.V.Ty Go.V.St
structure Fix where
 no:Int
 at_:Int
 known:Int
 sp:Int
 first:Int
 last:Int
 words:List ae
 reason:ae
 deriving DecidableEq
@[reducible] def Fix.d(x:Fix):D:=.agg [I x.no,I x.at_,I x.known,I x.sp,I x.first,I x.last,strs x.words,.str x.reason]
structure Rec where
 s:cP
 cn:List Fix
 deriving DecidableEq
@[reducible] def Rec.l(r:Rec):List D:=[I r.s.sources,I r.s.langs,I r.s.chunk,I r.s.quiet,I r.s.late,I r.s.gap,I r.s.most,.sl 6 (r.s.grams.map aA.d),.sl 8 (r.s.cB.map Term.d),.sl 10 (r.s.bG.map cY.d),.sl 5 (r.s.bp.map bn.d),.sl 7 (r.s.cy.map cJ.d),.sl 14 (r.s.aC.map aV.d),.sl 4 (r.s.cr.map bD.d),.sl 8 (r.s.heard.map bL.d),.sl 8 (r.cn.map Fix.d)]
@[reducible] def Rec.d(r:Rec):D:=.agg r.l
def Rec.zero:Rec:=⟨⟨0,0,0,0,0,0,0,[],[],[],[],[],[],[],[]⟩,[]⟩
inductive Item where
 |fU (a b c d e f g:Int)
 |ej (g:aA)
 |term (x:Term)
 |bG (x:cY)
 |ey (x:bn)
 |fV (x:cJ)
 |gF (a b c d e f:Int) (r:Bool) (o w h:Int)
 |gn (x:ia)
 |jw (x:kj)
 |sign (x:Sign)
 |block (x:iK)
 |visit (x:bD)
 |heard (a b c d e f g:Int)
 |word (x:Word)
 |fix (x:Fix)
def Item.row:Item->Nat
 | .fU ..=>1
 | .ej _=>2
 | .term _=>3
 | .bG _=>4
 | .ey _=>5
 | .fV _=>6
 | .gF ..| .gn _| .jw _| .sign _| .block _=>7
 | .visit _=>8
 | .heard ..| .word _=>9
 | .fix _=>10
def Item.part:Item->Nat
 | .gn _| .word _=>1
 | .jw _=>2
 | .sign _=>3
 | .block _=>4
 |_=>0
def ft{α:Type}(f:α->α):List α->List α
 |[]=>[]
 |[x]=>[f x]
 |x::y::l=>x::ft f (y::l)
def eo(s:cP):Item->cP
 | .fU a b c d e f g=>{s with sources:=a,langs:=b,chunk:=c,quiet:=d,late:=e,gap:=f,most:=g,grams:=[aA.zero]}
 | .ej g=>{s with grams:=s.grams++[g]}
 | .term x=>{s with cB:=s.cB++[x]}
 | .bG x=>{s with bG:=s.bG++[x]}
 | .ey x=>{s with bp:=s.bp++[x]}
 | .fV x=>{s with cy:=s.cy++[x]}
 | .gF a b c d e f r o w h=>{s with aC:=s.aC++[⟨a,b,c,d,e,f,r,⟨[],o,[]⟩,[],⟨w,h,[]⟩⟩]}
 | .gn x=>{s with aC:=ft (fun v=>{v with bq:={v.bq with gs:=v.bq.gs++[x]}}) s.aC}
 | .jw x=>{s with aC:=ft (fun v=>{v with bq:={v.bq with ks:=v.bq.ks++[x]}}) s.aC}
 | .sign x=>{s with aC:=ft (fun v=>{v with cz:=v.cz++[x]}) s.aC}
 | .block x=>{s with aC:=ft (fun v=>{v with br:={v.br with bl:=v.br.bl++[x]}}) s.aC}
 | .visit x=>{s with cr:=s.cr++[x]}
 | .heard a b c d e f g=>{s with heard:=s.heard++[⟨a,b,c,d,e,f,g,[]⟩]}
 | .word x=>{s with heard:=ft (fun h=>{h with words:=h.words++[x]}) s.heard}
 | .fix _=>s
def ins(r:Rec):Item->Rec
 | .fix x=>⟨r.s,r.cn++[x]⟩
 |i=>⟨eo r.s i,r.cn⟩
structure Rd where
 r:Rec
 row:Nat
 part:Nat
def Rd.zero:Rd:=⟨Rec.zero,0,0⟩
def dz(row part lr lp:Nat):Bool:=if row<=1 then row==1&&lr==0 else if 0<part then row==lr&&decide (lp<=part)else decide (1<=lr)&&decide (lr<=row)
def push(x:Rd)(i:Item):Option Rd:=if dz i.row i.part x.row x.part then some ⟨ins x.r i,i.row,i.part⟩else none
def vI(v:aV):List Item:=.gF v.no v.bH v.lines v.room v.cells v.speed v.right v.bq.o v.br.w v.br.h::(v.bq.gs.map .gn++v.bq.ks.map .jw++v.cz.map .sign++v.br.bl.map .block)
def hI(h:bL):List Item:=.heard h.at_ h.src h.seq h.sY h.kind h.sR h.cut::h.words.map .word
def items(r:Rec):List Item:=.fU r.s.sources r.s.langs r.s.chunk r.s.quiet r.s.late r.s.gap r.s.most::(r.s.grams.tail.map .ej++r.s.cB.map .term++r.s.bG.map .bG++r.s.bp.map .ey++r.s.cy.map .fV++r.s.aC.flatMap vI++r.s.cr.map .visit++r.s.heard.flatMap hI++r.cn.map .fix)
theorem dL{α:Type}(f:α->α):∀(l:List α) (x:α),ft f (l++[x])=l++[f x]
 |[],x=>rfl
 |[y],x=>rfl
 |y::z::l,x=>by
  show y::ft f ((z::l)++[x])=_;rw[dL f (z::l) x];rfl
structure Inv(x:Rd):Prop where
 r1:1<=x.row
 z:∃l,x.r.s.grams=aA.zero::l
 g2:x.row<2->x.r.s.grams=[aA.zero]
 g3:x.row<3->x.r.s.cB=[]
 g4:x.row<4->x.r.s.bG=[]
 g5:x.row<5->x.r.s.bp=[]
 g6:x.row<6->x.r.s.cy=[]
 g7:x.row<7->x.r.s.aC=[]
 g8:x.row<8->x.r.s.cr=[]
 g9:x.row<9->x.r.s.heard=[]
 g10:x.row<10->x.r.cn=[]
 v:x.row=7->∃l v,x.r.s.aC=l++[v]/\(x.part<1->v.bq.gs=[])/\(x.part<2->v.bq.ks=[])/\(x.part<3->v.cz=[])/\(x.part<4->v.br.bl=[])
 h:x.row=9->∃l h,x.r.s.heard=l++[h]/\(x.part<1->h.words=[])
def ZP{x x':Rd}{i:Item}(h:push x i=some x')(hi:Inv x):Inv x'/\items x'.r=items x.r++[i]:=by
 unfold push at h;split at h
 ·rename_i hf;injection h with h;subst h;obtain⟨⟨s,fx⟩,row,part⟩:=x;obtain⟨r1,⟨gl,z⟩,g2,g3,g4,g5,g6,g7,g8,g9,g10,hv,hh⟩:=hi;simp only at r1 z g2 g3 g4 g5 g6 g7 g8 g9 g10 hv hh hf;cases i with
  |fU a b c d e f g=>replace hf:dz 1 0 row part=true:=hf;grind [dz]
  |ej g=>
   replace hf:dz 2 0 row part=true:=hf;simp[dz]at hf;replace g3:=g3 oM;replace g4:=g4 oM;replace g5:=g5 oM;replace g6:=g6 oM;replace g7:=g7 oM;replace g8:=g8 oM;replace g9:=g9 oM;replace g10:=g10 oM;refine⟨⟨avM,⟨gl++[g],avN⟩,?_,?_,?_,?_,?_,?_,?_,?_,?_,?_,?_⟩,?_⟩<;>simp[ins,eo,items,Item.row,Item.part, *]
  |term g=>
   replace hf:dz 3 0 row part=true:=hf;simp[dz]at hf;replace g4:=g4 oM;replace g5:=g5 oM;replace g6:=g6 oM;replace g7:=g7 oM;replace g8:=g8 oM;replace g9:=g9 oM;replace g10:=g10 oM;refine⟨⟨avM,⟨gl,avN⟩,?_,?_,?_,?_,?_,?_,?_,?_,?_,?_,?_⟩,?_⟩<;>simp[ins,eo,items,Item.row,Item.part, *]
  |bG g=>
   replace hf:dz 4 0 row part=true:=hf;simp[dz]at hf;replace g5:=g5 oM;replace g6:=g6 oM;replace g7:=g7 oM;replace g8:=g8 oM;replace g9:=g9 oM;replace g10:=g10 oM;refine⟨⟨avM,⟨gl,avN⟩,?_,?_,?_,?_,?_,?_,?_,?_,?_,?_,?_⟩,?_⟩<;>simp[ins,eo,items,Item.row,Item.part, *]
  |ey g=>
   replace hf:dz 5 0 row part=true:=hf;simp[dz]at hf;replace g6:=g6 oM;replace g7:=g7 oM;replace g8:=g8 oM;replace g9:=g9 oM;replace g10:=g10 oM;refine⟨⟨avM,⟨gl,avN⟩,?_,?_,?_,?_,?_,?_,?_,?_,?_,?_,?_⟩,?_⟩<;>simp[ins,eo,items,Item.row,Item.part, *]
  |fV g=>
   replace hf:dz 6 0 row part=true:=hf;simp[dz]at hf;replace g7:=g7 oM;replace g8:=g8 oM;replace g9:=g9 oM;replace g10:=g10 oM;refine⟨⟨avM,⟨gl,avN⟩,?_,?_,?_,?_,?_,?_,?_,?_,?_,?_,?_⟩,?_⟩<;>simp[ins,eo,items,Item.row,Item.part, *]
  |gF a b c d e f r o w h=>
   replace hf:dz 7 0 row part=true:=hf;simp[dz]at hf;replace g8:=g8 oM;replace g9:=g9 oM;replace g10:=g10 oM;refine⟨⟨avM,⟨gl,avN⟩,?_,?_,?_,?_,?_,?_,?_,?_,?_,fun _=>⟨s.aC,_,rfl,?_⟩,?_⟩,?_⟩<;>simp[ins,eo,items,Item.row,Item.part,vI, *]
  |gn g=>
   replace hf:dz 7 1 row part=true:=hf;simp[dz]at hf;obtain⟨rfl,hf⟩:=hf;obtain⟨l,v,e,v1,v2,v3,v4⟩:=hv oM;replace g8:=g8 oM;replace g9:=g9 oM;replace g10:=g10 oM;replace v2:=v2 oM;replace v3:=v3 oM;replace v4:=v4 oM;refine⟨⟨avM,⟨gl,avN⟩,?_,?_,?_,?_,?_,?_,?_,?_,?_,fun _=>⟨l,_,auU,?_⟩,?_⟩,?_⟩<;>simp[ins,eo,items,Item.row,Item.part,vI,dL, *]
  |jw g=>
   replace hf:dz 7 2 row part=true:=hf;simp[dz]at hf;obtain⟨rfl,hf⟩:=hf;obtain⟨l,v,e,v1,v2,v3,v4⟩:=hv oM;replace g8:=g8 oM;replace g9:=g9 oM;replace g10:=g10 oM;replace v3:=v3 oM;replace v4:=v4 oM;refine⟨⟨avM,⟨gl,avN⟩,?_,?_,?_,?_,?_,?_,?_,?_,?_,fun _=>⟨l,_,auU,?_⟩,?_⟩,?_⟩<;>simp[ins,eo,items,Item.row,Item.part,vI,dL, *]
  |sign g=>
   replace hf:dz 7 3 row part=true:=hf;simp[dz]at hf;obtain⟨rfl,hf⟩:=hf;obtain⟨l,v,e,v1,v2,v3,v4⟩:=hv oM;replace g8:=g8 oM;replace g9:=g9 oM;replace g10:=g10 oM;replace v4:=v4 oM;refine⟨⟨avM,⟨gl,avN⟩,?_,?_,?_,?_,?_,?_,?_,?_,?_,fun _=>⟨l,_,auU,?_⟩,?_⟩,?_⟩<;>simp[ins,eo,items,Item.row,Item.part,vI,dL, *]
  |block g=>
   replace hf:dz 7 4 row part=true:=hf;simp[dz]at hf;obtain⟨rfl,hf⟩:=hf;obtain⟨l,v,e,v1,v2,v3,v4⟩:=hv oM;replace g8:=g8 oM;replace g9:=g9 oM;replace g10:=g10 oM;refine⟨⟨avM,⟨gl,avN⟩,?_,?_,?_,?_,?_,?_,?_,?_,?_,fun _=>⟨l,_,auU,?_⟩,?_⟩,?_⟩<;>simp[ins,eo,items,Item.row,Item.part,vI,dL, *]
  |visit g=>
   replace hf:dz 8 0 row part=true:=hf;simp[dz]at hf;replace g9:=g9 oM;replace g10:=g10 oM;refine⟨⟨avM,⟨gl,avN⟩,?_,?_,?_,?_,?_,?_,?_,?_,?_,?_,?_⟩,?_⟩<;>simp[ins,eo,items,Item.row,Item.part, *]
  |heard a b c d e f g=>
   replace hf:dz 9 0 row part=true:=hf;simp[dz]at hf;replace g10:=g10 oM;refine⟨⟨avM,⟨gl,avN⟩,?_,?_,?_,?_,?_,?_,?_,?_,?_,?_,fun _=>⟨s.heard,_,rfl,?_⟩⟩,?_⟩<;>simp[ins,eo,items,Item.row,Item.part,hI, *]
  |word g=>
   replace hf:dz 9 1 row part=true:=hf;simp[dz]at hf;obtain⟨rfl,hf⟩:=hf;obtain⟨l,v,e,v1⟩:=hh oM;replace g10:=g10 oM;refine⟨⟨avM,⟨gl,avN⟩,?_,?_,?_,?_,?_,?_,?_,?_,?_,?_,fun _=>⟨l,_,auU,?_⟩⟩,?_⟩<;>simp[ins,eo,items,Item.row,Item.part,hI,dL, *]
  |fix g=>
   refine⟨⟨avM,⟨gl,avN⟩,?_,?_,?_,?_,?_,?_,?_,?_,?_,?_,?_⟩,?_⟩<;>simp[ins,eo,items,Item.row,Item.part, *]
 ·exact awI
def iz(l:List Item)(x:Rd):Option Rd:=l.foldlM push x
theorem xA(x:Rd):iz [] x=some x:=rfl
theorem lK(i:Item)(l:List Item)(x:Rd):iz (i::l) x=(push x i).bind (iz l):=by simp[iz,akA];rfl
theorem Be(a b:List Item)(x:Rd):iz (a++b) x=(iz a x).bind (iz b):=by simp[iz,List.foldlM_append];rfl
theorem OD:∀ {l:List Item} {x x':Rd},Inv x->iz l x=some x'->Inv x'/\items x'.r=items x.r++l
 |[],x,x',hi,h=>by grind [xA]
 |i::l,x,x',hi,h=>by
  rw[lK]at h;cases hp:push x i with
  |none=>grind
  |some y=>
   rw[hp]at h;obtain⟨h1,h2⟩:=ZP hp hi;obtain⟨h3,h4⟩:=OD h1 h
   exact awN
theorem K7{l:List Item}{x:Rd}(h:iz l Rd.zero=some x)(hl:l≠[]):Inv x/\items x.r=l:=by
 cases l with
 |nil=>grind
 |cons i l=>
  rw[lK]at h;have hf:∀r p,dz r p 0 0=true->r=1:=fun r p hf=>by grind [dz]
  cases hp:push Rd.zero i with
  |none=>grind
  |some y=>
   rw[hp]at h;unfold push at hp;split at hp
   ·rename_i h1;injection hp with hp;subst hp;have hr:=hf _ _ h1;cases i with
    |fU a b c d e f g=>
     have hi:Inv ⟨ins Rd.zero.r (.fU a b c d e f g),1,0⟩:=by refine⟨aaN _,⟨[],rfl⟩,fun _=>rfl,fun _=>rfl,fun _=>rfl,fun _=>rfl,fun _=>rfl,fun _=>rfl,fun _=>rfl,fun _=>rfl,fun _=>rfl,fun h=>?_,fun h=>?_⟩<;>simp at h
     obtain⟨h3,h4⟩:=OD hi h;exact⟨h3,h4⟩
    |_=>simp[Item.row]at hr
   ·exact awA
def D2{x:Rd}{i:Item}(h:dz i.row i.part x.row x.part=true):push x i=some ⟨ins x.r i,i.row,i.part⟩:=aaO h
theorem K_{α:Type}(C:α->Item)(k:Nat)(add:Rec->List α->Rec)(h0:∀r,add r []=r)(h1:∀r a l,add (ins r (C a)) l=add r (a::l))(hr:∀a,(C a).row=k)(hp:∀a,(C a).part=0)(hk:2<=k):∀(l:List α) (x:Rd),1<=x.row->x.row<=k->
 ∃row part,1<=row/\row<=k/\iz (l.map C) x=some ⟨add x.r l,row,part⟩
 |[],x,h2,h3=>⟨x.row,x.part,h2,h3,by rw[h0];rfl⟩
 |a::l,x,h2,h3=>by
  obtain⟨row,part,g1,g2,g3⟩:=K_ C k add h0 h1 hr hp hk l ⟨ins x.r (C a),k,0⟩ awN (aaN _);refine⟨row,part,g1,g2,?_⟩;rw[abk,lK,D2 (by rw[hr,hp];unfold dz;grind),hr,hp]
  exact awN
theorem Jb{α:Type}(C:α->Item)(k p:Nat)(add:Rec->List α->Rec)(h0:∀r,add r []=r)(h1:∀r a l,add (ins r (C a)) l=add r (a::l))(hr:∀a,(C a).row=k)(hp:∀a,(C a).part=p)(hk:2<=k)(Kh:0<p):∀(l:List α) (r:Rec) (q:Nat),q<=p->
 ∃part,part<=p/\iz (l.map C) ⟨r,k,q⟩=some ⟨add r l,k,part⟩
 |[],r,q,h2=>⟨q,h2,by rw[h0];rfl⟩
 |a::l,r,q,h2=>by
  obtain⟨part,g1,g2⟩:=Jb C k p add h0 h1 hr hp hk Kh l (ins r (C a)) p (aaN _);refine⟨part,g1,?_⟩;rw[abk,lK,D2 (by rw[hr,hp];unfold dz;grind),hr,hp]
  exact awN
theorem C7{α:Type}{f:α->α}(h:∀x,f x=x):∀l:List α,ft f l=l
 |[]=>rfl
 |[x]=>by simp[ft,h]
 |x::y::l=>by simp only[ft];rw[C7 h (y::l)]
theorem yG{α:Type}(f g:α->α):∀l:List α,ft f (ft g l)=ft (fun x=>f (g x)) l
 |[]=>rfl
 |[x]=>rfl
 |[x,y]=>rfl
 |x::y::z::l=>by
  have:=yG f g (y::z::l)
  grind [ft]
def jK(r:Rec)(f:aV->aV):Rec:=⟨{r.s with aC:=ft f r.s.aC},r.cn⟩
def Br{r:Rec}{f:aV->aV}(h:∀v,f v=v):jK r f=r:=by unfold jK;rw[C7 h]
def tu(r:Rec)(f g:aV->aV):jK (jK r g) f=jK r fun v=>f (g v):=by grind [jK,yG]
def XB{r:Rec}{l:List aV}{v:aV}(h:r.s.aC=l++[v])(f:aV->aV):jK r f=⟨{r.s with aC:=l++[f v]},r.cn⟩:=by grind [jK,dL]
def iJ{a b:List Item}{x y z:Rd}(h1:iz a x=some y)(h2:iz b y=some z):iz (a++b) x=some z:=by grind [Be]
def ai6(v:aV)(x:Rd)(h1:1<=x.row)(h2:x.row<=7):∃part,iz (vI v) x=some ⟨⟨{x.r.s with aC:=x.r.s.aC++[v]},x.r.cn⟩,7,part⟩:=by
 unfold vI;rw[lK,D2 (by show dz 7 0 _ _=true;grind [dz])];show ∃part,iz _ ⟨ins x.r _,7,0⟩=_;obtain⟨p1,g1,e1⟩:=Jb Item.gn 7 1 (fun r l=>jK r fun v=>{v with bq:={v.bq with gs:=v.bq.gs++l}}) (fun r=>Br fun v=>sI) (fun r a l=>aus) (fun _=>rfl) (fun _=>rfl) oM oM v.bq.gs (ins x.r (.gF v.no v.bH v.lines v.room v.cells v.speed v.right v.bq.o v.br.w v.br.h)) 0 oM;obtain⟨p2,g2,e2⟩:=Jb Item.jw 7 2 (fun r l=>jK r fun v=>{v with bq:={v.bq with ks:=v.bq.ks++l}}) (fun r=>Br fun v=>sI) (fun r a l=>aus) (fun _=>rfl) (fun _=>rfl) oM oM v.bq.ks _ p1 oM;obtain⟨p3,g3,e3⟩:=Jb Item.sign 7 3 (fun r l=>jK r fun v=>{v with cz:=v.cz++l}) (fun r=>Br fun v=>sI) (fun r a l=>aus) (fun _=>rfl) (fun _=>rfl) oM oM v.cz _ p2 oM;obtain⟨p4,g4,e4⟩:=Jb Item.block 7 4 (fun r l=>jK r fun v=>{v with br:={v.br with bl:=v.br.bl++l}}) (fun r=>Br fun v=>sI) (fun r a l=>aus) (fun _=>rfl) (fun _=>rfl) oM oM v.br.bl _ p3 oM;refine⟨p4,(iJ (iJ (iJ e1 e2) e3) e4).trans ?_⟩;simp only[tu];rw[XB (l:=x.r.s.aC) (show(ins x.r _).s.aC=_ from rfl)];simp[ins,eo]
theorem W6:∀(l:List aV) (x:Rd),1<=x.row->x.row<=7->∃row part,1<=row/\row<=7/\iz (l.flatMap vI) x=some ⟨⟨{x.r.s with aC:=x.r.s.aC++l},x.r.cn⟩,row,part⟩
 |[],x,h1,h2=>⟨x.row,x.part,h1,h2,by simp[xA]⟩
 |v::l,x,h1,h2=>by
  obtain⟨p,e⟩:=ai6 v x h1 h2;obtain⟨row,part,g1,g2,g3⟩:=W6 l ⟨⟨{x.r.s with aC:=x.r.s.aC++[v]},x.r.cn⟩,7,p⟩ awN (aaN _)
  grind [Be,vI]
def tt(r:Rec)(f:bL->bL):Rec:=⟨{r.s with heard:=ft f r.s.heard},r.cn⟩
def aao{r:Rec}{f:bL->bL}(h:∀v,f v=v):tt r f=r:=by unfold tt;rw[C7 h]
def T1(r:Rec)(f g:bL->bL):tt (tt r g) f=tt r fun v=>f (g v):=by grind [tt,yG]
def XA{r:Rec}{l:List bL}{v:bL}(h:r.s.heard=l++[v])(f:bL->bL):tt r f=⟨{r.s with heard:=l++[f v]},r.cn⟩:=by grind [tt,dL]
def ai5(v:bL)(x:Rd)(h1:1<=x.row)(h2:x.row<=9):∃part,iz (hI v) x=some ⟨⟨{x.r.s with heard:=x.r.s.heard++[v]},x.r.cn⟩,9,part⟩:=by
 unfold hI;rw[lK,D2 (by show dz 9 0 _ _=true;grind [dz])];show ∃part,iz _ ⟨ins x.r _,9,0⟩=_;obtain⟨p1,g1,e1⟩:=Jb Item.word 9 1 (fun r l=>tt r fun v=>{v with words:=v.words++l}) (fun r=>aao fun v=>sI) (fun r a l=>by show tt (tt r _) _=_;rw[T1];simp) (fun _=>rfl) (fun _=>rfl) oM oM v.words (ins x.r (.heard v.at_ v.src v.seq v.sY v.kind v.sR v.cut)) 0 oM;refine⟨p1,e1.trans ?_⟩;rw[XA (l:=x.r.s.heard) (show(ins x.r _).s.heard=_ from rfl)];simp[ins,eo]
theorem W4:∀(l:List bL) (x:Rd),1<=x.row->x.row<=9->∃row part,1<=row/\row<=9/\iz (l.flatMap hI) x=some ⟨⟨{x.r.s with heard:=x.r.s.heard++l},x.r.cn⟩,row,part⟩
 |[],x,h1,h2=>⟨x.row,x.part,h1,h2,by simp[xA]⟩
 |v::l,x,h1,h2=>by
  obtain⟨p,e⟩:=ai5 v x h1 h2;obtain⟨row,part,g1,g2,g3⟩:=W4 l ⟨⟨{x.r.s with heard:=x.r.s.heard++[v]},x.r.cn⟩,9,p⟩ awN (aaN _);refine⟨row,part,g1,g2,?_⟩
  grind [Be]
def Dj{r:Rec}{gl:List aA}(hg:r.s.grams=aA.zero::gl):∃row part,iz (items r) Rd.zero=some ⟨r,row,part⟩:=by
 have e0:iz [.fU r.s.sources r.s.langs r.s.chunk r.s.quiet r.s.late r.s.gap r.s.most] Rd.zero=some ⟨ins Rec.zero (.fU r.s.sources r.s.langs r.s.chunk r.s.quiet r.s.late r.s.gap r.s.most),1,0⟩:=rfl;obtain⟨a2,b2,l2,u2,e2⟩:=K_ Item.ej 2 (fun r l=>⟨{r.s with grams:=r.s.grams++l},r.cn⟩) (fun r=>sI) (fun r a l=>av5) (fun _=>rfl) (fun _=>rfl) oM r.s.grams.tail ⟨ins Rec.zero (.fU r.s.sources r.s.langs r.s.chunk r.s.quiet r.s.late r.s.gap r.s.most),1,0⟩ (aaN _) awN;obtain⟨a3,b3,l3,u3,e3⟩:=K_ Item.term 3 (fun r l=>⟨{r.s with cB:=r.s.cB++l},r.cn⟩) (fun r=>sI) (fun r a l=>av5) (fun _=>rfl) (fun _=>rfl) oM r.s.cB ⟨_,a2,b2⟩ l2 (by show a2<=3;omega);obtain⟨a4,b4,l4,u4,e4⟩:=K_ Item.bG 4 (fun r l=>⟨{r.s with bG:=r.s.bG++l},r.cn⟩) (fun r=>sI) (fun r a l=>av5) (fun _=>rfl) (fun _=>rfl) oM r.s.bG ⟨_,a3,b3⟩ l3 (by show a3<=4;omega);obtain⟨a5,b5,l5,u5,e5⟩:=K_ Item.ey 5 (fun r l=>⟨{r.s with bp:=r.s.bp++l},r.cn⟩) (fun r=>sI) (fun r a l=>av5) (fun _=>rfl) (fun _=>rfl) oM r.s.bp ⟨_,a4,b4⟩ l4 (by show a4<=5;omega);obtain⟨a6,b6,l6,u6,e6⟩:=K_ Item.fV 6 (fun r l=>⟨{r.s with cy:=r.s.cy++l},r.cn⟩) (fun r=>sI) (fun r a l=>av5) (fun _=>rfl) (fun _=>rfl) oM r.s.cy ⟨_,a5,b5⟩ l5 (by show a5<=6;omega);obtain⟨a7,b7,l7,u7,e7⟩:=W6 r.s.aC ⟨_,a6,b6⟩ l6 (by show a6<=7;omega);obtain⟨a8,b8,l8,u8,e8⟩:=K_ Item.visit 8 (fun r l=>⟨{r.s with cr:=r.s.cr++l},r.cn⟩) (fun r=>sI) (fun r a l=>av5) (fun _=>rfl) (fun _=>rfl) oM r.s.cr ⟨_,a7,b7⟩ l7 (by show a7<=8;omega);obtain⟨a9,b9,l9,u9,e9⟩:=W4 r.s.heard ⟨_,a8,b8⟩ l8 (by show a8<=9;omega);obtain⟨a10,b10,l10,u10,e10⟩:=K_ Item.fix 10 (fun r l=>⟨r.s,r.cn++l⟩) (fun r=>sI) (fun r a l=>by simp[ins]) (fun _=>rfl) (fun _=>rfl) oM r.cn ⟨_,a9,b9⟩ l9 (by show a9<=10;omega);refine⟨a10,b10,(iJ e0 (iJ (iJ (iJ (iJ (iJ (iJ (iJ (iJ e2 e3) e4) e5) e6) e7) e8) e9) e10)).trans ?_⟩;obtain⟨s,fx⟩:=r;obtain⟨_,_,_,_,_,_,_,gs,_,_,_,_,_,_,_⟩:=s
 grind [ins,eo,Rec.zero]
structure j9 where
 gp:aA->ae
 gr:ae->Option aA
 wB:ae->Bool
 tj:List Int->Option ae
 tr:ae->List Int
def iT(n:Int):Prop:=0<=n/\n<=1099511627776
instance(n:Int):Decidable (iT n):=inferInstanceAs (Decidable (_/\_))
structure j9.Ok(p:j9):Prop where
 g1:∀s g,p.gr s=some g->p.gp g=s
 w1:∀s,p.wB s=true->(32:UInt8)∉s
 t1:∀l s,p.tj l=some s->p.tr s=l
 n1:∀v,iT v->Lib.atoiAll (Lib.itoa v)= .ok v
 n2:∀v,iT v->(32:UInt8)∉Lib.itoa v
abbrev it(n:Int):ae:=Lib.itoa n
def dA(s:ae):Option Int:=match Lib.atoiAll s with
 | .ok v=>if iT v/\Lib.itoa v=s then some v else none
 |_=>none
def fL:ae->List ae
 |[]=>[[]]
 |c::s=>if c=32 then[]::fL s else match fL s with
  |[]=>[[c]]
  |x::l=>(c::x)::l
def lF(l:List ae):ae:=Lib.join l [32]
theorem px(x:ae):lF [x]=x:=Lib.join_one _ _
theorem lW(x y:ae)(l:List ae):lF (x::y::l)=x++32::lF (y::l):=by grind [lF,Lib.join_cons,Lib.joinTail]
theorem zV:∀s,fL s≠[]
 :=by intro a;induction a<;>grind [fL]
theorem rJ:∀s,lF (fL s)=s
 |[]=>px []
 |c::s=>by
  have ih:=rJ s;unfold fL;split
  ·rename_i h;cases hs:fL s<;>grind [zV,lW]
  ·cases hs:fL s with
   |nil=>grind [zV]
   |cons x l=>
    rw[hs]at ih;cases l<;>grind [px,lW]
theorem RC:∀ {x:ae},(32:UInt8)∉x->fL x=[x]
 :=by intro a;induction a<;>simp_all[fL,Ne.symm]
def RA:∀ {x:ae} (s:ae),(32:UInt8)∉x->fL (x++32::s)=x::fL s
 :=by intro a;induction a<;>simp_all[fL,Ne.symm]
theorem Je:∀ {l:List ae},l≠[]->(∀x∈l,(32:UInt8)∉x)->fL (lF l)=l
 |[],h,_=>absurd rfl h
 |[x],_,h=>by grind [px,RC]
 |x::y::l,_,h=>by rw[lW,RA _ (h x sI),Je sI fun z hz=>h z (aa2 _ hz)]
theorem OR:∀(s:ae),∀x∈fL s,(32:UInt8)∉x
 |[],x,hx=>by grind [fL]
 |c::s,x,hx=>by
  have ih:=OR s;unfold fL at hx
  exact awN
def KD{p:j9}(ok:p.Ok){s:ae}{v:Int}:dA s=some v<->iT v/\s=it v:=by
 unfold dA;constructor
 ·exact awN
 ·rintro⟨h,rfl⟩;rw[ok.n1 v h]
  exact awN
theorem jy{p:j9}(ok:p.Ok):∀ {fs:List ae} {l:List Int},fs.mapM dA=some l<->fs=l.map it/\∀n∈l,iT n
 |[],l=>awy
 |s::fs,l=>by
  rw[amq];constructor
  ·intro h;cases h1:dA s with
   |none=>grind
   |some v=>
    cases h2:fs.mapM dA with
    |none=>grind
    |some l2=>
     rw[h1,h2]at h;injection h with h;subst h;obtain⟨g1,g2⟩:=(KD ok).1 h1;obtain⟨g3,g4⟩:=(jy ok).1 h2
     exact awN
  ·rintro⟨h,hl⟩;cases l with
   |nil=>cases h
   |cons v l=>
    injection h with h h';rw[(KD ok).2 ⟨hl v sI,h⟩,(jy ok).2 ⟨h',fun n hn=>hl n (aa2 _ hn)⟩];rfl
def cu(k:Nat)(fs:List ae):Option (List Int):=if fs.length=k then fs.mapM dA else none
def ea(k:Nat)(fs:List ae):Option (List Int):=if k<=fs.length then(fs.take k).mapM dA else none
theorem AR{p:j9}(ok:p.Ok){k:Nat}{fs:List ae}{l:List Int}:cu k fs=some l<->l.length=k/\fs=l.map it/\∀n∈l,iT n:=by
 unfold cu;constructor
 ·grind [jy]
 ·rintro⟨h1,h2,h3⟩;rw[aaO awN]
  grind [jy]
theorem wo{p:j9}(ok:p.Ok){k:Nat}{fs:List ae}{l:List Int}:ea k fs=some l<->l.length=k/\fs=l.map it++fs.drop k/\∀n∈l,iT n:=by
 unfold ea;constructor
 ·intro h;split at h
  ·rename_i hk;obtain⟨h1,h2⟩:=(jy ok).1 h;refine⟨?_,?_,h2⟩
   ·have:=aaR List.length h1;exact awN
   exact auD
  ·exact awI
 ·rintro⟨h1,h2,h3⟩;have hl:(l.map it).length=k:=awN
  have ht:fs.take k=l.map it:=awN
  rw[aaO awN,ht];exact(jy ok).2 ⟨rfl,h3⟩
variable {p:j9}
def CP:ae:=[115,101,116,117,112]
def kD:ae:=[103,114,97,109,109,97,114]
def G4:ae:=[116,101,114,109]
def CO:ae:=[104,111,117,115,101]
def zC:ae:=[98,117,100,103,101,116]
def CQ:ae:=[116,114,97,100,101]
def zD:ae:=[118,105,101,119,101,114]
def CM:ae:=[103,108,121,112,104]
def G2:ae:=[107,101,114,110]
def G3:ae:=[115,105,103,110]
def xk:ae:=[98,108,111,99,107,101,100]
def CR:ae:=[118,105,115,105,116]
def CN:ae:=[104,101,97,114,100]
def G5:ae:=[119,111,114,100]
def NS:ae:=[102,105,120]
def Item.w:Item->ae
 | .fU ..=>CP
 | .ej _=>kD
 | .term _=>G4
 | .bG _=>CO
 | .ey _=>zC
 | .fV _=>CQ
 | .gF ..=>zD
 | .gn _=>CM
 | .jw _=>G2
 | .sign _=>G3
 | .block _=>xk
 | .visit _=>CR
 | .heard ..=>CN
 | .word _=>G5
 | .fix _=>NS
def bN(b:Bool):Int:=if b then 1 else 0
def Item.ns(p:j9):Item->List Int
 | .fU a b c d e f g=>[a,b,c,d,e,f,g]
 | .ej g=>[]
 | .term x=>[x.no,x.at_,x.known,x.bH,(x.src.length:Int)]
 | .bG x=>[x.no,x.kind,x.sp+1,x.first,x.last,x.bH+1,x.from_,x.HV,x.known,x.ms]
 | .ey x=>[x.bH,x.m0,x.m1,x.m2,x.m3]
 | .fV x=>[x.no,x.at_,x.known,x.LS,x.from_,x.RI,x.ms]
 | .gF a b c d e f r o w h=>[a,b,c,d,e,f,bN r,o,w,h]
 | .gn x=>[x.f,x.t,x.w]
 | .jw x=>[x.a,x.b,x.y+4096]
 | .sign x=>((p.tr x.t).length:Int)::(p.tr x.t++x.c)
 | .block x=>[x.x,x.y,x.w,x.h]
 | .visit x=>[x.at_,x.jB,x.kind,x.bH]
 | .heard a b c d e f g=>[a,b,c,d,e,f,g]
 | .word x=>[x.f,x.u,x.s]
 | .fix x=>[x.no,x.at_,x.known,x.sp,x.first,x.last]
def Item.ts(p:j9):Item->List ae
 | .ej g=>fL (p.gp g)
 | .term x=>x.src++if x.gone then[]else x.cat::x.vn
 | .word x=>x.t::x.alts
 | .fix x=>x.reason::x.words
 |_=>[]
def Item.f(p:j9)(i:Item):List ae:=(i.ns p).map it++i.ts p
def d_(p:j9)(i:Item):ae:=lF (i.w::i.f p)
def eu(p:j9)(l:List Item):ae:=(l.map fun i=>d_ p i++[10]).flatten
def LK(p:j9)(fs:List ae):Option Item:=(p.gr (lF fs)).map .ej
def LO(p:j9)(fs:List ae):Option Item:=match ea 5 fs with
 |some [a,b,c,d,n]=>if n<=(fs.length:Int) - 5/\(fs.drop 5).all p.wB=true then some (.term (match(fs.drop 5).drop n.toNat with
  |[]=>⟨a,b,c,d,(fs.drop 5).take n.toNat,[],[],true⟩
  |x::l=>⟨a,b,c,d,(fs.drop 5).take n.toNat,l,x,false⟩))else none
 |_=>none
def LM(p:j9)(fs:List ae):Option Item:=match fs.mapM dA with
 |some (n::l)=>if n<=(l.length:Int)then(p.tj (l.take n.toNat)).map fun s=> .sign ⟨s,l.drop n.toNat⟩else none
 |_=>none
def LP(p:j9)(fs:List ae):Option Item:=match ea 3 fs with
 |some [a,b,c]=>if(fs.drop 3).all p.wB=true then(match fs.drop 3 with
  |[]=>none
  |x::l=>some (.word ⟨x,a,b,c,l⟩))else none
 |_=>none
def Ts(p:j9)(fs:List ae):Option Item:=match ea 6 fs with
 |some [a,b,c,d,e,f]=>if(fs.drop 6).all p.wB=true then(match fs.drop 6 with
  |[]=>none
  |x::l=>some (.fix ⟨a,b,c,d,e,f,l,x⟩))else none
 |_=>none
def LL(w:ae)(fs:List ae):Option Item:=
 if w=CP then(match cu 7 fs with
  |some [a,b,c,d,e,f,g]=>some (.fU a b c d e f g)
  |_=>none)
 else if w=CO then(match cu 10 fs with
  |some [a,b,c,d,e,f,g,h,i,j]=>some (.bG ⟨a,b,c - 1,d,e,f - 1,g,h,i,j⟩)
  |_=>none)
 else if w=zC then(match cu 5 fs with
  |some [a,b,c,d,e]=>some (.ey ⟨a,b,c,d,e⟩)
  |_=>none)
 else if w=CQ then(match cu 7 fs with
  |some [a,b,c,d,e,f,g]=>some (.fV ⟨a,b,c,d,e,f,g⟩)
  |_=>none)
 else if w=zD then(match cu 10 fs with
  |some [a,b,c,d,e,f,g,h,i,j]=>if g<=1 then some (.gF a b c d e f (decide (g=1)) h i j)else none
  |_=>none)
 else if w=CM then(match cu 3 fs with
  |some [a,b,c]=>some (.gn ⟨a,b,c⟩)
  |_=>none)
 else if w=G2 then(match cu 3 fs with
  |some [a,b,c]=>some (.jw ⟨a,b,c - 4096⟩)
  |_=>none)
 else if w=xk then(match cu 4 fs with
  |some [a,b,c,d]=>some (.block ⟨a,b,c,d⟩)
  |_=>none)
 else if w=CR then(match cu 4 fs with
  |some [a,b,c,d]=>some (.visit ⟨a,b,c,d⟩)
  |_=>none)
 else if w=CN then(match cu 7 fs with
  |some [a,b,c,d,e,f,g]=>some (.heard a b c d e f g)
  |_=>none)
 else none
def eM(p:j9)(w:ae)(fs:List ae):Option Item:=
 if w=kD then LK p fs else if w=G4 then LO p fs else if w=G3 then LM p fs else if w=G5 then LP p fs else if w=NS then Ts p fs else LL w fs
def fC(p:j9)(i:Item):Prop:=(∀n∈i.ns p,iT n)/\match i with
 | .ej g=>p.gr (p.gp g)=some g
 | .term x=>(∀s∈(Item.term x).ts p,p.wB s=true)/\(x.gone=true->x.vn=[]/\x.cat=[])
 | .sign x=>p.tj (p.tr x.t)=some x.t
 | .word x=>∀s∈(Item.word x).ts p,p.wB s=true
 | .fix x=>∀s∈(Item.fix x).ts p,p.wB s=true
 |_=>True
def adQ(r:Bool):bN r<=1/\decide (bN r=1)=r:=by cases r<;>simp[bN]
def abO{l:List Int}{k:Nat}(h:l.length=k)(ts:List ae):(l.map it++ts).drop k=ts:=av6
def Ro(ok:p.Ok){i:Item}(h:fC p i):eM p i.w (i.f p)=some i:=by
 obtain⟨h1,h2⟩:=h;have hE:∀k,(i.ns p).length=k->i.ts p=[]->cu k (i.f p)=some (i.ns p):=fun k hk ht=>(AR ok).2 ⟨hk,by simp[Item.f,ht],h1⟩;have hN:∀k,(i.ns p).length=k->ea k (i.f p)=some (i.ns p)/\(i.f p).drop k=i.ts p:=fun k hk=>⟨(wo ok).2 ⟨hk,by grind [Item.f],h1⟩,abO hk _⟩
 cases i with
 |ej g=>
  have h2:p.gr (p.gp g)=some g:=h2;show LK p (fL (p.gp g))=_
  grind [LK,rJ]
 |term x=>
  obtain⟨g1,g2⟩:=hN 5 rfl;show LO p _=_;unfold LO;rw[g1,g2];obtain⟨a,b,c,d,src,vn,cat,gone⟩:=x;have hl:((Item.term ⟨a,b,c,d,src,vn,cat,gone⟩).f p).length=5+((Item.term ⟨a,b,c,d,src,vn,cat,gone⟩).ts p).length:=by grind [Item.f,Item.ns]
  simp only[Item.ns];rw[hl,aaO ⟨by grind [Item.ts],awN⟩];simp only[Item.ts,ae3,List.take_left,akO]
  exact awN
 |sign x=>
  show LM p _=_;unfold LM;have:((Item.sign x).f p).mapM dA=some ((Item.sign x).ns p):=(jy ok).2 ⟨by simp[Item.f,Item.ts],h1⟩;rw[this];have h2:p.tj (p.tr x.t)=some x.t:=h2;simp only[Item.ns,ae3,List.take_left,akO];rw[aaO awe,h2];rfl
 |word x=>
  obtain⟨g1,g2⟩:=hN 3 rfl;show LP p _=_;unfold LP;exact arA
 |fix x=>
  obtain⟨g1,g2⟩:=hN 6 rfl;show Ts p _=_;unfold Ts;exact arA
 |fU a b c d e f g=>show(match cu 7 _ with|some [a,b,c,d,e,f,g]=>_|_=>_)=_;rw[hE 7 rfl rfl];rfl
 |bG x=>show(match cu 10 _ with|some [a,b,c,d,e,f,g,h,i,j]=>_|_=>_)=_;rw[hE 10 rfl rfl];simp[Item.ns]
 |ey x=>show(match cu 5 _ with|some [a,b,c,d,e]=>_|_=>_)=_;rw[hE 5 rfl rfl];rfl
 |fV x=>show(match cu 7 _ with|some [a,b,c,d,e,f,g]=>_|_=>_)=_;rw[hE 7 rfl rfl];rfl
 |gF a b c d e f r o w h=>show(match cu 10 _ with|some [a,b,c,d,e,f,g,h,i,j]=>_|_=>_)=_;rw[hE 10 rfl rfl];simp[Item.ns,adQ]
 |gn x=>show(match cu 3 _ with|some [a,b,c]=>_|_=>_)=_;rw[hE 3 rfl rfl];rfl
 |jw x=>show(match cu 3 _ with|some [a,b,c]=>_|_=>_)=_;rw[hE 3 rfl rfl];simp[Item.ns]
 |block x=>show(match cu 4 _ with|some [a,b,c,d]=>_|_=>_)=_;rw[hE 4 rfl rfl];rfl
 |visit x=>show(match cu 4 _ with|some [a,b,c,d]=>_|_=>_)=_;rw[hE 4 rfl rfl];rfl
 |heard a b c d e f g=>show(match cu 7 _ with|some [a,b,c,d,e,f,g]=>_|_=>_)=_;rw[hE 7 rfl rfl];rfl
def afP{k:Nat}{fs:List ae}{l:List Int}(ok:p.Ok)(h:cu k fs=some l)(i:Item)(hn:i.ns p=l)(ht:i.ts p=[]):fs=i.f p/\∀n∈i.ns p,iT n:=by grind [AR,Item.f]
def Tg{k:Nat}{fs:List ae}{l:List Int}(ok:p.Ok)(h:ea k fs=some l)(i:Item)(hn:i.ns p=l)(ht:i.ts p=fs.drop k):fs=i.f p/\∀n∈i.ns p,iT n:=by grind [wo,Item.f]
def AL{k:Nat}{w:ae}{fs:List ae}{l:List Int}{i:Item}(ok:p.Ok)(h:cu k fs=some l)(hw:w=i.w)(hn:i.ns p=l)(ht:i.ts p=[])(hx:(∀n∈i.ns p,iT n)->fC p i):w=i.w/\fs=i.f p/\fC p i:=
 let ⟨g1,g2⟩:=afP ok h i hn ht
 ⟨hw,g1,hx g2⟩
def acA(ok:p.Ok){w:ae}{fs:List ae}{i:Item}(h:LL w fs=some i):w=i.w/\fs=i.f p/\fC p i:=by
 unfold LL at h;split at h
 ·rename_i hw;split at h
  ·exact aqL
  ·exact awI
 split at h
 ·rename_i hw;split at h
  ·exact aqC
  ·exact awI
 split at h
 ·rename_i hw;split at h
  ·exact aqL
  ·exact awI
 split at h
 ·rename_i hw;split at h
  ·exact aqL
  ·exact awI
 split at h
 ·rename_i hw;split at h
  ·rename_i a b c d e f g h' i' j he;split at h
   ·rename_i hg;injection h with h;subst h;have nw:=((AR ok).1 he).2.2 g sI;have hb:bN (decide (g=1))=g:=by
     by_cases h1:g=1
     ·simp[h1,bN]
     ·simp[h1,bN];have:=nw.1;exact oM
    obtain⟨g1,g2⟩:=afP ok he (.gF a b c d e f (decide (g=1)) h' i' j) (by simp[Item.ns,hb]) rfl;exact⟨hw,g1,g2,trivial⟩
   ·exact awI
  ·exact awI
 split at h
 ·rename_i hw;split at h
  ·exact aqL
  ·exact awI
 split at h
 ·rename_i hw;split at h
  ·exact aqC
  ·exact awI
 split at h
 ·rename_i hw;split at h
  ·exact aqL
  ·exact awI
 split at h
 ·rename_i hw;split at h
  ·exact aqL
  ·exact awI
 split at h
 ·rename_i hw;split at h
  ·exact aqL
  ·exact awI
 ·exact awI
def acJ(ok:p.Ok){w:ae}{fs:List ae}{i:Item}(hs:∀x∈fs,(32:UInt8)∉x)(h0:fs≠[])(h:eM p w fs=some i):w=i.w/\fs=i.f p/\fC p i:=by
 unfold eM at h;split at h
 ·rename_i hw;unfold LK at h;rw[aav]at h;obtain⟨g,hg,rfl⟩:=h;have e:=ok.g1 _ _ hg;refine⟨hw,?_,fun n hn=>by simp[Item.ns]at hn,awN⟩;show fs=[]++fL (p.gp g)
  grind [Je]
 split at h
 ·rename_i hw;unfold LO at h;split at h
  ·rename_i a b c d n he;split at h
   ·rename_i hc;have nw:=((wo ok).1 he).2.2 n sI;have hlen:n.toNat<=(fs.drop 5).length:=awN
    have uW:(((fs.drop 5).take n.toNat).length:Int)=n:=by rw[afd,aks hlen];have:=nw.1;omega
    injection h with h;subst h;cases hd:(fs.drop 5).drop n.toNat with
    |nil=>
     obtain⟨g1,g2⟩:=Tg ok he (.term ⟨a,b,c,d,(fs.drop 5).take n.toNat,[],[],true⟩) (by grind [Item.ns]) (by
      simp only[Item.ts,abo]
      grind [List.take_append_drop])
     exact⟨hw,g1,g2,fun s dq=>aaI.1 hc.2 s (akp (by simpa[Item.ts]using dq)),fun _=>⟨rfl,rfl⟩⟩
    |cons x l=>
     have ht:(Item.term ⟨a,b,c,d,(fs.drop 5).take n.toNat,l,x,false⟩).ts p=fs.drop 5:=by
      simp only[Item.ts,aew,aa_]
      exact auD
     obtain⟨g1,g2⟩:=Tg ok he (.term ⟨a,b,c,d,(fs.drop 5).take n.toNat,l,x,false⟩) (by grind [Item.ns]) ht;exact⟨hw,g1,g2,fun s dq=>aaI.1 hc.2 s awN,fun h=>awI⟩
   ·exact awI
  ·exact awI
 split at h
 ·rename_i hw;unfold LM at h;split at h
  ·rename_i n l he;split at h
   ·rename_i hc;rw[aav]at h;obtain⟨s,dq,rfl⟩:=h;obtain⟨g1,g2⟩:=(jy ok).1 he;have nw:=g2 n sI;have e:=ok.t1 _ _ dq;have hl:((l.take n.toNat).length:Int)=n:=by rw[afd];have:=nw.1;omega
    have VR:(Item.sign ⟨s,l.drop n.toNat⟩).ns p=n::l:=by grind [Item.ns,List.take_append_drop]
    exact⟨hw,by grind [Item.f,Item.ts],awN,awN⟩
   ·exact awI
  ·exact awI
 split at h
 ·rename_i hw;unfold LP at h;split at h
  ·rename_i a b c he;split at h
   ·rename_i hc;cases hd:fs.drop 3 with
    |nil=>grind
    |cons x l=>
     rw[hd]at h;injection h with h;subst h;obtain⟨g1,g2⟩:=Tg ok he (.word ⟨x,a,b,c,l⟩) rfl (by rw[hd];rfl);exact arh
   ·exact awI
  ·exact awI
 split at h
 ·rename_i hw;unfold Ts at h;split at h
  ·rename_i a b c d e f he;split at h
   ·rename_i hc;cases hd:fs.drop 6 with
    |nil=>grind
    |cons x l=>
     rw[hd]at h;injection h with h;subst h;obtain⟨g1,g2⟩:=Tg ok he (.fix ⟨a,b,c,d,e,f,l,x⟩) rfl (by rw[hd];rfl);exact arh
   ·exact awI
  ·exact awI
 ·exact acA ok h
end Go.V.Rp
namespace Go.V.Rp
open Go.Proofs Go.RowKit Go.V.Lx Go.V.Gr Go.V.Ty Go.V.St
variable {p:j9}
def du:ae->List ae×ae
 |[]=>([],[])
 |c::s=>if c=10 then([]::(du s).1,(du s).2)else match(du s).1 with
  |[]=>([],c::(du s).2)
  |x::l=>((c::x)::l,(du s).2)
def wO(l:List ae):ae:=(l.map fun x=>x++[10]).flatten
theorem y8:∀s,s=wO (du s).1++(du s).2
 |[]=>rfl
 |c::s=>by
  have ih:=y8 s;unfold du;split
  ·rename_i h;subst h;show _=10::(wO (du s).1++(du s).2)
   exact awN
  ·split
   ·rename_i h;rw[h]at ih;show c::s=c::(du s).2
    congr 1
   ·rename_i x l h;rw[h]at ih;show c::s=c::(x++[10]++wO l++(du s).2)
    exact aaR (List.cons c) ih
theorem rn{x:ae}(s:ae)(h:(10:UInt8)∉x):du (x++10::s)=(x::(du s).1,(du s).2):=by induction x<;>simp_all[du,Ne.symm]
def Yk:∀ {l:List ae},(∀x∈l,(10:UInt8)∉x)->du (wO l)=(l,[])
 :=by intro a;induction a<;>simp_all[du,wO,rn]
def ow(p:j9)(x:Rd)(line:ae):Option Rd:=match fL line with
 |w::f::fs=>(eM p w (f::fs)).bind (push x)
 |_=>none
def oG(p:j9):List ae->Nat->Rd->Except Nat Rd
 |[],_,x=> .ok x
 |l::ls,n,x=>match ow p x l with
  |none=> .error (n+1)
  |some y=>oG p ls (n+1) y
def lI(p:j9)(j_:Rec->Int)(src:ae):Rec×Int×Int:=match oG p (du src).1 0 Rd.zero with
 | .error n=>(Rec.zero,(n:Int),590)
 | .ok x=>if(du src).2≠[]\/(du src).1=[]then(Rec.zero,((du src).1.length:Int)+1,590)else if j_ x.r≠0 then(Rec.zero,0,j_ x.r)else(x.r,0,0)
structure j9.yQ(p:j9):Prop extends p.Ok where
 g2:∀s g,p.gr s=some g->(10:UInt8)∉s
 w2:∀s,p.wB s=true->(10:UInt8)∉s
 n3:∀v,iT v->(10:UInt8)∉Lib.itoa v
theorem amW(i:Item):i.f p≠[]:=by cases i<;>simp[Item.f,Item.ns,Item.ts,zV]
def agV(i:Item):(32:UInt8)∉i.w/\(10:UInt8)∉i.w:=by cases i<;>(constructor<;>(simp only[Item.w];decide))
theorem ajx{i:Item}(h:fC p i):(∃g,i= .ej g)\/∀s∈i.ts p,p.wB s=true:=by
 cases i with
 |ej g=>grind
 |term x=>exact .inr h.2.1
 |word x=>exact .inr h.2
 |fix x=>exact .inr h.2
 |_=>exact .inr fun s hs=>by cases hs
def aee(ok:p.yQ){i:Item}(h:fC p i):∀x∈i.f p,(32:UInt8)∉x/\(10:UInt8)∉x:=by
 intro x hx;unfold Item.f at hx;rcases abr.1 hx with hx|hx
 ·obtain⟨n,hn,rfl⟩:=aa1.1 hx;exact⟨ok.n2 n (h.1 n hn),ok.n3 n (h.1 n hn)⟩
 ·rcases ajx h with⟨g,rfl⟩|ht
  ·have h2:p.gr (p.gp g)=some g:=h.2;refine⟨OR _ x hx,fun jF=>?_⟩;have:=ok.g2 _ _ h2;rw[<-rJ (p.gp g)]at this;apply this;have key:∀(l:List ae),x∈l->(10:UInt8)∈lF l:=by
    intro l;induction l with
    |nil=>grind
    |cons y l ih=>
     intro hm;cases l with
     |nil=>grind [px]
     |cons z l=>
      rw[lW]
      exact awN
   exact key _ hx
  ·exact⟨ok.w1 x (ht x hx),ok.w2 x (ht x hx)⟩
def Z3(ok:p.yQ){i:Item}(h:fC p i):fL (d_ p i)=i.w::i.f p:=
 Je sI fun x hx=>(aaQ.1 hx).elim (fun e=>e▸(agV i).1) fun hx=>(aee ok h x hx).1
theorem IW(ok:p.yQ){i:Item}(h:fC p i):(10:UInt8)∉d_ p i:=by
 have key:∀(l:List ae),(∀x∈l,(10:UInt8)∉x)->(10:UInt8)∉lF l:=by
  intro l;induction l with
  |nil=>intro _;exact fun h=>awI
  |cons y l ih=>
   intro hl;cases l<;>grind [px,lW]
 exact key _ fun x hx=>(aaQ.1 hx).elim (fun e=>e▸(agV i).2) fun hx=>(aee ok h x hx).2
def ahJ(ok:p.yQ){i:Item}(h:fC p i)(x:Rd):ow p x (d_ p i)=push x i:=by
 unfold ow;rw[Z3 ok h];cases hf:i.f p with
 |nil=>grind [amW]
 |cons a l=>
  show(eM p i.w (a::l)).bind (push x)=_;rw[<-hf,Ro ok.toOk h];rfl
def aax(ok:p.yQ){line:ae}{x y:Rd}(h:ow p x line=some y):∃i,fC p i/\line=d_ p i/\push x i=some y:=by
 unfold ow at h;split at h
 ·rename_i w f fs hs;rw[aeP]at h;obtain⟨i,h1,h2⟩:=h;have cH:=OR line;rw[hs]at cH;obtain⟨g1,g2,g3⟩:=acJ ok.toOk (fun x hx=>cH x (aa2 _ hx)) sI h1
  grind [d_,rJ]
 ·exact awI
theorem aeo(ok:p.yQ):∀ {ls:List ae} {n:Nat} {x y:Rd},oG p ls n x= .ok y->∃l,(∀i∈l,fC p i)/\ls=l.map (d_ p)/\iz l x=some y
 |[],n,x,y,h=>by injection h with h;subst h;exact⟨[],sI,rfl,rfl⟩
 |s::ls,n,x,y,h=>by
  unfold oG at h;cases ha:ow p x s with
  |none=>rw[ha]at h;cases h
  |some z=>
   rw[ha]at h;obtain⟨i,h1,rfl,h2⟩:=aax ok ha;obtain⟨l,g1,g2,g3⟩:=aeo ok h;exact⟨i::l,fun j hj=>(aaQ.1 hj).elim (fun e=>e▸h1) (g1 j),by rw[g2];rfl,by rw[lK,h2];exact g3⟩
theorem SI(ok:p.yQ):∀ {l:List Item} {x y:Rd} {ls:List ae} {n:Nat},(∀i∈l,fC p i)->iz l x=some y->oG p (l.map (d_ p)++ls) n x=oG p ls (n+l.length) y
 |[],x,y,ls,n,_,h=>by injection h with h;grind
 |i::l,x,y,ls,n,ho,h=>by
  rw[lK]at h;cases hp:push x i with
  |none=>grind
  |some z=>
   rw[hp]at h;show oG p (d_ p i::(l.map (d_ p)++ls)) n x=_;rw[oG,ahJ ok (ho i sI),hp];show oG p _ (n+1) z=_;rw[SI ok (fun j hj=>ho j (aa2 _ hj)) h]
   exact awN
def FJ(l:List Item):eu p l=wO (l.map (d_ p)):=by simp[eu,wO,Function.comp_def]
def EW(ok:p.yQ){l:List Item}(h:∀i∈l,fC p i):du (eu p l)=(l.map (d_ p),[]):=by
 rw[FJ];exact Yk fun x hx=>by
  obtain⟨i,hi,rfl⟩:=aa1.1 hx
  grind [IW]
def OG{l:List Item}{x y:Rd}(h:iz l x=some y)(n:Nat):∃z,iz (l.take n) x=some z:=by
 rw[<-aeZ n l,Be]at h;cases hz:iz (l.take n) x<;>grind
def WX(ok:p.yQ){j_:Rec->Int}{r:Rec}{gl:List aA}(hg:r.s.grams=aA.zero::gl)(ho:∀i∈items r,fC p i)(hc:j_ r=0):lI p j_ (eu p (items r))=(r,0,0):=by
 obtain⟨row,part,hr⟩:=Dj hg;unfold lI;rw[EW ok ho];have:=SI ok (ls:=[]) (n:=0) ho hr;rw[aez]at this;simp only[this,oG];rw[aaw (by simp[items]),aaw awF]
theorem Lg(ok:p.yQ){j_:Rec->Int}{src:ae}{r:Rec}{n:Int}(h:lI p j_ src=(r,n,0)):n=0/\src=eu p (items r)/\j_ r=0/\(∀i∈items r,fC p i)/\∃gl,r.s.grams=aA.zero::gl:=by
 unfold lI at h;cases hg:oG p (du src).1 0 Rd.zero with
 |error m=>rw[hg]at h;simp at h
 |ok x=>
  rw[hg]at h;simp only at h;split at h
  ·exact awv
  ·rename_i hc;split at h
   ·rename_i h1;simp only[akX]at h;exact absurd h.2.2 h1
   ·rename_i h1;simp only[akX]at h;obtain⟨rfl,rfl,_⟩:=h;have hc:(du src).2=[]/\(du src).1≠[]:=⟨Decidable.byContradiction fun h=>hc (.inl h),fun h=>hc (.inr h)⟩
    obtain⟨l,g1,g2,g3⟩:=aeo ok hg;obtain⟨hi,hit⟩:=K7 g3 (fun e=>hc.2 (by rw[g2,e];rfl));refine⟨rfl,?_,by simpa using h1,by rw[hit];exact g1,hi.z⟩;rw[hit,FJ,<-g2];have:=y8 src;rw[hc.1,aez]at this;exact this
def WW(ok:p.yQ){j_:Rec->Int}{r:Rec}{gl:List aA}(hg:r.s.grams=aA.zero::gl)(ho:∀i∈items r,fC p i)(n:Nat)(hn:0<n):∃x,lI p j_ (eu p ((items r).take n))=(if j_ x=0 then x else Rec.zero,0,j_ x):=by
 obtain⟨row,part,hr⟩:=Dj hg;obtain⟨z,hz⟩:=OG hr n;have rA:∀i∈(items r).take n,fC p i:=fun i hi=>ho i (akp hi);refine⟨z.r,?_⟩;unfold lI;rw[EW ok rA];have:=SI ok (ls:=[]) (n:=0) rA hz;rw[aez]at this;simp only[this,oG];rw[aaw (by
  obtain⟨m,rfl⟩:∃m,n=m+1:=⟨n - 1,oM⟩
  simp[items])]
 exact awN
theorem TF(ok:p.yQ){j_:Rec->Int}{r:Rec}{gl:List aA}(hg:r.s.grams=aA.zero::gl)(ho:∀i∈items r,fC p i)(n:Nat)(hn:n<=(items r).length){odd:ae}(jF:(10:UInt8)∉odd)(hw:∀x,ow p x odd=none)(rest:ae):lI p j_ (eu p ((items r).take n)++(odd++10::rest))=(Rec.zero,(n:Int)+1,590):=by
 obtain⟨row,part,hr⟩:=Dj hg;obtain⟨z,hz⟩:=OG hr n;have rA:∀i∈(items r).take n,fC p i:=fun i hi=>ho i (akp hi);have IC:∀(l:List ae) (s:ae),(∀x∈l,(10:UInt8)∉x)->du (wO l++s)=(l++(du s).1,(du s).2):=by
  intro l s;induction l<;>grind [wO,rn]
 unfold lI;rw[FJ,IC _ _ (fun x hx=>by
  obtain⟨i,hi,rfl⟩:=aa1.1 hx
  grind [IW]),rn _ jF]
 simp only;rw[SI ok rA hz,oG,hw]
 exact awN
end Go.V.Rp
