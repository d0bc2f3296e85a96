/- Lemmas on plain data and programs: part B26. -/
import Derived.Test.YtkgloohlmogakaaGreatDoorB24
set_option linter.all false
set_option maxHeartbeats 8000000
set_option maxRecDepth 100000
namespace Go.V.Jn
open Go.Proofs Go.Proofs.Tryz Go.RowKit Go.V.Lx Go.V.Gr Go.V.Ty Go.V.St
instance(s:ah):Ct 97 [aU s] (s.length<=8) (.int .u64 (num s)):=by
 refine bf f97 [] [.tmp 2] fun pre=>?_;repeat' first|exact zQ|with_reducible apply zJ<;>intro _|refine zK ?_
 refine cm s [(3,18)] [] (fun j τ _=>τ 4=I j/\τ 3= .int .u64 (num (s.take j))) (by simp[Lm];omega) (by simp[go_sem,num]) (fun j x τ β hx hj hw hi=>?_) fun τ β hn hi=>?_
 ·obtain⟨hi,h2⟩:=hi;have hb:=mh (s.take j);have oy:(256:Nat) ^ (s.take j).length<=256 ^ 7:=Nat.pow_le_pow_right oM (by simp;omega);have lG:=x.toNat_lt;have w1:IntKind.u64.wrap (256 * (num (s.take j):Int))=((256 * num (s.take j):Nat):Int):=by rw[show 256 * (num (s.take j):Int)=((256 * num (s.take j):Nat):Int) by simp,dq rfl (by simp[IntKind.bits];omega)]
  have w2:=IH (k:=.u64) rfl x;have w3:IntKind.u64.wrap (((256 * num (s.take j):Nat):Int)+(x.toNat:Int))=((256 * num (s.take j)+x.toNat:Nat):Int):=by rw[show((256 * num (s.take j):Nat):Int)+(x.toNat:Int)=((256 * num (s.take j)+x.toNat:Nat):Int) by simp,dq rfl (by simp[IntKind.bits];omega)]
  have tG:=HE hx;repeat' first|exact zQ|with_reducible apply zJ<;>intro _|refine zK ?_
 ·obtain⟨hi,h2⟩:=hi;rw[tL]at h2;repeat' first|exact zQ|with_reducible apply zJ<;>intro _|refine zK ?_
def Po{m:Nat}(h:m<4294967296):(m:Int).fdiv (2 ^ min 1 32)=((m / 2:Nat):Int):=by rw[show(2:Int) ^ min 1 32=((2:Nat):Int) by rfl,Int.fdiv_eq_ediv_of_nonneg _ oM];rfl
instance(s:ah):Ct 166 [aU s] (Lm s) (.int .u32 (xB s)):=by
 refine bf f166 [] [.tmp 2] fun pre=>?_;repeat' first|exact zQ|with_reducible apply zJ<;>intro _|refine zK ?_
 refine cm s [(3,30)] [] (fun j τ _=>τ 4=I j/\τ 3= .int .u32 ((s.take j).foldl iR 4294967295:Nat)) pre sG (fun j x τ β hx hj hw hi=>?_) fun τ β hn hi=>?_
 ·obtain⟨hi,h2⟩:=hi;have hl:=vo (s.take j) (n:=4294967295) oM;have hs:=MW x hl;have tG:=EG (n:=4294967295) hx;have lG:=OS x hl;generalize(s.take j).foldl iR 4294967295=m at *;repeat' first|exact zQ|with_reducible apply zJ<;>intro _|refine zK ?_
  refine lC [(3,3),(5,5),(19,30)] [] 8 (fun k τ _=>τ 5=I k/\τ 3= .int .u32 (Nat.repeat gv k (m ^^^ x.toNat):Nat)) (by simp[go_sem,hs,Nat.repeat]) (fun k τ' β' hk gx=>?_) fun τ' β' gx=>?_
  ·obtain⟨gx,h3⟩:=gx;have hr:=Ii lG k;have bw:=Po hr;have bV:(k:Int)<8:=oM;have iL:IntKind.i64.wrap ((k:Int)+1)=((k+1:Nat):Int):=aD oM;have bq:Nat.repeat gv (k+1) (m ^^^ x.toNat)=gv (Nat.repeat gv k (m ^^^ x.toNat)):=rfl;generalize Nat.repeat gv k (m ^^^ x.toNat)=q at *;generalize Nat.repeat gv (k+1) (m ^^^ x.toNat)=q1 at *;have oB:((q:Int).tmod 2)=((q % 2:Nat):Int):=by rw[Int.tmod_eq_emod_of_nonneg oM];rfl
   have eJ:dj .xor .u32 ((q / 2:Nat):Int) 3988292384=((q / 2 ^^^ 3988292384:Nat):Int):=uU .u32 rfl (by simp[IntKind.bits];omega) (by simp[IntKind.bits]);by_cases hq:q % 2=1
   ·have qm:q1=q / 2 ^^^ 3988292384:=by rw[bq,gv,if_pos hq]
    rw[hq]at oB;have vr:((1:Nat):Int)=1:=rfl;clear bq;repeat' first|exact zQ|with_reducible apply zJ<;>intro _|refine zK ?_
   ·have qm:q1=q / 2:=by rw[bq,gv,if_neg hq]
    rw[show q % 2=0 by omega]at oB;have vr:¬((0:Nat):Int)=1:=by decide
    clear bq;repeat' first|exact zQ|with_reducible apply zJ<;>intro _|refine zK ?_
  ·obtain⟨gx,h3⟩:=gx;have gx:τ' 5=I 8:=gx;have h8:¬((8:Nat):Int)<8:=by decide
   repeat' first|exact zQ|with_reducible apply zJ<;>intro _|refine zK ?_
 ·obtain⟨hi,h2⟩:=hi;have ho:=uU .u32 rfl (a:=s.foldl iR 4294967295) (b:=4294967295) (by have:=vo s (n:=4294967295) oM;simpa[IntKind.bits]using this) (by simp[IntKind.bits]);rw[tL]at h2;have tE:dj .xor .u32 ((s.foldl iR 4294967295:Nat):Int) 4294967295=(xB s:Int):=ho;clear ho;repeat' first|exact zQ|with_reducible apply zJ<;>intro _|refine zK ?_
def OU(s:ah)(n:Nat):Bool:=((s.drop (12+n)).take (112 - n)).all fun c=>decide (c=0)
def PV{s:ah}{k:Nat}(hs:s.length=128)(hk:k<65536):gD s k=(decide (0<num (s.take 4))&&decide (num (s.take 4)=num (s.drop 124))&&decide (num ((s.drop 4).take 4)=xB ((s.drop 8).take 116))&&decide (num ((s.drop 8).take 2)=k)&&
 decide ((s.getD 10 0).toNat<=3)&&decide ((s.getD 11 0).toNat<=112)&&(decide (2<=(s.getD 10 0).toNat)||decide ((s.getD 11 0).toNat=112))&&(decide ((s.getD 10 0).toNat % 2=1)||decide ((s.getD 11 0).toNat≠0))&&OU s (s.getD 11 0).toNat):=by
 have hz:OU s (s.getD 11 0).toNat=((s.drop (12+bT s)).take (112 - bT s)==List.replicate (112 - bT s) 0||decide (112<bT s)):=by
  have hlen:((s.drop (12+bT s)).take (112 - bT s)).length=112 - bT s:=by simp;omega
  rw[Bool.eq_iff_iff];simp only[OU,List.all_eq_true,decide_eq_true_eq,Bool.or_eq_true,beq_iff_eq];constructor
  ·intro h;exact .inl (List.eq_replicate_iff.2 ⟨hlen,h⟩)
  ·rintro(h|h)
   ·intro x hx;have hx:x∈(s.drop (12+bT s)).take (112 - bT s):=hx;rw[h]at hx;exact(List.mem_replicate.1 hx).2
   ·intro x hx;have hx:x∈(s.drop (12+bT s)).take (112 - bT s):=hx;rw[show 112 - bT s=0 by omega]at hx;simp at hx
 rw[hz];unfold gD;cases hf:su s with
 |true=>
  rw[PU hs hf hk];simp only[su,bA,Bool.or_eq_true,decide_eq_true_eq,sg,bT,gen]at hf;rw[Bool.eq_iff_iff];simp only[bA,Bool.or_eq_true,decide_eq_true_eq,beq_iff_eq,Bool.true_and,gen,bT]
  grind
 |false=>
  rw[Bool.false_and]
  symm
  rw[Bool.eq_false_iff];intro h;rw[Bool.eq_false_iff]at hf;apply hf;simp only[su,bA,Bool.or_eq_true,decide_eq_true_eq,sg,bT,gen]at h⊢
  grind
instance(s:ah)(k:Nat):Ct 158 [aU s,I k] (s.length=128/\k<65536) (.bool (gD s k)):=by
 refine bf f158 [] [.tmp 4] fun pre=>?_;obtain⟨hs,hk⟩:=pre;rw[PV hs hk];have lE:=getD_some (s:=s) (j:=10) oM;have vr:=getD_some (s:=s) (j:=11) oM;have hx:=(s.getD 11 0).toNat_lt;have hy:=(s.getD 10 0).toNat_lt;have hw:IntKind.i64.wrap ((s.getD 11 0).toNat:Int)=((s.getD 11 0).toNat:Int):=ik _ oM oM;have oB:(((s.getD 10 0).toNat:Int).tmod 2)=(((s.getD 10 0).toNat % 2:Nat):Int):=by rw[Int.tmod_eq_emod_of_nonneg oM];rfl
 have JH:(s.drop 124).take 4=s.drop 124:=List.take_of_length_le (by simp;omega);have kw:IntKind.u64.wrap (k:Int)=k:=dq rfl (by simp[IntKind.bits];omega);have n3:num ((s.drop 4).take 4)<4294967296:=by
  have:=mh ((s.drop 4).take 4);rw[show((s.drop 4).take 4).length=4 by simp;omega]at this;simpa using this
 have nw:IntKind.u32.wrap (num ((s.drop 4).take 4):Int)=num ((s.drop 4).take 4):=dq rfl (by simpa[IntKind.bits]using n3);have l1:(s.take 4).length<=8:=by simp;omega
 have l2:(s.drop 124).length<=8:=by simp;omega
 have l3:((s.drop 4).take 4).length<=8:=by simp;omega
 have l4:((s.drop 8).take 2).length<=8:=by simp;omega
 have l5:Lm ((s.drop 8).take 116):=by simp[Lm];omega
 generalize hA:OU s (s.getD 11 0).toNat=A;unfold OU at hA;generalize s.getD 10 0=a at *;generalize s.getD 11 0=b at *;generalize hR:(decide (0<num (s.take 4))&&decide (num (s.take 4)=num (s.drop 124))&&decide (num ((s.drop 4).take 4)=xB ((s.drop 8).take 116))&&decide (num ((s.drop 8).take 2)=k)&&decide (a.toNat<=3)&&decide (b.toNat<=112)&&(decide (2<=a.toNat)||decide (b.toNat=112))&&(decide (a.toNat % 2=1)||decide (b.toNat≠0))&&A)=R;replace hR:Hid _:=hR;replace hA:Hid _:=hA;clear n3;repeat' first|exact zQ|with_reducible apply zJ<;>intro _|refine zK ?_
 all_goals first|(rw[<-hR.out];refine ab (congrArg D.bool ?_);rw[Bool.eq_iff_iff];simp[*];omega)|skip
 all_goals
  have hb:b.toNat<=112:=oM;have hRA:R=A:=by
   rw[<-hR.out];have:∀P:Bool,P=true->(P&&A)=A:=fun P h=>by rw[h];rfl
   refine this _ ?_;simp only[bA,Bool.or_eq_true,decide_eq_true_eq];omega
  subst hRA;clear hR kw nw JH l1 l2 l3 l4 l5 lE vr oB;have lI:((s.drop (12+b.toNat)).take (112 - b.toNat)).length=112 - b.toNat:=by simp;omega
  refine fresh (fun σ' _=>σ' 0=aU s/\σ' 6=I (12+b.toNat)) ⟨by simp[go_sem],by simp[go_sem];try omega⟩ ?_;rintro σ B ⟨k0,k6⟩;refine cm ((s.drop (12+b.toNat)).take (112 - b.toNat)) [(4,4),(6,6),(75,83)] [] (fun j τ _=>τ 6=I ((12+b.toNat+j:Nat):Int)/\(((s.drop (12+b.toNat)).take (112 - b.toNat)).take j).all (fun c=>decide (c=0))=true) (by simp[Lm];omega) ⟨by rw[k6];exact congrArg I oM,by simp⟩ (fun j x τ β hx hj iL hi=>?_) fun τ β hn hi=>?_
  ·obtain⟨h6,eG⟩:=hi;rw[lI]at hj;have sx:s[12+b.toNat+j]? =some x:=by rw[List.getElem?_take_of_lt oM,List.getElem?_drop]at hx;exact hx
   have c1:((12+b.toNat+j:Nat):Int)<124:=oM;have c2:IntKind.i64.wrap (((12+b.toNat+j:Nat):Int)+1)=((12+b.toNat+(j+1):Nat):Int):=by rw[ik _ oM oM];omega
   by_cases AJ:x=0
   ·have c3:(x.toNat:Int)=0:=by rw[AJ];rfl
    have hall2:(((s.drop (12+b.toNat)).take (112 - b.toNat)).take (j+1)).all (fun c=>decide (c=0))=true:=by rw[List.take_add_one,hx,List.all_append,eG];simp[AJ]
    clear hx eG lI AJ;repeat' first|exact zQ|with_reducible apply zJ<;>intro _|refine zK ?_
    all_goals rfl
   ·have c3:¬(x.toNat:Int)=0:=fun h=>AJ (UInt8.toNat_inj.1 (by rw[show(0:UInt8).toNat=0 from rfl];omega));have hR0:R=false:=by
     rw[<-hA.out,List.all_eq_false];exact⟨x,mG hx,by simp[AJ]⟩
    clear hx eG lI AJ hA;repeat' first|exact zQ|with_reducible apply zJ<;>intro _|refine zK ?_
  ·obtain⟨h6,eG⟩:=hi;rw[tL]at eG;have EK:R=true:=by rw[<-hA.out];exact eG
   have c1:¬((12+b.toNat+((s.drop (12+b.toNat)).take (112 - b.toNat)).length:Nat):Int)<124:=oM;clear eG hA lI;repeat' first|exact zQ|with_reducible apply zJ<;>intro _|refine zK ?_
instance(n:Nat):Ct 88 [I n] (n<=140737488355328) (I ((max 1 ((n+111) / 112):Nat):Int)):=by
 refine bf f88 [] [.tmp 2] fun pre=>?_;have h:((n:Int)+112 - 1).tdiv 112=(((n+111) / 112:Nat):Int):=by rw[Int.tdiv_eq_ediv_of_nonneg oM];omega
 repeat' first|exact zQ|with_reducible apply zJ<;>intro _|refine zK ?_
 exact ab (congrArg I oM)
instance(l:List ah):Ct 89 [.sl 1 (l.map aU)] (oK l) (I (aW l)):=by
 refine bf f89 [] [.tmp 2] fun pre=>?_;have hl:=l_ l;repeat' first|exact zQ|with_reducible apply zJ<;>intro _|refine zK ?_
 refine cm l [(3,18)] [] (fun j τ _=>τ 4=I j/\τ 3=I (aW (l.take j))) (by simp[Lm];omega) (by simp[go_sem,aW]) (fun j x τ β hx hj hw hi=>?_) fun τ β hn hi=>?_
 ·obtain⟨h7,h2⟩:=hi;have h3:=BQ (mG hx);have h4:=zF hx;have h5:=rL l (j+1);have h6:x.length<=140737488355328:=oM;have h8:IntKind.i64.wrap ((aW (l.take j):Int)+((max 1 ((x.length+111) / 112):Nat):Int))=(aW (l.take (j+1)):Int):=by unfold bM at h4;rw[ik _ oM oM];omega
  clear h4 h5;repeat' first|exact zQ|with_reducible apply zJ<;>intro _|refine zK ?_
 ·obtain⟨h7,h2⟩:=hi;rw[tL]at h2;repeat' first|exact zQ|with_reducible apply zJ<;>intro _|refine zK ?_
instance afM(j:gm):Ct 53 [j.d] (oK j.bh) (I (if kh j then 0 else 1)):=by
 refine bf f53 [(1,[(4,2)])] [.tmp 2] fun pre=>?_;unfold kh;repeat' first|exact zQ|with_reducible apply zJ<;>intro _|refine zK ?_
 all_goals (refine ab (congrArg I ?_);first|(rw[if_neg (by simp[*];try omega)];done)|(rw[if_pos (by simp[*];try omega)];done)|trace_state)
instance(a b:List ah):Ct 55 [.sl 1 (a.map aU),.sl 1 (b.map aU)] (Lm a/\Lm b) (.bool (decide (a=b))):=by
 refine bf f55 [] [.tmp 4] fun pre=>?_;obtain⟨h1,h2⟩:=pre;by_cases hl:a.length=b.length
 rotate_left
 ·have hc:¬(a.length:Int)=b.length:=oM;have he:decide (a=b)=false:=decide_eq_false fun h=>hl (by rw[h]);rw[he];repeat' first|exact zQ|with_reducible apply zJ<;>intro _|refine zK ?_
 rw[DK a b hl];have hz:(a.zip b).length=a.length:=by simp;omega
 generalize hA:List.all _ _=A;have hc:(a.length:Int)=b.length:=oM;clear hl;repeat' first|exact zQ|with_reducible apply zJ<;>intro _|refine zK ?_
 refine gR (a.zip b) hA 5 [(4,5),(11,27)] [] (by simp[Lm];omega) sG (fun j x τ β hx hj hw hi aP=>?_) fun τ β hn hi ha=>?_
 ·rw[List.getElem?_zip_eq_some]at hx;obtain⟨yM,eJ⟩:=hx;rw[hz,hc]at hj;clear hA hz;repeat' first|exact zQ|with_reducible apply zJ<;>intro _|refine zK ?_
  all_goals first|with_reducible exact .refl _|(refine ab ?_;have aP:=aP.out zz;simp[*];done)|((try refine ab ?_);exact zz)
 ·rw[hz,hc]at hn hi;repeat' first|exact zQ|with_reducible apply zJ<;>intro _|refine zK ?_
  all_goals first|with_reducible exact .refl _|(refine ab ?_;have aP:=aP.out zz;simp[*];done)|((try refine ab ?_);exact zz)
def rG{bx:ae}{ts:List Nat}{el esz:Nat}{x:D}{xs:List D}(h:aX bx ts el esz x xs)(hp:D.aF xs=true):∃r,bN r (.sl esz xs)/\∀bx':ae,(∀t,t∈ts->bx' t=bx t)->bz bx' x=some r:=by
 rcases h with⟨rfl,rfl⟩|⟨t,e,ht,rfl,hb⟩
 ·exact⟨.aq,.nil _,fun _ _=>wQ⟩
 ·refine⟨.sl esz xs,.refl _,fun bx' eg=>?_⟩;rw[lX,eg t ht,hb];exact eK _ _ _ _ _ _ (by decide) rfl hp
instance(j:gm)(b:ah):Ct 44 [j.d,aU b] (oK j.bh/\b.length<=1099511627776/\j.bh.length<=1048576) (.aL [(fU j b).1.d,I (fU j b).2]):=by
 refine bf f44 [(1000024,[]),(4,[(7,5),(7,3),(5,2)])] [.cell 4 36,.tmp 5] fun pre=>?_;obtain⟨p1,p2,p3⟩:=pre;generalize hR:fU j b=R;unfold fU at hR;have hb:b.length<=140737488355328:=oM;have h2:bM b<=1099511627776:=by unfold bM;omega
 by_cases h1:kh j=true
 rotate_left
 ·rw[if_neg h1]at hR;subst hR;repeat' first|exact zQ|with_reducible apply zJ<;>intro _|refine zK ?_
  exact wk
 rw[if_pos h1]at hR;have hm:j.many<=4096/\1<=j.many:=by simp[kh]at h1;omega
 have hw:IntKind.i64.wrap (j.many - (aW j.bh:Int))=j.many - (aW j.bh:Int):=ik _ oM oM;have hsec:((max 1 ((b.length+111) / 112):Nat):Int)=bM b:=rfl;replace hR:Hid _:=hR;repeat' first|exact zQ|with_reducible apply zJ<;>intro _|refine zK ?_
 ·rw[<-hR.out,if_pos oM];exact wk
 ·obtain rfl:=hR.out.symm.trans (if_neg oM);have vC:aX (ak (ak (ak (fun _=>Bx.none) 2 ⟨1,1,3,36,[j.d]⟩) 4 ⟨1,1,3,36,[D.agg [D.aq,D.int .i64 0,D.int .i64 0]]⟩) 24 ⟨1,1,1,71,[]⟩) [24,27,30] 71 1 (.bE 24 1 1 0 0) []:=.inr ⟨24,1,by simp,rfl,by simp[ak]⟩;refine app [24,27,30] vC (fun x1 B1 iA=>?_) (by simp;omega);have pP:=iA.facts;replace iA:=iA.mix (bx:=ak (ak (ak (fun _=>Bx.none) 2 ⟨1,1,3,36,[j.d]⟩) 4 ⟨1,1,3,36,[D.agg [D.aq,D.int .i64 0,D.int .i64 0]]⟩) 24 ⟨1,1,1,71,[]⟩) (mj [24,27,30]);repeat' first|exact zQ|with_reducible apply zJ<;>intro _|refine zK ?_
  refine app [24,27,30] iA (fun x2 B2 dZ=>?_) (by simp;omega);have G4:=dZ.facts;repeat' first|exact zQ|with_reducible apply zJ<;>intro _|refine zK ?_
  have hp:D.aF ([]++j.bh.map aU++[aU b])=true:=by rw[List.nil_append,show j.bh.map aU++[aU b]=(j.bh++[b]).map aU by simp,cZ];simp[D.pure]
  obtain⟨r,g2,g1⟩:=rG dZ hp;rw[g1 _ fun t ht=>by simp at ht;rcases ht with rfl|rfl|rfl<;>simp[ak,bn,di]];have g3:bN r (.sl 1 ((j.bh++[b]).map aU)):=by simpa using g2
  exact rN (.cons (fF (.cons g3 (.cons (.refl _) (.cons (.refl _) .nil)))) (.cons (.refl _) .nil))
instance afZ(d:cI):Ct 54 [d.d] (okD d) (I (if dt d then 0 else 40)):=by
 refine bf f54 [] [.tmp 2] fun pre=>?_;obtain⟨h1,h2⟩:=pre;unfold dt;generalize hA:(d.bC.all (rM d.aZ.length))=A;generalize hB:(d.aZ.all fun b=>decide (b.length=128))=B;by_cases hc:1<=d.aZ.length/\d.aZ.length<=4096/\d.bC.length<=4096/\ -1<=d.left/\d.left<=65536
 rotate_left
 ·rw[show(I (if(decide (1<=d.aZ.length)&&decide (d.aZ.length<=4096)&&decide (d.bC.length<=4096)&&decide (-1<=d.left)&&decide (d.left<=65536)&&A&&B)=true then 0 else 40))=I 40 by congr 1;rw[if_neg (by simp;intros;omega)]];by_cases c1:(d.aZ.length:Int)<1
  ·repeat' first|exact zQ|with_reducible apply zJ<;>intro _|refine zK ?_
  by_cases c2:(4096:Int)<d.aZ.length
  ·repeat' first|exact zQ|with_reducible apply zJ<;>intro _|refine zK ?_
  by_cases c3:(4096:Int)<d.bC.length
  ·repeat' first|exact zQ|with_reducible apply zJ<;>intro _|refine zK ?_
  by_cases c4:d.left< -1
  ·repeat' first|exact zQ|with_reducible apply zJ<;>intro _|refine zK ?_
  have c5:65536<d.left:=oM;repeat' first|exact zQ|with_reducible apply zJ<;>intro _|refine zK ?_
 obtain⟨g1,g2,g3,g4,g5⟩:=hc;rw[show(I (if(decide (1<=d.aZ.length)&&decide (d.aZ.length<=4096)&&decide (d.bC.length<=4096)&&decide (-1<=d.left)&&decide (d.left<=65536)&&A&&B)=true then 0 else 40))=I (if B then(if A then 0 else 40)else 40) by congr 1;cases A<;>cases B<;>simp[*]];have c1:¬(d.aZ.length:Int)<1:=oM;have c2:¬(4096:Int)<d.aZ.length:=oM;have c3:¬(4096:Int)<d.bC.length:=oM;have c4:¬d.left< -1:=oM;have c5:¬65536<d.left:=oM;repeat' first|exact zQ|with_reducible apply zJ<;>intro _|refine zK ?_
 refine gR d.aZ hB 4 [(2,2),(4,4),(32,43)] [] (by simp[Lm];omega) sG (fun j x τ β hx hj hw hi aP=>?_) fun τ β hn hi ha=>?_
 ·clear hB hA;repeat' first|exact zQ|with_reducible apply zJ<;>intro _|refine zK ?_
  ·simp;omega
  ·rw[aP.out (by simp;omega),if_neg sI];exact wk
 ·subst ha;rw[if_pos rfl];clear hB;repeat' first|exact zQ|with_reducible apply zJ<;>intro _|refine zK ?_
  refine gR d.bC hA 5 [(2,2),(5,6),(44,70)] [(6,6)] (by simp[Lm];omega) sG (fun j x τ' β' hx hj hw gx aP=>?_) fun τ' β' hn gx ha=>?_
  ·clear hA;have Wv:rM d.aZ.length x=(decide (0<=x.at_)&&decide (x.at_<d.aZ.length)&&decide (x.data.length=128)):=rfl;rw[Wv]at aP;rw[Wv];clear Wv;repeat' first|exact zQ|with_reducible apply zJ<;>intro _|refine zK ?_
   all_goals first|(rw[aP.out (by simp;omega),if_neg sI];exact wk)|(simp;omega)|trace_state
  ·subst ha;repeat' first|exact zQ|with_reducible apply zJ<;>intro _|refine zK ?_
   all_goals first|exact wk|trace_state
end Go.V.Jn
namespace Go.V.Jn
open Go.Proofs Go.RowKit Go.V.Lx Go.V.Gr Go.V.Ty Go.V.St
def HQ{bx:ae}{ts:List Nat}{el esz:Nat}{x:D}{xs:List D}(h:aX bx ts el esz x xs)(hn:xs≠[])(hp:D.aF xs=true):∀bx':ae,(∀t,t∈ts->bx' t=bx t)->bz bx' x=some (.sl esz xs):=by
 rcases h with⟨rfl,rfl⟩|⟨t,e,ht,rfl,hb⟩
 ·exact absurd rfl hn
 ·intro bx' eg;rw[lX,eg t ht,hb];exact eK _ _ _ _ _ _ (by decide) rfl hp
end Go.V.Jn
namespace Go.V.Jn
open Go.Proofs Go.Proofs.Tryz Go.RowKit Go.V.Lx Go.V.Gr Go.V.Ty Go.V.St
def BB(l:List ah)(a:Nat):ah×Nat:=match cY l a 0 (l.length - a) a []with
 |some (b,n)=>(b,n - a)
 |none=>([],0)
def Ki{l:List ah}{a:Nat}(h:cY l a 0 (l.length - a) a []=none):BB l a=([],0):=by rw[BB,h]
def Ib{l:List ah}{a n:Nat}{b:ah}(h:cY l a 0 (l.length - a) a []=some (b,n)):BB l a=(b,n - a):=by rw[BB,h]
def afe{n:Nat}:(n:Int).tmod 2=((n % 2:Nat):Int):=by rw[Int.tmod_eq_emod_of_nonneg oM];rfl
instance Xy(l:List ah)(a:Nat):Ct 96 [.sl 1 (l.map aU),I a] (Fb l/\a<=l.length) (.aL [aU (BB l a).1,I (BB l a).2]):=by
 refine bf f96 [(1000009,[]),(6,[(9,5)])] [.tmp 4,.tmp 5] fun pre=>?_;obtain⟨⟨hl,hs⟩,ha⟩:=pre;have no:=Ki (l:=l) (a:=a);have yes:=fun n b=>Ib (l:=l) (a:=a) (n:=n) (b:=b);generalize BB l a=R at *;replace no:Hid _:=no;replace yes:Hid _:=yes;repeat' first|exact zQ|with_reducible apply zJ<;>intro _|refine zK ?_
 refine ri (0,([]:ah)) (fun g:Nat×ah=>l.length - (a+g.1)) [(4,8),(10,71)] (mj [9,64]) (fun g τ β=>τ 7=I g.1/\aX β [9,64] 5 1 (τ 6) (a_ g.2)/\a+g.1<=l.length/\g.2.length<=128 * g.1/\cY l a 0 (l.length - a) a []=cY l a 0 (l.length - (a+g.1)) (a+g.1) g.2) ⟨by simp[go_sem],.inr ⟨9,1,by simp,rfl,rfl⟩,by simpa using ha,by simp,by simp⟩ ?_;rintro⟨n,acc⟩ τ β ⟨h7,hv,hn,mD,hg⟩;simp only at h7 hv hn mD hg;generalize hv6:τ 6=v6 at *;have hf6:=hv.facts;have hw0:IntKind.i64.wrap ((a:Int)+(n:Int))=((a+n:Nat):Int):=by rw[ik _ oM oM];omega
 by_cases AD:a+n<l.length
 rotate_left
 ·have c:¬((a+n:Nat):Int)<(l.length:Int):=oM;rw[Kj (n:=a+n) oM]at hg;obtain rfl:=no.out hg;clear hv hg;repeat' first|exact zQ|with_reducible apply zJ<;>intro _|refine zK ?_
  exact wk
 obtain⟨s,hx⟩:∃s,l[a+n]? =some s:=⟨_,gE AD⟩
 obtain⟨sa,vE⟩:∃s,l[a]? =some s:=⟨_,gE oM⟩
 have mP:=hs s (mG hx);have CK:=hs sa (mG vE);have bw:=qH (at_:=a) (last:=0) (f:=l.length - (a+n) - 1) (acc:=acc) hx;rw[show l.length - (a+n) - 1+1=l.length - (a+n) by omega,<-hg,show l.getD a []=sa by rw[List.getD_eq_getElem?_getD,vE];rfl]at bw;have lE:=getD_some (s:=s) (j:=10) oM;have vr:=getD_some (s:=s) (j:=11) oM;have e1:gen s=num (s.take 4):=rfl;have e2:gen sa=num (sa.take 4):=rfl;have e3:sg s=(s.getD 10 0).toNat:=rfl;have e4:piece s=(s.drop 12).take (s.getD 11 0).toNat:=rfl;rw[e1,e2,e3,e4]at bw;have uw:gD s (a+n)=true->(s.getD 11 0).toNat<=112/\(s.getD 10 0).toNat<=3:=fun h=>by
  rw[DQ]at h;simp only[bA,decide_eq_true_eq]at h;exact⟨h.1.1.1.1.1,h.1.1.1.1.2⟩
 replace uw:Hid _:=uw;have hb:=(s.getD 11 0).toNat_lt;have hw:IntKind.i64.wrap ((s.getD 11 0).toNat:Int)=((s.getD 11 0).toNat:Int):=ik _ oM oM;have oB:=afe (n:=(s.getD 10 0).toNat);generalize s.getD 10 0=A at *;generalize s.getD 11 0=B at *;have l1:(s.take 4).length<=8:=by simp;omega
 have l2:(sa.take 4).length<=8:=by simp;omega
 have ar:((a+n:Nat):Int)<(l.length:Int):=oM;have q1:decide (A.toNat % 2=1)=decide (((A.toNat % 2:Nat):Int)=1):=by rw[Bool.eq_iff_iff];simp;omega
 have q2:decide (a+n=a)=decide ((n:Int)=0):=by rw[Bool.eq_iff_iff];simp
 have q4:decide (0<=num (s.take 4))=true:=by simp
 rw[q1,q2,q4,Bool.and_true]at bw;have sd:¬(0:Int)<n->s=sa:=fun h=>by
  obtain rfl:n=0:=oM;rw[Nat.add_zero,vE]at hx;injection hx with hx;exact hx.symm
 replace sd:Hid _:=sd;clear e1 e2 e3 e4 hg q1 q2 q4;cases cX:gD s (a+n)with
 |false=>
  clear uw;rw[cX]at bw;rw[if_neg sI]at bw;obtain rfl:=no.out bw;clear bw hv;repeat' first|exact zQ|with_reducible apply zJ<;>intro _|refine zK ?_
  exact wk
 |true=>
  obtain⟨hB,hA⟩:=uw.out cX;clear uw;rw[cX,Bool.true_and]at bw;replace bw:Hid _:=bw;have c1:(12:Int)+B.toNat<=128:=oM;have c2:(12+(B.toNat:Int)).toNat - 12=B.toNat:=oM;repeat' first|exact zQ|with_reducible apply zJ<;>intro _|refine zK ?_
  ·have ni:=bw.out;rw[if_pos (by rw[bA];exact⟨‹((_:Bool)==_)=true›,decide_eq_true oM⟩)]at ni;clear bw sd;generalize AE:List.take B.toNat (s.drop 12)=pc at *;have oD:pc.length<=112:=by rw[<-AE];simp;omega
   clear AE;refine app [9,64] (hv.mix _) (fun x' β' aT=>?_) (by simp[ub];try omega);rw[<-iu]at aT;have kD:=aT.facts;have R9:IntKind.i64.wrap ((n:Int)+1)=((n+1:Nat):Int):=aD oM;by_cases xE:2<=A.toNat
   ·rw[if_pos xE]at ni;obtain rfl:=yes.out _ _ ni;have c5:(2:Int)<=A.toNat:=oM;rw[show a+n+1 - a=n+1 by omega];clear yes no ni;repeat' first|exact zQ|with_reducible apply zJ<;>intro _|refine zK ?_
    exact L2 (aT.mix _) rfl
   ·rw[if_neg xE]at ni;have c5:¬(2:Int)<=A.toNat:=oM;replace ni:Hid _:=ni;repeat' first|exact zQ|with_reducible apply zJ<;>intro _|refine zK ?_
    exact⟨(n+1,acc++pc),by simp;omega,rfl,aT.mix _,by simp;omega,by simp;omega,by rw[ni.out];congr 1⟩
  ·obtain rfl:=no.out (by rw[bw.out,if_neg (by rw[bA,decide_eq_true_eq];rintro⟨_,h⟩;omega)]);exact wk
  ·have ni:=bw.out;rw[if_pos (by rw[bA];exact⟨‹((_:Bool)==_)=true›,by rw[sd.out (by assumption)];simp⟩)]at ni;clear bw sd;generalize AE:List.take B.toNat (s.drop 12)=pc at *;have oD:pc.length<=112:=by rw[<-AE];simp;omega
   clear AE;refine app [9,64] (hv.mix _) (fun x' β' aT=>?_) (by simp[ub];try omega);rw[<-iu]at aT;have kD:=aT.facts;have R9:IntKind.i64.wrap ((n:Int)+1)=((n+1:Nat):Int):=aD oM;by_cases xE:2<=A.toNat
   ·rw[if_pos xE]at ni;obtain rfl:=yes.out _ _ ni;have c5:(2:Int)<=A.toNat:=oM;rw[show a+n+1 - a=n+1 by omega];clear yes no ni;repeat' first|exact zQ|with_reducible apply zJ<;>intro _|refine zK ?_
    exact L2 (aT.mix _) rfl
   ·rw[if_neg xE]at ni;have c5:¬(2:Int)<=A.toNat:=oM;replace ni:Hid _:=ni;repeat' first|exact zQ|with_reducible apply zJ<;>intro _|refine zK ?_
    exact⟨(n+1,acc++pc),by simp;omega,rfl,aT.mix _,by simp;omega,by simp;omega,by rw[ni.out];congr 1⟩
  ·obtain rfl:=no.out (by rw[bw.out,if_neg (by rw[‹((_:Bool)==_)=false›];simp)]);exact wk
instance(l:List ah):Ct 57 [.sl 1 (l.map aU)] (Fb l) (.sl 1 ((cF l).map aU)):=by
 refine bf f57 [(1000008,[])] [.tmp 2] fun pre=>?_;obtain⟨hl,hs⟩:=pre;repeat' first|exact zQ|with_reducible apply zJ<;>intro _|refine zK ?_
 refine ri (0,0,l.length,[]) (fun g:Nat×Nat×Nat×List ah=>l.length - g.1) [(2,7),(9,40)] (mj [8,37]) (fun g τ β=>τ 4=I g.1/\τ 5= .int .u64 g.2.1/\aX β [8,37] 71 1 (τ 3) (g.2.2.2.map aU)/\cF l=g.2.2.2++(lM l g.2.2.1 g.1 g.2.1).map (·.1)/\g.1<=l.length/\l.length<=g.1+g.2.2.1/\g.2.2.2.length<=g.1) ⟨by simp[go_sem],by simp[go_sem],.inr ⟨8,1,by simp,rfl,rfl⟩,by simp[cF,jB],by simp,by simp,by simp⟩ ?_;rintro⟨a,last,f,acc⟩ τ β ⟨h4,h5,hv,hr,ha,hf,dw⟩;simp only at h4 h5 hv hr ha hf dw;generalize NR:τ 3=v3 at *;have V0:=hv.facts;have Bf:Fb l/\a<=l.length:=⟨⟨hl,hs⟩,ha⟩
 cases hg:cY l a 0 (l.length - a) a []with
 |none=>
  have hR:=Ki hg;have uy:lM l f a last=[]:=by
   cases f with
   |zero=>rfl
   |succ f=>rw[kO,w_,hg,ite_self]
  rw[uy,List.map_nil,List.append_nil]at hr;rw[hr];haveI:Ct 96 [.sl 1 (l.map aU),I a] True (.aL [aU [],I 0]):=⟨fun _=>by have:=(Xy l a).h Bf;rwa[hR]at this⟩
  clear hR hr hg uy Bf;repeat' first|exact zQ|with_reducible apply zJ<;>intro _|refine zK ?_
  exact xe (hv.mix _) rfl
 |some p=>
  obtain⟨b,n⟩:=p;have hR:=Ib hg;obtain⟨p1,p2⟩:=nv hg;simp only at p1 p2;obtain⟨sa,vE⟩:∃s,l[a]? =some s:=⟨_,gE oM⟩
  have CK:=hs sa (mG vE);have Ax:gen (l.getD a [])=num (sa.take 4):=by rw[List.getD_eq_getElem?_getD,vE];rfl
  obtain⟨f',rfl⟩:∃f',f=f'+1:=⟨f - 1,by omega⟩
  rw[kO,w_,hg,Ax]at hr;haveI:Ct 96 [.sl 1 (l.map aU),I a] True (.aL [aU b,I ((n - a:Nat):Int)]):=⟨fun _=>by have:=(Xy l a).h Bf;rwa[hR]at this⟩
  have c1:¬((n - a:Nat):Int)=0:=oM;have w1:IntKind.i64.wrap ((a:Int)+((n - a:Nat):Int))=(n:Int):=by rw[ik _ oM oM];omega
  have l1:(sa.take 4).length<=8:=by simp;omega
  clear hR hg Bf Ax;by_cases CE:num (sa.take 4)<last
  ·rw[if_pos CE]at hr;simp only[List.map_nil,List.append_nil]at hr;rw[hr];have c2:(num (sa.take 4):Int)<(last:Int):=oM;clear hr;repeat' first|exact zQ|with_reducible apply zJ<;>intro _|refine zK ?_
   exact xe (hv.mix _) rfl
  ·rw[if_neg CE]at hr;have c2:¬(num (sa.take 4):Int)<(last:Int):=oM;replace hr:Hid _:=hr;repeat' first|exact zQ|with_reducible apply zJ<;>intro _|refine zK ?_
   refine app [8,37] (hv.mix _) (fun x' β' aT=>?_) (by simp;try omega);have kD:=aT.facts;repeat' first|exact zQ|with_reducible apply zJ<;>intro _|refine zK ?_
   refine⟨(n,num (sa.take 4),f',acc++[b]),by simp;omega,rfl,rfl,by simpa using aT.mix _,by rw[hr.out];simp,p2,by simp;omega,by simp;omega⟩
instance(d:cI):Ct 39 [d.d] (okD d) (.aL [(dC d).1.d,I (dC d).2]):=by
 refine bf f39 [] [.cell 2 36,.tmp 3] fun pre=>?_;generalize hR:dC d=R;unfold dC at hR;by_cases h1:dt d=true
 rotate_left
 ·rw[if_neg h1]at hR;subst hR;repeat' first|exact zQ|with_reducible apply zJ<;>intro _|refine zK ?_
  exact wk
 rw[if_pos h1]at hR;have bD:Fb d.aZ:=by
  simp[dt]at h1;exact⟨by omega,h1.2⟩
 replace hR:Hid _:=hR;repeat' first|exact zQ|with_reducible apply zJ<;>intro _|refine zK ?_
 ·rename_i c;rw[<-hR.out,if_pos c];exact wk
 ·rename_i c c2;rw[<-hR.out,c,if_neg sI,if_neg oM];exact wk
 ·rename_i c c2;rw[<-hR.out,c,if_neg sI,if_pos oM];exact wk
instance(a b:gm):Ct 46 [a.d,b.d] (Lm a.bh/\Lm b.bh) (.bool (decide (a.many=b.many)&&decide (a.sync=b.sync)&&decide (a.bh=b.bh))):=by
 refine bf f46 [] [.tmp 4] fun pre=>?_;obtain⟨h1,h2⟩:=pre;repeat' first|exact zQ|with_reducible apply zJ<;>intro _|refine zK ?_
 all_goals first|exact wk|(refine ab (congrArg D.bool ?_);simp[*];done)|trace_state
instance(d:cI):Ct 47 [d.d,d.d] (okD d) (.bool true):=by
 refine bf f47 [] [.tmp 4] fun pre=>?_;obtain⟨h1,h2⟩:=pre;repeat' first|exact zQ|with_reducible apply zJ<;>intro _|refine zK ?_
 refine cm d.aZ [(4,5),(37,56)] [] (fun j τ _=>τ 5=I j) h1 sG (fun j x τ β hx hj hw hi=>?_) fun τ β hn hi=>?_
 ·repeat' first|exact zQ|with_reducible apply zJ<;>intro _|refine zK ?_
 ·repeat' first|exact zQ|with_reducible apply zJ<;>intro _|refine zK ?_
  refine cm d.bC [(4,4),(6,6),(57,93)] [] (fun j τ _=>τ 6=I j) h2 sG (fun j x τ' β' hx hj hw gx=>?_) fun τ' β' sc gx=>?_
  ·repeat' first|exact zQ|with_reducible apply zJ<;>intro _|refine zK ?_
   all_goals trace_state
  ·repeat' first|exact zQ|with_reducible apply zJ<;>intro _|refine zK ?_
   all_goals trace_state
def Ut(s t el:Nat)(x:D)(m:List D)(bx:ae):Prop:=
 (x= .aq/\m=[])\/∃e es,x= .bE s e 1 0 es.length/\bx s=⟨e,1,1,el,es⟩/\dn bx es=some m/\D.aF m=true/\∀q∈bH es,q=t
theorem Ut.eO{s t el:Nat}{x:D}{m:List D}{bx:ae}(h:Ut s t el x m bx)(bw:s≠t):
 ∃bx0,(bx0=bx\/∃l,(bx s).k=1/\dn bx (bx s).es=some l/\bx0=Go.V.eO bx s l)/\(∀q,q≠s->q≠t->bx0 q=bx q)/\aX bx0 [s] el 1 x m:=by
 rcases h with⟨rfl,rfl⟩|⟨e,es,rfl,h1,h2,h4,h5⟩
 ·exact⟨bx,.inl rfl,fun _ _ _=>rfl,.nil _ _ _ _⟩
 ·have hU:(bx s).es=es:=by rw[h1]
  have hf:dO bx es s=bx s:=by rw[fe,if_neg (fun hm=>bw (h5 _ hm))]
  refine⟨_,.inr ⟨m,by rw[h1],by rw[hU];exact h2,rfl⟩,fun q hq iK=>?_,.inr ⟨s,e,by simp,?_,?_⟩⟩
  ·unfold Go.V.eO;rw[hU,aB hq,fe,if_neg (fun hm=>iK (h5 _ hm))]
  ·rw[(tT _ _ h2).1]
  ·unfold Go.V.eO;rw[hU,eC,hf,h1]
instance(n:Int):Ct 38 [I n] True (.aL [(jx n).1.d,I (jx n).2]):=by
 refine bf f38 [(1000022,[]),(7,[(5,4),(5,3)])] [.cell 2 39,.tmp 3] fun pre=>?_;unfold jx;by_cases h:1<=n/\n<=4096
 rotate_left
 ·rw[if_neg h];by_cases c:n<1
  ·repeat' first|exact zQ|with_reducible apply zJ<;>intro _|refine zK ?_
   exact wk
  ·have c2:(4096:Int)<n:=oM;repeat' first|exact zQ|with_reducible apply zJ<;>intro _|refine zK ?_
   exact wk
 rw[if_pos h];obtain⟨m,rfl⟩:∃m:Nat,n=m:=⟨n.toNat,by omega⟩
 have c1:¬(m:Int)<1:=oM;have c2:¬(4096:Int)<m:=oM;repeat' first|exact zQ|with_reducible apply zJ<;>intro _|refine zK ?_
 refine vj m (fun k σ bx=>σ 2= .loc 2 1 0 0/\σ 4= .loc 4 1 0 0/\σ 0=I m/\σ 5=I k/\bx 2=⟨1,1,4,39,[.agg [.aq,.aq,I 0,.bool false]]⟩/\∃x,bx 4=⟨1,1,4,39,[.agg [x,.aq,I (-1),.bool false]]⟩/\Ut 23 21 71 x ((List.replicate k cK).map aU) bx) ⟨by simp[go_sem],by simp[go_sem],by simp[go_sem],by simp[go_sem],by simp[go_sem],.aq,by simp[go_sem],.inl ⟨rfl,rfl⟩⟩ ?_ ?_
 ·rintro k σ bx hk ⟨k2,k4,k0,k5,b2,x,b4,hh⟩;obtain⟨bx0,hm,iz,hv⟩:=hh.eO (by decide);refine⟨bx0,?_,?_⟩
  ·rcases hm with rfl|⟨l,h1,h2,h3⟩
   ·exact .inl rfl
   ·exact .inr ⟨rfl,23,l,h1,h2,h3⟩
  replace b2:=(iz 2 oM oM).trans b2;replace b4:=(iz 4 oM oM).trans b4;clear hm hh iz;have hf:=hv.facts;have c3:(k:Int)<(m:Int):=oM;have c4:=nK;have w1:IntKind.i64.wrap ((k:Int)+1)=((k+1:Nat):Int):=aD oM;repeat' first|exact zQ|with_reducible apply zJ<;>intro _|refine zK ?_
  have iA:aX (ak (ak bx0 21 ⟨(bx0 21).ep+1,1,1,5,a_ cK⟩) 22 ⟨(bx0 22).ep+1,1,1,71,[D.bE 21 ((bx0 21).ep+1) 1 0 128]⟩) [23] 71 1 x ((List.replicate k cK).map aU):=hv.of fun t ht=>by simp at ht;subst ht;simp[ak]
  refine app [23] iA (fun x' β dZ=>?_) (by simp;omega);rcases dZ with⟨_,h0⟩|⟨t,e,ht,rfl,hb⟩
  ·simp at h0
  simp only[List.mem_singleton]at ht;subst ht;repeat' first|exact zQ|with_reducible apply zJ<;>intro _|refine zK ?_
  have hp:D.aF ((List.replicate k cK).map aU)=true:=by rw[cZ];simp[D.pure]
  have ho:∀B:ae,B 21=⟨(bx0 21).ep+1,1,1,5,a_ cK⟩->bz B (.bE 21 ((bx0 21).ep+1) 1 0 128)=some (aU cK):=fun B hB=>by
   rw[lX,hB];exact Ob _ _ _ _ c4.symm
  refine⟨_,rfl,.inr ⟨e,_,rfl,by simp[ak,bn,di,hb],?_,by rw[cZ];simp[D.pure],fun q hq=>?_⟩⟩
  ·rw[Bp (ho _ (by simp[ak,bn,di])) _ _ (lQ _ _ hp).1,List.replicate_succ',List.map_append];rfl
  ·rw[y5,(lQ (fun _=>Bx.none) _ hp).2]at hq;simpa[bH,Go.V.names]using hq
 ·rintro σ bx ⟨k2,k4,k0,k5,b2,x,b4,hh⟩;obtain⟨bx0,hm,iz,hv⟩:=hh.eO (by decide);refine⟨bx0,?_,?_⟩
  ·rcases hm with rfl|⟨l,h1,h2,h3⟩
   ·exact .inl rfl
   ·exact .inr ⟨rfl,23,l,h1,h2,h3⟩
  replace b2:=(iz 2 oM oM).trans b2;replace b4:=(iz 4 oM oM).trans b4;clear hm hh iz;have hf:=hv.facts;have c3:¬(m:Int)<(m:Int):=oM;repeat' first|exact zQ|with_reducible apply zJ<;>intro _|refine zK ?_
  obtain⟨r,g2,g1⟩:=rG hv (by rw[cZ];simp[D.pure]);rw[g1 _ fun t ht=>by simp at ht;subst ht;simp[ak]];exact rN (.cons (fF (.cons g2 (.cons (.nil _) (.cons (.refl _) (.cons (.refl _) .nil))))) (.cons (.refl _) .nil))
end Go.V.Jn
namespace Go.V.Jn
open Go.Proofs Go.RowKit Go.V.Lx Go.V.Gr Go.V.Ty Go.V.St
def S5{P:Program}{C:Calc}{σ:Env}{bx:ae}{full:List Oper}{Pn:D->ae->Prop}{Q:Env->ae->Prop}(M:Env->ae->Prop)(h1:wo P C full (fun _ _=>False) M σ bx)(h2:∀σ bx,M σ bx->Q σ bx):wo P C full Pn Q σ bx:=
 wq (fun _ _ h=>h.elim) h2 h1
theorem uH{x:D}{q:Nat}:∀ {l:List D} {i:Nat},q∈bH (l.set i x)->q∈bH l\/q∈Go.V.names x
 |[],i,h=>by simp[bH]at h
 |d::ds,0,h=>by
  rw[List.set_cons_zero]at h;simp only[bH,List.mem_append]at h⊢;rcases h with h|h
  ·exact .inr h
  ·exact .inl (.inr h)
 |d::ds,i+1,h=>by
  rw[List.set_cons_succ]at h;simp only[bH,List.mem_append]at h⊢;rcases h with h|h
  ·exact .inl (.inl h)
  ·rcases uH h with h|h
   ·exact .inl (.inr h)
   ·exact .inr h
instance (priority:=low)(S:List ah)(W:List bX)(L:Int)(st:Bool):Ct 54 [.agg [.sl 1 (S.map aU),.sl 2 (W.map bX.d),I L,.bool st]] (okD ⟨S,W,L,st⟩) (I (if dt ⟨S,W,L,st⟩then 0 else 40)):=afZ ⟨S,W,L,st⟩
end Go.V.Jn
