/- Lemmas on plain data and programs: part B39. -/
import Derived.Test.YtkknfajchefgaaaGreatDoorB33
set_option linter.all false
set_option maxHeartbeats 8000000
set_option maxRecDepth 100000
namespace Go.V.Ty
open Go.Proofs Go.RowKit Go.V.Lx Go.V.Gr
def cR(x:aF)(i:Nat):Bool:=(x.parts[i]?).all fun q=> !decide (q.text=[])||decide (eF x.aE i=1)
def push(c:ae)(p:List ae×List ae)(x:aF):List ae×List ae:=match qd x with
 |some (a,d)=>if a=c/\¬d∈p.1 then(p.1++[d],p.2++[d])else p
 |none=>p
def run(rs:List aF):Nat->List ae×List ae->List ae
 |_,(out,[])=>out
 |0,(out,_)=>out
 |k+1,(out,c::todo)=>run rs k (rs.foldl (push c) (out,todo))
inductive Way(rs:List aF):ae->ae->Prop where
 |one {a b:ae} (h:Edge rs a b):Way rs a b
 |more {a b c:ae} (h:Way rs a b) (h2:Edge rs b c):Way rs a c
theorem Way.trans{rs:List aF}{a b c:ae}(h:Way rs a b)(h2:Way rs b c):Way rs a c:=by
 induction h2 with
 |one h2=>exact .more h h2
 |more _ h3 ih=>exact .more ih h3
theorem Way.first{rs:List aF}{a c:ae}(h:Way rs a c):∃b,Edge rs a b/\(b=c\/Way rs b c):=by
 induction h with
 |one h=>grind
 |more _ h2 ih=>
  obtain⟨b,h3,rfl|h4⟩:=ih
  ·exact⟨_,h3,.inr (.one h2)⟩
  ·exact⟨_,h3,.inr (.more h4 h2)⟩
def targets(rs:List aF):List ae:=rs.filterMap fun x=>(qd x).map (·.2)
structure X4(rs:List aF)(s:ae)(out todo:List ae):Prop where
 nodup:out.Nodup
 sub:∀t∈out,t∈targets rs
 way:∀t∈out,Way rs s t
 af7:∀c∈todo,c=s\/c∈out
 amO:∀c,(c=s\/c∈out)->c∉todo->∀d,Edge rs c d->d∈out
theorem KU(c:ae):∀(l:List aF) (p:List ae×List ae),∃m:List ae,l.foldl (push c) p=(p.1++m,p.2++m)/\(p.1.Nodup->(p.1++m).Nodup)/\(∀t∈m,∃x∈l,qd x=some (c,t))/\∀x∈l,∀t,qd x=some (c,t)->t∈p.1++m
 |[],p=>⟨[],sI,sI,sI,sI⟩
 |x::l,p=>by
  obtain⟨m0,h0,n0,e0,f0⟩:∃m0:List ae,push c p x=(p.1++m0,p.2++m0)/\(p.1.Nodup->(p.1++m0).Nodup)/\(∀t∈m0,qd x=some (c,t))/\∀t,qd x=some (c,t)->t∈p.1++m0:=by
   unfold push;cases he:qd x with
   |none=>exact⟨[],sI,sI,sI,sI⟩
   |some q=>
    obtain⟨a,d⟩:=q;dsimp only;by_cases hc:a=c/\¬d∈p.1
    ·rw[aaO hc]
     exact awN
    ·rw[aaw hc];refine⟨[],sI,sI,sI,fun t ht=>?_⟩
     exact awN
  obtain⟨m,h1,n1,e1,f1⟩:=KU c l (push c p x)
  exact awN
theorem X4.step{rs:List aF}{s c:ae}{out todo:List ae}(h:X4 rs s out (c::todo)):∃m,rs.foldl (push c) (out,todo)=(out++m,todo++m)/\X4 rs s (out++m) (todo++m):=by
 obtain⟨m,h1,h2,h3,h4⟩:=KU c rs (out,todo);dsimp only at h1 h2 h4;have hc:c=s\/c∈out:=h.af7 c sI;have hm:∀t∈m,Edge rs c t:=fun t ht=>h3 t ht;refine⟨m,h1,h2 h.nodup,fun t ht=>?_,fun t ht=>?_,fun d hd=>?_,fun d hd hnt t het=>?_⟩
 ·rcases abr.1 ht with ht|ht
  ·exact h.sub t ht
  ·obtain⟨x,hx,hxt⟩:=h3 t ht;exact List.mem_filterMap.2 ⟨x,hx,awN⟩
 ·rcases abr.1 ht with ht|ht
  ·exact h.way t ht
  ·rcases hc with rfl|hc
   ·exact .one (hm t ht)
   ·exact .more (h.way c hc) (hm t ht)
 ·rcases abr.1 hd with hd|hd
  ·rcases h.af7 d (by simp[hd])with h|h<;>grind
  exact awN
 ·by_cases hdc:d=c
  ·subst hdc;obtain⟨x,hx,hxt⟩:=het
   exact awN
  ·have hdo:d=s\/d∈out:=awN
   exact agc _ (h.amO d hdo awN t het)
def Que(bx:ab)(x:D)(l:List ae):Prop:=∃t e o es,(t=12\/t=66)/\x= .ba t e 1 o l.length/\bx t=⟨e,1,1,9,es⟩/\o+l.length=es.length/\es.drop o=l.map D.str
theorem Que.of{bx bx':ab}{x:D}{l:List ae}(h:Que bx x l)(hb:∀q,q=12\/q=66->bx' q=bx q):Que bx' x l:=by
 obtain⟨t,e,o,es,ht,h1,h2,h3⟩:=h;exact⟨t,e,o,es,ht,h1,awN,h3⟩
end Go.V.Ty
