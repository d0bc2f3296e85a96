/- Lemmas on plain data and programs: part B51. -/
import Derived.Test.YtkknfajchefgaaaGreatDoorB49
set_option linter.all false
set_option maxHeartbeats 8000000
namespace Go.V.Rp
open Go.Proofs Go.Proofs.Tryz Go.RowKit Go.V.Lx Go.V.Gr Go.V.Ty Go.V.St
def IA{k:IntKind}{d:D}(h:(Sh.int k).has d)(hk:k.signed=false):∃n:Nat,d= .int k n/\n<2 ^ k.bits:=by
 obtain⟨ys,rfl,h⟩:=h;simp only[Sh.cp]at h;obtain⟨n,rfl,hw⟩:=h;simp[Lit.wf,IntKind.min,IntKind.max,hk]at hw;refine⟨n.toNat,?_,by
  have:((2 ^ k.bits:Nat):Int)=2 ^ k.bits:=sI
  omega⟩
 show D.int k n=_
 congr 1
 exact oM
def ab8{d:D}(h:Sh.str.has d):∃s,d= .str s:=by
 obtain⟨ys,rfl,h⟩:=h;simp only[Sh.cp]at h;obtain⟨s,rfl,_⟩:=h;exact⟨s,rfl⟩
def Ya(xs:List D)(h:oZ [yi,.str] xs):av prog 3 xs (.bool true):=by
 obtain⟨a,_,rfl,h1,h⟩:=ox h;obtain⟨b,_,rfl,h2,h⟩:=ox h;obtain rfl:=EP h;obtain⟨r,rfl,o⟩:=IB h1;obtain⟨s,rfl⟩:=ab8 h2;exact(adR r s o.f4 o.all).h trivial
def T7(xs:List D)(h:oZ [yi,.int .u16,.int .u8] xs):av prog 4 xs (.bool true):=by
 obtain⟨a,_,rfl,h1,h⟩:=ox h;obtain⟨b,_,rfl,h2,h⟩:=ox h;obtain⟨c,_,rfl,h3,h⟩:=ox h;obtain rfl:=EP h;obtain⟨r,rfl,o⟩:=IB h1;obtain⟨n,rfl,hn⟩:=IA h2 rfl;obtain⟨m,rfl,hm⟩:=IA h3 rfl;exact(Ed r n m hn hm o.f4 o.all).h trivial
def Wg(xs:List D)(h:oZ [yi,.int .u16] xs):av prog 5 xs (.bool true):=by
 obtain⟨a,_,rfl,h1,h⟩:=ox h;obtain⟨b,_,rfl,h2,h⟩:=ox h;obtain rfl:=EP h;obtain⟨r,rfl,o⟩:=IB h1;obtain⟨n,rfl,hn⟩:=IA h2 rfl;exact(acv r n hn o.f4 o.all).h trivial
end Go.V.Rp
