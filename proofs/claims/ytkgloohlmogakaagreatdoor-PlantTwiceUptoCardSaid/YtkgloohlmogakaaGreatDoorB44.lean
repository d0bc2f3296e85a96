/- Plants: from the arguments of the statements to the laws (crashes). -/
import Derived.Test.YtkgloohlmogakaaGreatDoorB42
set_option linter.unusedSimpArgs false
set_option linter.unusedVariables false
set_option linter.unnecessarySimpa false
namespace Go.V.Jn
open Go.Proofs Go.RowKit Go.V.Lx Go.V.Gr Go.V.Ty Go.V.St
theorem Cp{d:D}(h:(Sh.int .u16).has d):∃n:Nat,d= .int .u16 n/\n<65536:=by
 obtain⟨ys,rfl,h⟩:=h;simp only[Sh.bB]at h;obtain⟨n,rfl,hw⟩:=h;simp[Lit.wf,IntKind.min,IntKind.max,IntKind.signed,IntKind.bits]at hw;refine⟨n.toNat,?_,by omega⟩;show D.int .u16 n=_
 congr 1
 omega
theorem JL{d:D}(h:(Sh.int .u8).has d):∃n:Nat,d= .int .u8 n/\n<256:=by
 obtain⟨n,rfl,h1,h2⟩:=L2 h;refine⟨n.toNat,?_,by omega⟩
 congr 1
 omega
theorem HE(xs:List D)(h:kD [q_,.int .u16,.int .u8] xs)(hb:D.bZ xs<=1048576):aq Tryz.prog 5 xs (.bool true):=by
 obtain⟨a,_,rfl,h1,h⟩:=kF h;obtain⟨b,_,rfl,h2,h⟩:=kF h;obtain⟨c,_,rfl,h3,h⟩:=kF h;obtain rfl:=zg h;obtain⟨s,rfl,os⟩:=Co h1;obtain⟨n,rfl,hn⟩:=Cp h2;obtain⟨m,rfl,hm⟩:=JL h3;simp only[D.bZ]at hb;exact Mg s n m hn hm os oM
theorem Gk(xs:List D)(h:kD [q_,.int .u16,pU] xs)(hb:D.bZ xs<=1048576):aq Tryz.prog 6 xs (.bool true):=by
 obtain⟨a,_,rfl,h1,h⟩:=kF h;obtain⟨b,_,rfl,h2,h⟩:=kF h;obtain⟨c,_,rfl,h3,h⟩:=kF h;obtain rfl:=zg h;obtain⟨s,rfl,os⟩:=Co h1;obtain⟨n,rfl,hn⟩:=Cp h2;obtain⟨ys,rfl,h3⟩:=h3;obtain⟨l,e,hl⟩:=Fq ys h3;rw[e]at hb⊢;simp only[D.bZ]at hb;exact Kw s n l hn hl os oM
end Go.V.Jn
