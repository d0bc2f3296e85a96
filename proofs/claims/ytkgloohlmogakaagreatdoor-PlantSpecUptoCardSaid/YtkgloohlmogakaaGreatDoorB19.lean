/- Lemmas on plain data and programs: part B19. -/
import Derived.Test.YtkgloohlmogakaaGreatDoorB18
set_option linter.all false
set_option maxHeartbeats 8000000
set_option maxRecDepth 100000
namespace Go.V.St
open Go.Proofs Go.Proofs.Tryz Go.RowKit Go.V.Lx Go.V.Gr Go.V.Ty
def je(n:Nat):ah:=if n<128 then[UInt8.ofNat n]else if n<2048 then[UInt8.ofNat (192+n / 64),UInt8.ofNat (128+n % 64)]else if n<65536 then[UInt8.ofNat (224+n / 4096),UInt8.ofNat (128+n / 64 % 64),UInt8.ofNat (128+n % 64)]else[UInt8.ofNat (240+n / 262144),UInt8.ofNat (128+n / 4096 % 64),UInt8.ofNat (128+n / 64 % 64),UInt8.ofNat (128+n % 64)]
def w8(x:Int)(m:Nat)(hx:x=m)(hm:m<256):D.int .u8 (IntKind.u8.wrap x)= .int .u8 ((UInt8.ofNat m).toNat:Int):=by
 subst hx;have h1:(UInt8.ofNat m).toNat=m:=by simp;omega
 rw[h1];rw[IntWalk.u8_in (m:Int) ⟨by omega,by omega⟩]
def SU(n:Nat)(hn:n<=1114111):ao prog 357 [I n] (.sl 1 ((je n).map fun b=>D.int .u8 (b.toNat:Int))):=by
 have td:∀k:Nat,0<k->IntKind.i64.wrap ((n:Int).tdiv (k:Int))=((n / k:Nat):Int):=fun k hk=>by
  rw[show(n:Int).tdiv (k:Int)=((n / k:Nat):Int)from(Int.ofNat_tdiv n k).symm];have:n / k<=n:=Nat.div_le_self _ _;generalize n / k=q at this⊢;exact wr _ oM oM
 have t1:IntKind.i64.wrap ((n:Int).tdiv 64)=((n / 64:Nat):Int):=td 64 oM;have t2:IntKind.i64.wrap ((n:Int).tdiv 4096)=((n / 4096:Nat):Int):=td 4096 oM;have t3:IntKind.i64.wrap ((n:Int).tdiv 262144)=((n / 262144:Nat):Int):=td 262144 oM;have m0:(n:Int).tmod 64=((n % 64:Nat):Int):=Int.ofNat_tmod n 64;have m1:((n / 64:Nat):Int).tmod 64=((n / 64 % 64:Nat):Int):=Int.ofNat_tmod _ 64;have m2:((n / 4096:Nat):Int).tmod 64=((n / 4096 % 64:Nat):Int):=Int.ofNat_tmod _ 64;have a:∀(c m:Nat),c<=240->m<=1114111->IntKind.i64.wrap ((c:Int)+(m:Int))=((c+m:Nat):Int):=fun c m h1 h2=>by rw[wr _ oM oM];omega
 have b:∀c m:Nat,c<=240->m<64->c+m<256->D.int .u8 (IntKind.u8.wrap (IntKind.i64.wrap ((c:Int)+(m:Int))))= .int .u8 ((UInt8.ofNat (c+m)).toNat:Int):=fun c m h1 h2 h3=>w8 _ _ (a c m h1 oM) h3;have b128:∀m:Nat,m<64->D.int .u8 (IntKind.u8.wrap (IntKind.i64.wrap (128+(m:Int))))= .int .u8 ((UInt8.ofNat (128+m)).toNat:Int):=fun m h=>b 128 m oM h oM;have b192:∀m:Nat,m<32->D.int .u8 (IntKind.u8.wrap (IntKind.i64.wrap (192+(m:Int))))= .int .u8 ((UInt8.ofNat (192+m)).toNat:Int):=fun m h=>b 192 m oM oM oM;have b224:∀m:Nat,m<16->D.int .u8 (IntKind.u8.wrap (IntKind.i64.wrap (224+(m:Int))))= .int .u8 ((UInt8.ofNat (224+m)).toNat:Int):=fun m h=>b 224 m oM oM oM;have b240:∀m:Nat,m<8->D.int .u8 (IntKind.u8.wrap (IntKind.i64.wrap (240+(m:Int))))= .int .u8 ((UInt8.ofNat (240+m)).toNat:Int):=fun m h=>b 240 m oM oM oM;clear td b a;refine aw mixed (fn:=f357) (tab:=[]) ?_ rfl aj rfl;refine ax _ [.tmp 2] _ rfl rfl rfl aj ?_;repeat' (first|with_reducible refine zJ (fun _=>?_) fun _=>?_|simp(disch:=omega) only[go_sem, *])
 ·refine ab (congrArg (D.sl 1) ?_);rw[show je n=[UInt8.ofNat n] by unfold je;rw[if_pos oM]];simp only[mC,List.map_nil];rw[w8 _ n rfl oM]
 ·refine ab (congrArg (D.sl 1) ?_);rw[show je n=[UInt8.ofNat (192+n / 64),UInt8.ofNat (128+n % 64)] by unfold je;rw[if_neg oM,if_pos oM]];simp only[mC,List.map_nil]
 ·refine ab (congrArg (D.sl 1) ?_);rw[show je n=[UInt8.ofNat (224+n / 4096),UInt8.ofNat (128+n / 64 % 64),UInt8.ofNat (128+n % 64)] by unfold je;rw[if_neg oM,if_neg oM,if_pos oM]];simp only[mC,List.map_nil]
 ·refine ab (congrArg (D.sl 1) ?_);rw[show je n=[UInt8.ofNat (240+n / 262144),UInt8.ofNat (128+n / 4096 % 64),UInt8.ofNat (128+n / 64 % 64),UInt8.ofNat (128+n % 64)] by unfold je;rw[if_neg oM,if_neg oM,if_neg oM]];simp only[mC,List.map_nil]
end Go.V.St
