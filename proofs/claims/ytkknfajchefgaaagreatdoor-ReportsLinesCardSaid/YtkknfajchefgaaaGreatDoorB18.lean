/- Lemmas on plain data and programs: part B18. -/
import Derived.Test.YtkknfajchefgaaaGreatDoorS7
import Derived.Test.YtkknfajchefgaaaGreatDoorB14
set_option linter.all false
set_option maxHeartbeats 8000000
set_option maxRecDepth 100000
namespace Go.V.St
open Go.Proofs Go.Proofs.Tryz Go.RowKit Go.V.Lx Go.V.Gr Go.V.Ty
def U1:MW= .agg ((List.range 256).map fun c=>D.int .u8 (Lib.firstT c)):=ar
def R2:H9= .agg ((List.range 32).map fun c=>D.int .u8 ((if c % 2=0 then Lib.accLo (c / 2)else Lib.accHi (c / 2):Nat):Int)):=ar
def Mq{w:World}{S:Nat->Prop}{v:Value}{b n:Nat}{f:Nat->Nat}(h:bc w S .fN v)(hg:E5 b=some (.agg ((List.range n).map fun c=>D.int .u8 (f c)))):∀c,c<n->w.cell? ⟨b,c,none⟩=some (.int .u8 (f c)):=by
 intro c uS;have h:=glo_at h hg;cases h with
 |@bR _ _ _ off _ us hS hp hc h1 hr=>
  obtain rfl:off=0:=oM
  grind [D.cells,cV]
def adb{w:World}{S:Nat->Prop}{v:Value}(h:bc w S .fN v):Lib.Utf8Tabs 1 2 w:=by
 have h3:=Mq (b:=1) (n:=256) h (aaR some U1);have h4:=Mq (b:=2) (n:=32) h (aaR some R2);refine⟨h3,fun i hi=>⟨?_,?_⟩⟩<;>grind
def bo(s:ae)(i:Nat):Nat:=(s[i]?.getD 0).toNat
def dW(s:ae):Nat×Nat:=if s.length=0 then(65533,0)else Lib.decodeN s.length (bo s 0) (bo s 1) (bo s 2) (bo s 3)
def ao_{w:World}{S:Nat->Prop}{u v:Value}{x y:D}(h1:bc w S x u)(h2:bc w S y v):bc w S (.aL [x,y]) (.tuple #[u,v]):=by
 refine .aL rfl fun i d v hd hv=>?_
 exact awN
def Yn(s:ae):av prog 144 [.str s] (.aL [.int .i32 (dW s).1,I (dW s).2]):=by
 intro w S vs hS hg hl hv;obtain⟨u,rfl,hu⟩:=R9 hl hv;rw[fj hu];have hd:Lib.decodeGo ⟨s.toArray⟩=dW s:=by
  have hz:(⟨s.toArray⟩:ByteArray).size=s.length:=au3
  have hb:∀i,((⟨s.toArray⟩:ByteArray).get! i).toNat=bo s i:=fun i=>by
   simp only[ByteArray.get!,bo];rw[getElem!_def];simp;cases s[i]?<;>rfl
  grind [Lib.decodeGo,dW,Lib.decode_at]
 refine .inl ⟨Go.MuLone.run_callFunc_enter (fn:=f144) rfl ar rfl _ w,Calls.mono (Any.utf8_DecodeRuneInString Tryz.acq ⟨s.toArray⟩ w (adb hg)) fun e w' ⟨h1,h2⟩=>⟨_,h1,?_,h2⟩⟩;rw[hd];exact ao_ (.int _ _) (.int _ _)
def nS(s:ae):Bool:=decide ((dW s).1=65533)&&decide ((dW s).2<2)
theorem mX{s:ae}(h:s≠[]):1<=(dW s).2:=by
 unfold dW;rw[aaw awN]
 exact ave
def Qh{s:ae}(h:s≠[])(hb:nS s=false):(dW s).2<=s.length:=by
 have hl:0<s.length:=aev.2 h;unfold nS at hb;unfold dW at hb⊢;rw[aaw oM]at hb⊢
 exact ave
def zT:Nat->ae->Option (List Int)
 |_,[]=>some []
 |0,_=>none
 |n+1,s=>if nS s then none else(zT n (s.drop (dW s).2)).map fun l=>((dW s).1:Int)::l
def Dk(s:ae):Option (List Int):=zT s.length s
theorem EH:∀ {n m:Nat} {s:ae},s.length<=n->n<=m->zT m s=zT n s
 |n,m,[],_,_=>by cases n<;>cases m<;>rfl
 |0,m,b::s,h,_=>awv
 |n+1,0,b::s,_,h=>oM
 |n+1,m+1,b::s,h,hm=>by
  have hp:=mX (s:=b::s) sI;simp only[zT];rw[EH (n:=n) (m:=m) awN oM]
theorem PK{s:ae}(h:s≠[]):Dk s=if nS s then none else(Dk (s.drop (dW s).2)).map fun l=>((dW s).1:Int)::l:=by
 cases s with
 |nil=>grind
 |cons b s=>
  have hp:=mX (s:=b::s) sI;unfold Dk;simp only[aa5,zT];rw[EH (n:=((b::s).drop (dW (b::s)).2).length) (m:=s.length) (aaN _) awN]
def fJ(n:Int):Bool:=decide (0<=n)&&decide (n<=1114111)&&(decide (n<55296)||decide (57343<n))
def kQ(b:Int):Int×Int:=if b<128 then(1,b)else if 192<=b/\b<224 then(2,b - 192)else if 224<=b/\b<240 then(3,b - 224)else if 240<=b/\b<248 then(4,b - 240)else(0,0)
def qD(n:Int):Bool:=decide (n=9)||decide (n=10)||decide (n=13)||decide (n=32)
def Sk(n:Int):av prog 150 [I n] (.bool (qD n)):=by
 refine fF f150 [] [.tmp 2] ?_;repeat' first|with_reducible apply zJ<;>intro _|simp(disch:=omega) only[go_sem, *]
 all_goals first|exact .refl _|(refine aq (aaR D.bool ?_);first|(simp(disch:=omega) [*,qD];done)|(simp[qD]at *;omega)|(rw[abu];simp[qD]at *;omega))
end Go.V.St
namespace Go.V.St
open Go.Proofs Go.RowKit Go.V.Lx Go.V.Gr Go.V.Ty
def bw(n:Nat):ae:=if n<128 then[UInt8.ofNat n]else if n<2048 then[UInt8.ofNat (192+n / 64),UInt8.ofNat (128+n % 64)]else if n<65536 then[UInt8.ofNat (224+n / 4096),UInt8.ofNat (128+n / 64 % 64),UInt8.ofNat (128+n % 64)]else[UInt8.ofNat (240+n / 262144),UInt8.ofNat (128+n / 4096 % 64),UInt8.ofNat (128+n / 64 % 64),UInt8.ofNat (128+n % 64)]
def w8(x:Int)(m:Nat)(hx:x=m)(hm:m<256):D.int .u8 (IntKind.u8.wrap x)= .int .u8 ((UInt8.ofNat m).toNat:Int):=by
 subst hx;have h1:(UInt8.ofNat m).toNat=m:=awe
 grind [IntWalk.u8_in]
end Go.V.St
