/- Lemmas on plain data and programs: part B32. -/
import Derived.Test.YtkknfajchefgaaaGreatDoorB16
set_option linter.all false
set_option maxHeartbeats 8000000
namespace Go.V
open Go.Proofs Go.Proofs.Tryz Go.RowKit
variable {tab:List (Nat×List (Nat×Nat))} {base aN:Nat} {yl:Option (List (List D)×Nat×Nat×Nat)} {pn df:Bool} {P:Program} {bx:ab} {f:Nat} {ds:List D} {K2:Cl->D->ab->Prop} {pre:Prop} {d pd:D} {ok:Bool}
theorem fnQ{f:Nat}(fn:Func){ds:List D}{d pd:D}{ok:Bool}{c:Code}{n:Nat}{pre:Prop}(tab:List (Nat×List (Nat×Nat)))(rv:List ResultVar)
 (h:pre->∀bx,cD prog ⟨dD prog,tab,0,0+n,0,none,true,false⟩ c (Df prog rv (fun d' bx'=>ok=true/\d'=d/\bx'=bx) (fun d' bx'=>ok=false/\d'=pd/\bx'=bx)) (aM 0 ds) bx)
 (hc:fn.body=some c:=by exact rfl) (hr:fn.results=rv.toArray:=by exact rfl) (hn:fn.ntmps=n:=by exact rfl) (bm:codeOk tab n c=true:=by kernel_rfl)
 (hf:prog.funcs[f]? =some fn:=by exact rfl) (dJ:(fn.name== "runtime.NumGoroutine")=false:=by exact rfl) (hlen:decide (ds.length<=fn.ntmps)=true:=by kernel_rfl):Cq f ds pre ok d pd:=
 ⟨fun h1 bx=>dY Lx.mixed (eG c rv n hc hr hn bm (h h1 bx)) hf dJ hlen⟩
theorem fnH{f:Nat}(fn:Func){ds:List D}{d:D}{c:Code}{n:Nat}{pre:Prop}(tab:List (Nat×List (Nat×Nat)))(rv:List ResultVar)
 (h:pre->cD prog ⟨dD prog,tab,0,0+n,0,none,true,false⟩ c (Df prog rv (fun d' bx'=>aJ (aU bx' d') fun r=>bA r d) (fun _ _=>False)) (aM 0 ds) (fun _=> .none))
 (hc:fn.body=some c:=by exact rfl) (hr:fn.results=rv.toArray:=by exact rfl) (hn:fn.ntmps=n:=by exact rfl) (bm:codeOk tab n c=true:=by kernel_rfl)
 (hf:prog.funcs[f]? =some fn:=by exact rfl) (dJ:(fn.name== "runtime.NumGoroutine")=false:=by exact rfl) (hlen:decide (ds.length<=fn.ntmps)=true:=by kernel_rfl):Ct f ds pre d:=
 ⟨fun h1=>(dY (base:=0) Lx.mixed (eG c rv n hc hr hn bm (h h1)) hf dJ hlen).to (fun _ _ h=>h) fun d' bx' h=>by
  cases ho:aU bx' d' with
  |none=>rw[ho]at h;exact h.elim
  |some r=>rw[ho]at h;exact⟨r,rfl,h⟩⟩
def fresh{P:Program}{C:Calc}{c:Code}{Q:DX->Env->ab->Prop}{σ:Env}{bx:ab}(K:Env->ab->Prop)(h:K σ bx)(hk:∀σ bx,K σ bx->cD P C c Q σ bx):cD P C c Q σ bx:=hk σ bx h
end Go.V
