/-
  Deferred calls; functions that defer; deferred functions that recover.
-/
import Derived.Test.YtbnniokcdilpgaaDoorVw
import Derived.RecoverIn
namespace Go.V
open Go.RowKit
set_option linter.unusedVariables false

variable {P : Program} {C : Calc} {X : Ctx} {ρ : Rho} {σ : Env} {bx : Bxs} {a : Act} {w : World} {n : Nat}

/-- How an activation is being left: it returns; it panics with a value. -/
inductive RM where
  | ret
  | pan (d : D)

/-- what recover yields -/
def RM.val : RM → D
  | .ret => .raw .nilIface
  | .pan d => d

def MR (w : World) (S : Nat → Prop) (ρ : Rho) : RM → FrameMode → Prop
  | .ret, u => u = .returning
  | .pan d, u => ∃ v, u = .panicking [pe v] ∧ Rep w S ρ d v

theorem MR.imp {w w' : World} {S S' : Nat → Prop} {ρ ρ' : Rho} {m : RM} {u : FrameMode} (h : MR w S ρ m u) (hr : ∀ d v, Rep w S ρ d v → Rep w' S' ρ' d v) : MR w' S' ρ' m u := by
  cases m with
  | ret => exact h
  | pan d => obtain ⟨v, h1, h2⟩ := h; exact ⟨v, h1, hr _ _ h2⟩
theorem MR.ne {w : World} {S : Nat → Prop} {ρ : Rho} {m : RM} {u : FrameMode} (h : MR w S ρ m u) : u ≠ .run := by
  cases m with
  | ret => rw [show u = .returning from h]; simp
  | pan d => obtain ⟨v, h1, _⟩ := h; rw [h1]; simp
theorem MR.settle {w : World} {S : Nat → Prop} {ρ : Rho} {m : RM} {u : FrameMode} (h : MR w S ρ m u) : settle u = u := by
  cases m with
  | ret => rw [show u = .returning from h]; rfl
  | pan d => obtain ⟨v, h1, _⟩ := h; rw [h1]; rfl

/-- THE CONTRACT OF A DEFERRED CALL. -/
def CallsR (P : Program) (f : FuncId) (base : Nat) (ds : List D) (bx : Bxs) (m : RM) (Q : RM → Bxs → Prop) : Prop :=
  ∀ (X : Ctx) (ρ : Rho) (σ : Env) (a : Act) (w : World) (vs : Array Value) (u : FrameMode), Sim X ρ σ bx a w → X.lo = 0 → vs.size = ds.length → (∀ (i : Nat) x v, ds[i]? = some x → vs[i]? = some v → Rep w (Stab X ρ bx w) ρ x v) → MR w (Stab X ρ bx w) ρ m u →
    (callFunc f vs).run P w = .ok (.enter f vs) w ∧ CallsDIn Fence.wide 0 P f vs u w fun e u' w' => ∃ v, e = .returned v ∧ ∃ m' bx' ρ', Q m' bx' ∧ Sim X ρ' σ bx' a w' ∧ MR w' (Stab X ρ' bx' w') ρ' m' (Go.settle u')

/-- An activation is left: its deferred calls, the last one first. -/
def leaveR (P : Program) (nxt : Nat) : List D → RM → Bxs → (RM → Bxs → Prop) → Prop
  | [], m, bx, K => K m bx
  | .tup (.fn (.func f) caps :: args) :: l, m, bx, K => ∃ Q, CallsR P f nxt (args ++ caps) bx m Q ∧ ∀ m' bx', Q m' bx' → leaveR P nxt l m' bx' K
  | _ :: _, _, _, _ => False
def leaveD (P : Program) (nxt : Nat) (l : List D) (m : RM) (bx : Bxs) (K : RM → Bxs → Prop) (_ : Tok (K m bx) := ⟨⟩) : Prop := leaveR P nxt l m bx K

theorem CallsDIn.mono' {F : Fence} {f : FuncId} {args : Array Value} {u : FrameMode} {R R' : Ending → FrameMode → World → Prop} (h : CallsDIn F n P f args u w R) (hi : ∀ e u w, R e u w → R' e u w) : CallsDIn F n P f args u w R' := by
  refine ⟨h.1, fun c cs hu hr => ?_⟩
  obtain ⟨e, u', w', fr, g1, g2⟩ := h.2 c cs hu hr
  exact ⟨e, u', w', fr, hi _ _ _ g1, g2⟩

theorem leave_rec {fn : Func} {nxt : Nat} (hlo : X.lo = 0) (hml : X.ml = X.w0.heap.size) (hmd : X.md = 2) {K : RM → Bxs → Prop} {R : Ending → World → Prop} {tmps : Array Value} : ∀ (ds : List Deferred) (l : List D) (m : RM) (u : FrameMode) (a : Act) (ρ : Rho) (σ : Env) (bx : Bxs) (w : World), a.defers = ds → Sim X ρ σ bx a w → recD (σ dfS) = l →
    MR w (Stab X ρ bx w) ρ m u → leaveR P nxt l m bx K →
    (∀ ρ' σ' bx' w' m' u', (∀ t, t ≠ dfS → σ' t = σ t) → Sim X ρ' σ' bx' { a with defers := [] } w' → K m' bx' → MR w' (Stab X ρ' bx' w') ρ' m' u' → LeavesIn Fence.wide 0 P fn tmps R [] u' w') → LeavesInM Fence.wide 0 P fn tmps R ds u w
  | [], l, m, u, a, ρ, σ, bx, w, hd, h, hl, hm, hc, hR => by
    obtain ⟨hk, _⟩ := h.marks.resolve_left (by omega)
    rw [if_neg (by omega), hl, hd] at hk
    cases hk
    exact hR ρ σ bx w m u (fun _ _ => rfl) (h.switch h.size (.nil (.inr (.inr hl))) h.tmps) hc hm
  | d :: ds, l, m, u, a, ρ, σ, bx, w, hd, h, hl, hm, hc, hR => by
    obtain ⟨hk, _⟩ := h.marks.resolve_left (by omega)
    rw [if_neg (by omega), hl, hd] at hk
    refine ⟨hm.ne, ?_⟩
    cases hk with
    | @mark _ r _ h1 h2 h3 h4 =>
      have hw := (h.hold r _ h1).1
      obtain ⟨ρ', h', _, hre⟩ := h.take2 hd hml (by omega) (putObj_fr w r (.deferred none)) (World.putObj_heap_same (Array.getElem?_eq_some_iff.1 hw).1) hlo
      exact .inl ⟨r, _, rfl, run_takeDeferred hw, leave_rec hlo hml hmd ds l m u { a with defers := ds } ρ' σ bx _ rfl h' hl (hm.imp hre) hc hR⟩
    | @call f caps args l' vc va _ g1 g2 g3 g4 g5 =>
      obtain ⟨Q, hQ, hnext⟩ := hc
      have h' : Sim X ρ (upd σ dfS (.any l')) bx { a with defers := ds } w := h.switch h.size (.inr ⟨by rw [if_neg (by omega), upd_same]; exact g5, fun h3 => by omega⟩) (fun t => by
        simp only [upd]
        split
        · exact .pure (.any _ _)
        · exact h.tmps t)
      obtain ⟨k1, k2⟩ := hQ X ρ _ _ w (va ++ vc) u h' hlo (by simp [g1, g3]) (fun i x v hx hv => by
        by_cases hi : i < args.length
        · rw [List.getElem?_append_left hi] at hx
          rw [Array.getElem?_append_left (by omega)] at hv
          exact g4 i x v hx hv
        · rw [List.getElem?_append_right (by omega)] at hx
          rw [Array.getElem?_append_right (by omega), g3] at hv
          exact g2 _ x v hx hv) hm
      refine .inr ⟨by simp [Fence.wide], .func f, vc, f, va ++ vc, rfl, by simpa [invoke] using k1, fun _ _ => trivial, CallsDIn.mono' k2 ?_⟩
      rintro e u' w' ⟨v, rfl, m', bx', ρ', q1, q2, q3⟩
      exact leave_rec hlo hml hmd ds l' m' _ { a with defers := ds } ρ' _ bx' w' rfl q2 (by rw [upd_same]; rfl) q3 (hnext _ _ q1) fun ρ2 σ2 bx2 w2 m2 u2 e1 e2 e3 e4 => hR ρ2 σ2 bx2 w2 m2 u2 (fun t ht => by rw [e1 t ht]; simp [upd, ht]) e2 e3 e4

def rvOk (rv : List ResultVar) : Bool := rv.all fun r => match r with
  | .tmp t => t != dfS
  | .cell t _ => t != dfS
theorem resL_congr {σ σ' : Env} (h : ∀ t, t ≠ dfS → σ' t = σ t) : ∀ (rv : List ResultVar), rvOk rv = true → resL P σ' bx rv = resL P σ bx rv
  | [], _ => rfl
  | r :: rv, hr => by
    simp only [rvOk, List.all_cons, Bool.and_eq_true] at hr
    have := resL_congr h rv hr.2
    simp only [resL, this]
    cases r with
    | tmp t => simp only [resD]; rw [h t (by have := hr.1; simpa using this)]
    | cell t T => simp only [resD]; rw [h t (by have := hr.1; simpa using this)]

/-- behind the deferred calls -/
def leaveK (P : Program) (rv : List ResultVar) (σ : Env) (Post Pan : D → Bxs → Prop) : RM → Bxs → Prop
  | .ret, bx => bindD (resL P σ bx rv) fun rs => Post (tupD rs) bx
  | .pan d, bx => Pan d bx
def retP (P : Program) (nxt : Nat) (rv : List ResultVar) (Post Pan : D → Bxs → Prop) : DX → Env → Bxs → Prop
  | .normal, σ, bx | .ret, σ, bx => leaveD P nxt (recD (σ dfS)) .ret bx (leaveK P rv σ Post Pan)
  | .pan d, σ, bx => leaveD P nxt (recD (σ dfS)) (.pan d) bx (leaveK P rv σ Post Pan)
  | _, _, _ => False

/-- A function that defers. -/
def fnP (P : Program) (O : Orac) (tab : List (Nat × List (Nat × Nat))) (fn : Func) (base : Nat) (ds : List D) (bx : Bxs) (Post Pan : D → Bxs → Prop) : Prop :=
  ∃ c, fn.body = some c ∧ codeOk tab fn.ntmps c = true ∧ rvOk fn.results.toList = true ∧ cD P ⟨O, tab, base, base + fn.ntmps, 0, none, true, true⟩ c (retP P (base + fn.ntmps) fn.results.toList Post Pan) (argsF 0 ds) bx

theorem fnP_sound (hm : P.follows .mixedOrders = true) {f : FuncId} {fn : Func} {O : Orac} {tab : List (Nat × List (Nat × Nat))} {base : Nat} {ds : List D} {bx : Bxs} {Q Qp : D → Bxs → Prop} (hf : P.funcs[f]? = some fn)
    (hname : (fn.name == "runtime.NumGoroutine") = false) (hlen : ds.length ≤ fn.ntmps) (hO : Ok P O) (h : fnP P O tab fn base ds bx Q Qp) : CallsB P f base ds bx Q Qp := by
  obtain ⟨c, hb, hok, hrv, hc⟩ := h
  obtain ⟨hN, hok⟩ : fn.ntmps ≤ dfS ∧ codeOk1 tab fn.ntmps c = true := by simpa [codeOk, dfS] using hok
  intro X ρ σ a w vs hS xlo hl hv
  refine .inl ⟨Go.MuLone.run_callFunc_enter hf hname hb vs w, callsIn_wide.1 (callsIn_of_wp_marks (F := Fence.wide) (n := 0) hf hb trivial ?_)⟩
  obtain ⟨k1, k2⟩ := args_frame (N := fn.ntmps) hl hlen hv
  have hrec : recD (argsF 0 ds dfS) = [] := by
    rw [argsF_at, if_neg (by omega), List.getElem?_eq_none (by omega)]
    rfl
  have h0 := hS.sub (E := fun _ => False) (N := fn.ntmps) (ml := w.heap.size) (md := 2) (σ' := argsF 0 ds) (a' := { tmps := vs ++ Array.replicate (fn.ntmps - vs.size) undef, defers := [] }) hN (fun _ h => h.elim) k1 (.nil (.inr (.inr hrec))) (Nat.le_refl _) k2
  refine code_sound hm c none 0 ⟨O, tab, base, base + fn.ntmps, 0, none, true, true⟩ _ _ _ _ _ _ _ w ⟨hO, Nat.le_refl _, Nat.zero_le _, (fun _ _ _ hk => by cases hk), (fun _ => rfl), fun hf => by have : (2 : Nat) = 3 := hf; omega⟩ (fun l hl => by cases hl) hok h0 hc fun e e' σ' bx' a' w' ρ' hx hq h' => ?_
  have fin : ∀ m u, MR w' (Stab X ρ' bx' w') ρ' m u → leaveR P (base + fn.ntmps) (recD (σ' dfS)) m bx' (leaveK P fn.results.toList σ' Q Qp) →
      LeavesInM Fence.wide 0 P fn a'.tmps (fun e w' => (∃ v, e = .returned v ∧ ∃ d bx' ρ', Q d bx' ∧ Sim X ρ' σ bx' a w' ∧ Rep w' (Stab X ρ' bx' w') ρ' d v) ∨ ∃ v, e = .panicked [pe v] ∧ ∃ d bx' ρ', Qp d bx' ∧ Sim X ρ' σ bx' a w' ∧ Rep w' (Stab X ρ' bx' w') ρ' d v) a'.defers u w' := by
    intro m u hmu hq
    refine leave_rec rfl rfl rfl a'.defers _ m u a' ρ' σ' bx' w' rfl h' rfl hmu hq fun ρ2 σ2 bx2 w2 m2 u2 he h2 hk hm2 => ?_
    have hback : Sim X ρ2 σ bx2 a w2 := hS.back rfl rfl h2 (fun _ h => h.elim) (fun _ h => h.elim) (fun _ h => h.elim) (hS.y0 xlo _ _)
    cases m2 with
    | ret =>
      rw [show u2 = .returning from hm2]
      simp only [leaveK] at hk
      cases hr : resL P σ' bx2 fn.results.toList with
      | none => rw [hr] at hk; exact hk.elim
      | some rs =>
        rw [hr] at hk
        obtain ⟨v, g1, g2⟩ := results_sound h2 (fn := fn) (by rw [resL_congr he _ hrv]; exact hr)
        exact ⟨v, g1, .inl ⟨v, rfl, tupD rs, bx2, ρ2, hk, hback, g2⟩⟩
    | pan d =>
      obtain ⟨v, hu, hv⟩ := hm2
      rw [hu]
      exact .inr ⟨v, rfl, d, bx2, ρ2, hk, hback, hv⟩
  rcases hx.cases with ⟨rfl, rfl⟩ | ⟨rfl, rfl⟩ | ⟨_, rfl, rfl⟩ | ⟨_, rfl, rfl⟩ | ⟨d, v, rfl, rfl, hv⟩
  · exact fin .ret _ rfl hq
  · exact fin .ret _ rfl hq
  · exact hq.elim
  · exact hq.elim
  · exact fin (.pan d) _ ⟨v, rfl, hv⟩ hq

/-! Deferred functions -/

/-- What stood before an activation stands behind it. -/
theorem Sim.keep {ρ2 : Rho} {σ2 : Env} {bx2 : Bxs} {a2 : Act} {w2 : World} {E : Nat → Prop} {N ml md : Nat} (h : Sim X ρ σ bx a w) (k : Sim (X.sub ρ bx w E N ml md) ρ2 σ2 bx2 a2 w2) (hE : ∀ b, ¬ E b) : ∀ d v, Rep w (Stab X ρ bx w) ρ d v → Rep w2 (Stab X ρ2 bx2 w2) ρ2 d v := by
  have hlive : ∀ b, Stab X ρ bx w b → ¬ (X.sub ρ bx w E N ml md).M b := by
    rintro b hb ⟨t, p, hk, hp, rfl⟩
    exact hb.2.2 t hk p hp rfl
  refine fun d v hd => hd.mono (fun b hb => k.fr.block b hb.1 (fun hm => ?_)) (fun b hb => ?_) k.r0
  · rcases hm with hm | hm
    · exact hlive b hb hm
    · exact hE b hm
  · refine ⟨Nat.lt_of_lt_of_le hb.1 k.fr.size, hb.2.1, fun t ht p hp e => ?_⟩
    obtain ⟨p', hp', _, _, hpb, _⟩ := k.box t (by rw [ht]; decide)
    rw [hp] at hp'; injection hp' with hp'; subst hp'
    rcases hpb.2 ht with h1 | h1
    · have := hb.1; simp only [Ctx.sub] at h1; omega
    · exact hlive b hb (e ▸ h1)

/-- operations that yield, one after the other -/
def recOps (P : Program) : List Oper → Env → Bxs → Option Env
  | [], σ, _ => some σ
  | o :: l, σ, bx => if o.guard.isSome then none else match valD P σ bx o.op with
    | some v => recOps P l (put σ o.dst v) bx
    | none => none

def retR (Post : Bxs → Prop) : DX → Env → Bxs → Prop
  | .normal, _, bx | .ret, _, bx => Post bx
  | _, _, _ => False

def dstOk (N : Nat) (l : List Oper) : Bool := l.all fun o => match o.dst with
  | some d => decide (d < N)
  | none => true

def Orac.noIt (O : Orac) : Orac := ⟨O.to, O.toB, fun _ _ _ _ => False⟩

/-- A deferred function: it recovers first; it does not recover. -/
def fnR (P : Program) (O : Orac) (tab : List (Nat × List (Nat × Nat))) (fn : Func) (base : Nat) (ds : List D) (bx : Bxs) (m : RM) (Post : RM → Bxs → Prop) : Prop :=
  fn.results.toList = [] ∧ ((∃ c, fn.body = some c ∧ codeOk tab fn.ntmps c = true ∧ cD P ⟨O.noIt, tab, base, base + fn.ntmps, 0, none, false, false⟩ c (retR (Post m)) (argsF 0 ds) bx) ∨
  (∃ id t args ats ty pos af L rest σ', fn.body = some (.seq (.region id (⟨some t, .call { callee := .builtin .recover, args, argTypes := ats }, ty, pos, af, none⟩ :: L).toArray false) rest) ∧ t < fn.ntmps ∧ dstOk fn.ntmps L = true ∧ codeOk tab fn.ntmps rest = true ∧
    recOps P L (upd (argsF 0 ds) t m.val) bx = some σ' ∧ cD P ⟨O.noIt, tab, base, base + fn.ntmps, 0, none, false, false⟩ rest (retR (Post .ret)) σ' bx))

theorem Ok.noIt {O : Orac} (h : Ok P O) : Ok P O.noIt := ⟨h.to, h.toB, fun _ _ _ _ h => h.elim⟩

theorem recOps_sound {ops : Array Oper} {Q : Exit → Act → List Frame → World → Prop} {cs : List Frame} : ∀ (L pre : List Oper) (σ σ' : Env) (a : Act) (ρ : Rho) (w : World), ops.toList = pre ++ L → dstOk X.N L = true → Sim X ρ σ bx a w → recOps P L σ bx = some σ' →
    (∀ ρ' a' w', (∀ d v, Rep w (Stab X ρ bx w) ρ d v → Rep w' (Stab X ρ' bx w') ρ' d v) → Sim X ρ' σ' bx a' w' → Q .normal a' cs w') → wpOpsSIn Fence.wide n P ops Q (List.range' pre.length L.length) a cs w
  | [], pre, σ, σ', a, ρ, w, hops, hd, h, hr, hQ => by
    simp only [recOps, Option.some.injEq] at hr
    subst hr
    exact hQ ρ a w (fun _ _ h => h) h
  | o :: L, pre, σ, σ', a, ρ, w, hops, hd, h, hr, hQ => by
    simp only [recOps] at hr
    split at hr
    · cases hr
    · rename_i hg
      have hg : o.guard = none := by simpa using hg
      simp only [dstOk, List.all_cons, Bool.and_eq_true] at hd
      split at hr
      · rename_i v hv
        obtain ⟨u, w', hrun, hb, hrep⟩ := val_sound h o hv
        have ho : ops[pre.length]? = some o := by
          rw [← Array.getElem?_toList, hops]; simp
        have hwant : Region.wanted o (yielded ops a.tmps) = true := by simp [Region.wanted, hg]
        simp only [List.length_cons, List.range'_succ, wpOpsSIn, ho, hwant, if_true, hrun]
        refine ⟨fun _ _ => trivial, ?_⟩
        have hx := h.ext hb
        have hS : ∀ b, Stab X ρ bx w b → Stab X ρ bx w' b := fun b hb' => ⟨Nat.lt_of_lt_of_le hb'.1 hb.size, hb'.2⟩
        have hp : Sim X ρ (put σ o.dst v) bx (a.put o.dst u) w' := hx.put (fun t ht => by have := hd.1; rw [ht] at this; simpa using this) hrep
        have := recOps_sound (ops := ops) L (pre ++ [o]) (put σ o.dst v) σ' (a.put o.dst u) ρ w' (by simp [hops]) hd.2 hp hr (fun ρ' a' w2 h2 h3 => hQ ρ' a' w2 (fun d v hdv => h2 d v (hdv.mono (fun b hb' => hb.block b hb'.1) hS (fun _ _ _ h => h))) h3)
        simpa using this
      · cases hr

theorem fnR_sound (hm : P.follows .mixedOrders = true) {f : FuncId} {fn : Func} {O : Orac} {tab : List (Nat × List (Nat × Nat))} {base : Nat} {ds : List D} {bx : Bxs} {m : RM} {Q : RM → Bxs → Prop} (hf : P.funcs[f]? = some fn)
    (hname : (fn.name == "runtime.NumGoroutine") = false) (hlen : ds.length ≤ fn.ntmps) (hO : Ok P O) (h : fnR P O tab fn base ds bx m Q) : CallsR P f base ds bx m Q := by
  obtain ⟨hres, h⟩ := h
  intro X ρ σ a w vs u hS xlo hl hv hmu
  obtain ⟨k1, k2⟩ := args_frame (N := fn.ntmps) hl hlen hv
  have fin : ∀ (c₀ : Frame) (cs : List Frame) (u' : FrameMode) (m' : RM) (e : DX) (e' : Exit) (σ' : Env) (bx' : Bxs) (a' : Act) (w' : World) (ρ' : Rho) (E : Nat → Prop), XR w' (Stab X ρ' bx' w') ρ' e e' → retR (Q m') e σ' bx' → Sim (X.sub ρ bx w (fun _ => False) fn.ntmps w.heap.size 3) ρ' σ' bx' a' w' →
      MR w' (Stab X ρ' bx' w') ρ' m' (Go.settle u') →
      bodyPostS P fn c₀ cs (fun e u' w' => ∃ v, e = .returned v ∧ ∃ m' bx' ρ', Q m' bx' ∧ Sim X ρ' σ bx' a w' ∧ MR w' (Stab X ρ' bx' w') ρ' m' (Go.settle u')) e' a' ({ c₀ with mode := u' } :: cs) w' := by
    intro c₀ cs u' m' e e' σ' bx' a' w' ρ' E hx hq h' hm'
    have hd : a'.defers = [] := by
      rcases h'.marks with h3 | h3
      · have : (3 : Nat) = 1 := h3; omega
      · exact h3.2 rfl
    obtain ⟨v, g1, g2⟩ := results_sound h' (fn := fn) (rs := []) (by rw [hres]; rfl)
    have hback : Sim X ρ' σ bx' a w' := hS.back rfl rfl h' (fun _ h => h.elim) (fun _ h => h.elim) (fun _ h => h.elim) (hS.y0 xlo _ _)
    rcases hx.cases with ⟨rfl, rfl⟩ | ⟨rfl, rfl⟩ | ⟨_, rfl, rfl⟩ | ⟨_, rfl, rfl⟩ | ⟨d, v, rfl, rfl, hv⟩
    · exact ⟨hd, u', rfl, v, g1, v, rfl, m', bx', ρ', hq, hback, hm'⟩
    · exact ⟨hd, u', rfl, v, g1, v, rfl, m', bx', ρ', hq, hback, hm'⟩
    all_goals exact hq.elim
  have hG : Good P ⟨O.noIt, tab, base, base + fn.ntmps, 0, none, false, false⟩ (X.sub ρ bx w (fun _ => False) fn.ntmps w.heap.size 3) := ⟨hO.noIt, Nat.le_refl _, Nat.zero_le _, (fun _ _ _ hk => by cases hk), (fun hf => by cases hf), fun _ _ _ _ _ h => h⟩
  have hrec : recD (argsF 0 ds dfS) = [] ∨ fn.ntmps > dfS := by
    by_cases hN : fn.ntmps > dfS
    · exact .inr hN
    · refine .inl ?_
      rw [argsF_at, if_neg (by omega), List.getElem?_eq_none (by omega)]
      rfl
  rcases h with ⟨c, hb, hok, hc⟩ | ⟨id, t, args, ats, ty, pos, af, L, rest, σ1, hb, ht, hL, hok, hrecO, hc⟩
  · obtain ⟨hN, hok⟩ : fn.ntmps ≤ dfS ∧ codeOk1 tab fn.ntmps c = true := by simpa [codeOk, dfS] using hok
    have h0 := hS.sub (E := fun _ => False) (N := fn.ntmps) (ml := w.heap.size) (md := 3) (σ' := argsF 0 ds) (a' := { tmps := vs ++ Array.replicate (fn.ntmps - vs.size) undef, defers := [] }) hN (fun _ h => h.elim) k1 (.nil (.inr (.inr (hrec.resolve_right (by omega))))) (Nat.le_refl _) k2
    refine ⟨Go.MuLone.run_callFunc_enter hf hname hb vs w, callsDIn_of_wpSIn hf hb trivial fun c₀ cs hu => wpSIn_of_wpIn rfl ?_⟩
    refine code_sound hm c none 0 _ _ _ _ _ _ _ _ w hG (fun l hl => by cases hl) hok h0 hc fun e e' σ' bx' a' w' ρ' hx hq h' => ?_
    subst hu
    have hm' : MR w' (Stab X ρ' bx' w') ρ' m c₀.mode := hmu.imp (hS.keep h' fun _ hb => hb.elim)
    exact fin c₀ cs c₀.mode m e e' σ' bx' a' w' ρ' (fun _ => False) hx hq h' (by rw [hmu.settle]; exact hm')
  · obtain ⟨hN, hok⟩ : fn.ntmps ≤ dfS ∧ codeOk1 tab fn.ntmps rest = true := by simpa [codeOk, dfS] using hok
    have hp0 : PRep w (Stab X ρ bx w) (.raw .nilIface) .nilIface := .raw _
    have h0 := hS.sub (E := fun _ => False) (N := fn.ntmps) (ml := w.heap.size) (md := 3) (σ' := argsF 0 ds) (a' := { tmps := vs ++ Array.replicate (fn.ntmps - vs.size) undef, defers := [] }) hN (fun _ h => h.elim) k1 (.nil (.inr (.inr (hrec.resolve_right (by omega))))) (Nat.le_refl _) k2
    refine ⟨Go.MuLone.run_callFunc_enter hf hname hb vs w, callsDIn_of_wpSIn hf hb trivial fun c₀ cs hu => wpSIn_seq (wpSIn_region ?_)⟩
    have hrest : ∀ (u' : FrameMode) (v : Value), Go.settle u' = .returning → Rep w (Stab X ρ bx w) ρ m.val v →
        wpOpsSIn Fence.wide 0 P (⟨some t, .call { callee := .builtin .recover, args, argTypes := ats }, ty, pos, af, none⟩ :: L).toArray (Exit.thenS (rest.wpSIn Fence.wide 0 P (bodyPostS P fn c₀ cs (fun e u' w' => ∃ v, e = .returned v ∧ ∃ m' bx' ρ', Q m' bx' ∧ Sim X ρ' σ bx' a w' ∧ MR w' (Stab X ρ' bx' w') ρ' m' (Go.settle u')))) (bodyPostS P fn c₀ cs (fun e u' w' => ∃ v, e = .returned v ∧ ∃ m' bx' ρ', Q m' bx' ∧ Sim X ρ' σ bx' a w' ∧ MR w' (Stab X ρ' bx' w') ρ' m' (Go.settle u'))))
          (List.range' 1 L.length) (({ tmps := vs ++ Array.replicate (fn.ntmps - vs.size) undef, defers := [] } : Act).put (some t) v) ({ c₀ with mode := u' } :: cs) w := by
      intro u' v hu' hv'
      have hp := h0.put (dst := some t) (d := m.val) (v := v) (fun t' ht' => by injection ht' with ht'; subst ht'; exact ht) hv'
      refine recOps_sound L [⟨some t, .call { callee := .builtin .recover, args, argTypes := ats }, ty, pos, af, none⟩] _ σ1 _ ρ w (by simp) hL hp hrecO fun ρ2 a2 w2 _ h2 => ?_
      refine wpSIn_of_wpIn rfl ?_
      refine code_sound hm rest none 0 _ _ _ _ _ _ _ _ w2 hG (fun l hl => by cases hl) hok h2 hc fun e e' σ' bx' a' w' ρ' hx hq h' => ?_
      exact fin c₀ cs u' .ret e e' σ' bx' a' w' ρ' (fun _ => False) hx hq h' hu'
    have hops : (⟨some t, .call { callee := .builtin .recover, args, argTypes := ats }, ty, pos, af, none⟩ :: L).toArray[0]? = some (⟨some t, .call { callee := .builtin .recover, args, argTypes := ats }, ty, pos, af, none⟩ : Oper) := by simp
    have hrun : ∀ (ev : Operand → Value) , (execOp ev (⟨some t, .call { callee := .builtin .recover, args, argTypes := ats }, ty, pos, af, none⟩ : Oper)).run P w = .ok .recover w := fun ev => by
      simp [execOp, resolve, invoke, builtin]
    have hr1 : List.range (⟨some t, .call { callee := .builtin .recover, args, argTypes := ats }, ty, pos, af, none⟩ :: L).toArray.size = 0 :: List.range' 1 L.length := by
      simp [List.range_eq_range', List.range'_succ]
    rw [hr1]
    simp only [wpOpsSIn, hops, hrun, Region.wanted, if_true]
    refine ⟨fun _ _ => trivial, ?_⟩
    cases m with
    | ret =>
      have hu' : u = .returning := hmu
      have : recoverD (c₀ :: cs) = none := by simp [recoverD, hu, hu']
      simp only [this]
      have := hrest c₀.mode .nilIface (by rw [hu, hu']; rfl) (.pure (.raw _))
      exact this
    | pan d =>
      obtain ⟨v, hu', hv'⟩ := hmu
      have : recoverD (c₀ :: cs) = some (v, { c₀ with mode := .panicking [{ v, recovered := true }] } :: cs) := by simp [recoverD, hu, hu', pe]
      simp only [this]
      exact hrest (.panicking [{ v, recovered := true }]) v rfl hv'

/-- Called with nothing of its caller's at hand. -/
theorem CallsB.to {f : FuncId} {ds : List D} {d : D} {Q Qp : D → Bxs → Prop} (h : CallsB P f 0 ds (fun _ => .none) Q Qp) (hp : ∀ d bx, ¬ Qp d bx) (hQ : ∀ d' bx', Q d' bx' → ∃ r, outD bx' d' = some r ∧ Weak r d) : CallsTo P f ds d := by
  intro w S vs hS hglo hl hv
  let X0 : Ctx := ⟨w, S, w.heap.size, fun _ => False, fun _ => False, 0, ⟨fun _ _ => none, fun _ => none⟩, w.heap.size, 0, fun _ _ => True, 0⟩
  have h0 : Sim X0 ⟨fun _ _ => none, fun _ => none⟩ (fun _ => .raw undef) (fun _ => .none) { tmps := #[], defers := [] } w :=
    ⟨.refl _ _, hS, Nat.le_refl _, fun _ h => h.elim, fun _ h => h.elim, rfl, .nil (.inl rfl), Nat.zero_le _, Nat.le_refl _, fun t => by rw [show (#[] : Array Value).getD t undef = undef from by simp [Array.getD]]; exact Rep.pure (.raw _), .pure (hglo.mono (fun _ _ => rfl) (fun b hb => ⟨hS b hb, .inl hb, fun t ht => by simp [Bx.none] at ht⟩)), fun t ht => absurd rfl ht, fun t t' p p' ht => by simp [Bx.none] at ht, (fun t e p hp => by cases hp), (fun t e p hp => by cases hp), (fun t e hp => by cases hp), (fun t e hp => by cases hp), fun _ _ _ _ _ => trivial, trivial, fun _ _ _ => trivial, (fun t e hp => by cases hp)⟩
  have hr := h _ _ _ _ w vs h0 rfl hl (fun i x v hx hv' => .pure ((hv i x v hx hv').mono (fun _ _ => rfl) (fun b hb => ⟨hS b hb, .inl hb, fun t ht => by simp [Bx.none] at ht⟩)))
  have fin : ∀ v w', (∃ d bx' ρ', Q d bx' ∧ Sim X0 ρ' (fun _ => .raw undef) bx' { tmps := #[], defers := [] } w' ∧ Rep w' (Stab X0 ρ' bx' w') ρ' d v) → Go.V.Post w S d v w' := by
    rintro v w' ⟨d', bx', ρ', hq, g1, g3⟩
    obtain ⟨r, ho, hw⟩ := hQ d' bx' hq
    refine ⟨Rep.weak hw (outD_sound g1 _ _ v ⟨fun b hb => ?_, fun t _ hk p hp => ?_⟩ g3 ho), ?_⟩
    · rcases hb.2.1 with h1 | h1
      · exact .inl h1
      · exact .inr ⟨h1, hb.1⟩
    · obtain ⟨p', hp', _, _, hpb, hh⟩ := g1.box t hk
      rw [hp] at hp'; injection hp' with hp'; subst hp'
      exact .inr ⟨hpb.1, hh.lt⟩
    · exact ⟨g1.fr.os, g1.fr.tape, g1.fr.output, g1.fr.size, fun k hk => g1.fr.block k hk (fun hm => hm.elim id id)⟩
  rcases hr with ⟨k1, k2⟩ | ⟨v, w', k1, k2⟩
  · refine .inl ⟨k1, Calls.mono k2 ?_⟩
    rintro e w' (⟨v, rfl, hg⟩ | ⟨v, rfl, d', bx', ρ', hq, _⟩)
    · exact ⟨v, rfl, fin v w' hg⟩
    · exact absurd hq (hp _ _)
  · exact .inr ⟨v, w', k1, fin v w' k2⟩

/-! The rules by which it is evaluated -/
section
variable {Q : DX → Env → Bxs → Prop} {Post Pan : D → Bxs → Prop} {nxt : Nat} {K : RM → Bxs → Prop}
@[go_sem ↓] theorem retP_ret (rv : List ResultVar) : retP P nxt rv Post Pan .ret σ bx = leaveD P nxt (recD (σ dfS)) .ret bx (leaveK P rv σ Post Pan) := Eq.trans rfl rfl
@[go_sem ↓] theorem retP_normal (rv : List ResultVar) : retP P nxt rv Post Pan .normal σ bx = leaveD P nxt (recD (σ dfS)) .ret bx (leaveK P rv σ Post Pan) := Eq.trans rfl rfl
@[go_sem ↓] theorem retP_pan (rv : List ResultVar) (d : D) : retP P nxt rv Post Pan (.pan d) σ bx = leaveD P nxt (recD (σ dfS)) (.pan d) bx (leaveK P rv σ Post Pan) := Eq.trans rfl rfl
@[go_sem ↓] theorem retR_ret (Post : Bxs → Prop) : retR Post .ret σ bx = Post bx := Eq.trans rfl rfl
@[go_sem ↓] theorem retR_normal (Post : Bxs → Prop) : retR Post .normal σ bx = Post bx := Eq.trans rfl rfl
@[go_sem] theorem dfS_eq (n : Nat) (h : n < 1000000000) : (dfS = n) = False := by simp only [dfS]; exact eq_false (by omega)
@[go_sem] theorem eq_dfS (n : Nat) (h : n < 1000000000) : (n = dfS) = False := by simp only [dfS]; exact eq_false (by omega)
/-- A call is deferred. -/
def deferV (d : D) (f : D → Prop) (_ : Tok (f .undef) := ⟨⟩) : Prop := match d with
  | .fn (.func g) caps => f (.fn (.func g) caps)
  | _ => False
@[go_sem] theorem deferV_fn (g : Nat) (caps : List D) (f : D → Prop) : deferV (.fn (.func g) caps) f = f (.fn (.func g) caps) := Eq.trans rfl rfl
@[go_sem ↓] theorem stepD_defer {dst : Option Tmp} {ty : TypeId} {pos : String} {af : Array Edge} {g : Option (Nat × Bool)} {K1 : Cl → Env → Bxs → Prop} (fo : Operand) (l : List Operand) (ats : Array TypeId) : stepD P C ⟨dst, .defer { callee := .value fo, args := l.toArray, argTypes := ats }, ty, pos, af, g⟩ σ bx K1 = (C.df = true ∧ deferV (ev σ fo) fun fv => K1 .n (put (upd σ dfS (pushD (σ dfS) fv (l.map (ev σ)))) dst (.raw undef)) bx) := by
  simp only [stepD, deferV]
  cases ev σ fo with
  | fn f caps => cases f <;> rfl
  | _ => rfl
@[go_sem] theorem recD_any (l : List D) : recD (.any l) = l := Eq.trans rfl rfl
@[go_sem] theorem recD_raw (v : Value) : recD (.raw v) = [] := Eq.trans rfl rfl
@[go_sem] theorem pushD_raw (v : Value) (f : D) (args : List D) : pushD (.raw v) f args = .any [.tup (f :: args)] := Eq.trans rfl rfl
@[go_sem] theorem pushD_any (l : List D) (f : D) (args : List D) : pushD (.any l) f args = .any (.tup (f :: args) :: l) := Eq.trans rfl rfl
@[go_sem] theorem leaveD_nil (m : RM) : leaveD P nxt [] m bx K = K m bx := Eq.trans rfl rfl
@[go_sem] theorem leaveK_ret (rv : List ResultVar) : leaveK P rv σ Post Pan .ret bx = bindD (resL P σ bx rv) fun rs => Post (tupD rs) bx := Eq.trans rfl rfl
@[go_sem] theorem leaveK_pan (rv : List ResultVar) (d : D) : leaveK P rv σ Post Pan (.pan d) bx = Pan d bx := Eq.trans rfl rfl
@[go_sem] theorem val_ret : RM.val .ret = .raw .nilIface := Eq.trans rfl rfl
@[go_sem] theorem val_pan (d : D) : RM.val (.pan d) = d := Eq.trans rfl rfl
/-- A deferred call is let in. -/
theorem leave_call {f : FuncId} {caps args l : List D} {m : RM} (Q : RM → Bxs → Prop) (h : CallsR P f nxt (args ++ caps) bx m Q) (hk : ∀ m' bx', Q m' bx' → leaveD P nxt l m' bx' K) : leaveD P nxt (.tup (.fn (.func f) caps :: args) :: l) m bx K := ⟨Q, h, hk⟩
@[go_sem] theorem recOps_nil : recOps P [] σ bx = some σ := Eq.trans rfl rfl
def recK (P : Program) (l : List Oper) (σ : Env) (bx : Bxs) (dst : Option Tmp) : Option D → Option Env
  | some v => recOps P l (put σ dst v) bx
  | none => none
@[go_sem] theorem recK_some (l : List Oper) (dst : Option Tmp) (v : D) : recK P l σ bx dst (some v) = recOps P l (put σ dst v) bx := Eq.trans rfl rfl
@[go_sem] theorem recOps_cons (dst : Option Tmp) (op : Op) (ty : TypeId) (pos : String) (af : Array Edge) (l : List Oper) : recOps P (⟨dst, op, ty, pos, af, none⟩ :: l) σ bx = recK P l σ bx dst (valD P σ bx op) := by
  simp only [recOps, recK, Option.isSome_none, Bool.false_eq_true, if_false]
@[go_sem] theorem valD_assign (x : Operand) : valD P σ bx (.assign x) = some (ev σ x) := Eq.trans rfl rfl
@[go_sem] theorem valD_move (x : Operand) : valD P σ bx (.move x) = some (ev σ x) := Eq.trans rfl rfl
end

theorem fnP_intro {O : Orac} {tab : List (Nat × List (Nat × Nat))} {fn : Func} {base : Nat} {ds : List D} {bx : Bxs} {Post Pan : D → Bxs → Prop} (c : Code) (rv : List ResultVar) (n : Nat) (hc : fn.body = some c) (hr : fn.results = rv.toArray) (hn : fn.ntmps = n) (hok : codeOk tab n c = true) (hrv : rvOk rv = true)
    (h : cD P ⟨O, tab, base, base + n, 0, none, true, true⟩ c (retP P (base + n) rv Post Pan) (argsF 0 ds) bx) : fnP P O tab fn base ds bx Post Pan := by
  subst hn
  refine ⟨c, hc, hok, by rw [hr]; simpa using hrv, ?_⟩
  rw [hr]
  simpa using h
theorem fnR_intro {O : Orac} {tab : List (Nat × List (Nat × Nat))} {fn : Func} {base : Nat} {ds : List D} {bx : Bxs} {m : RM} {Post : RM → Bxs → Prop} {id t : Nat} {args : Array Operand} {ats : Array TypeId} {ty : TypeId} {pos : String} {af : Array Edge} (L : List Oper) (rest : Code) (n : Nat) (hc : fn.body = some (.seq (.region id (⟨some t, .call { callee := .builtin .recover, args, argTypes := ats }, ty, pos, af, none⟩ :: L).toArray false) rest)) (hr : fn.results = #[]) (hn : fn.ntmps = n)
    (hd : (decide (t < n) && dstOk n L) = true) (hok : codeOk tab n rest = true) (σ' : Env)
    (ho : recOps P L (upd (argsF 0 ds) t m.val) bx = some σ') (h : cD P ⟨O.noIt, tab, base, base + n, 0, none, false, false⟩ rest (retR (Post .ret)) σ' bx) : fnR P O tab fn base ds bx m Post := by
  subst hn
  simp only [Bool.and_eq_true, decide_eq_true_eq] at hd
  exact ⟨by rw [hr], .inr ⟨id, t, args, ats, ty, pos, af, L, rest, σ', hc, hd.1, hd.2, hok, ho, h⟩⟩

end Go.V
