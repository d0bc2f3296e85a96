/-
  Functions: what the data level says of a function's text is its contract.
-/
import Derived.Test.YtbnniokcdilpgaaDoorVv
import Derived.RangeFuncLeaves
namespace Go.V
open Go.RowKit

variable {P : Program} {C : Calc} {X : Ctx} {ρ : Rho} {σ : Env} {bx : Bxs} {a : Act} {w : World} {r : Option Nat} {n : Nat}

/-- One result, read. -/
def resRead (tmps : Array Value) : ResultVar → Sem Value
  | .tmp t => pure (tmps.getD t undef)
  | .cell a t => do loadVar t (← asAddr (tmps.getD a undef))

theorem res_sound (h : Sim X ρ σ bx a w) : ∀ (rv : List ResultVar) (rs : List D), resL P σ bx rv = some rs → ∃ vs : List Value, (rv.mapM (resRead a.tmps)).run P w = .ok vs w ∧ vs.length = rs.length ∧ ∀ (i : Nat) d v, rs[i]? = some d → vs[i]? = some v → Rep w (Stab X ρ bx w) ρ d v
  | [], rs, hr => by
    simp only [resL, Option.some.injEq] at hr
    subst hr
    exact ⟨[], by simp, rfl, fun i d v hd => by simp at hd⟩
  | x :: rv, rs, hr => by
    simp only [resL] at hr
    obtain ⟨y, ys, h1, h2, rfl⟩ := consO_inv hr
    obtain ⟨vs, g1, g2, g3⟩ := res_sound h rv ys h2
    have hx : ∃ v, (resRead a.tmps x).run P w = .ok v w ∧ Rep w (Stab X ρ bx w) ρ y v := by
      cases x with
      | tmp t =>
        simp only [resD, Option.some.injEq] at h1
        subst h1
        exact ⟨_, by simp only [resRead, Sem.run_pure], h.tmps t⟩
      | cell t T =>
        simp only [resD] at h1
        obtain ⟨ad, v, k1, k2, k3⟩ := loadV_sound h (h.tmps t) h1
        exact ⟨v, by simp only [resRead, k1, asAddr, Sem.run_bind, Sem.run_pure, Result.andThen_ok, k2], k3⟩
    obtain ⟨v, k1, k2⟩ := hx
    refine ⟨v :: vs, by simp only [List.mapM_cons, Sem.run_bind, k1, Result.andThen_ok, g1, Sem.run_pure], by simp [g2], fun i d u hd hu => ?_⟩
    cases i with
    | zero => simp only [List.getElem?_cons_zero, Option.some.injEq] at hd hu; subst hd; subst hu; exact k2
    | succ i => exact g3 i d u (by simpa using hd) (by simpa using hu)

theorem results_sound (h : Sim X ρ σ bx a w) {fn : Func} {rs : List D} (hr : resL P σ bx fn.results.toList = some rs) : ∃ v, (results fn a.tmps).run P w = .ok v w ∧ Rep w (Stab X ρ bx w) ρ (tupD rs) v := by
  obtain ⟨vs, g1, g2, g3⟩ := res_sound h _ _ hr
  have hrun : (results fn a.tmps).run P w = .ok (if h : vs.toArray.size = 1 then vs.toArray[0] else .tuple vs.toArray) w := by
    have e : results fn a.tmps = (fn.results.mapM (resRead a.tmps) >>= fun vs => pure (if h : vs.size = 1 then vs[0] else .tuple vs)) := by
      unfold results
      congr 1
    rw [e, Sem.run_bind, Array.mapM_eq_mapM_toList, Sem.run_map, g1, Result.andThen_ok, Result.andThen_ok, Sem.run_pure]
  refine ⟨_, hrun, ?_⟩
  match rs, vs, g2, g3 with
  | [], [], _, _ => simp only [tupD]; exact .tup rfl (fun i d v hd => by simp at hd)
  | [d], [v], _, g3 => exact g3 0 d v rfl rfl
  | d1 :: d2 :: ds, v1 :: v2 :: vs, g2, g3 =>
    simp only [tupD]
    rw [dif_neg (by simp)]
    exact .tup (by simpa using g2) (fun i d v hd hv => g3 i d v hd (by simpa using hv))

theorem argsF_at : ∀ (ds : List D) (k t : Nat), argsF k ds t = if t < k then .raw undef else (ds[t - k]?).getD (.raw undef)
  | [], k, t => by simp [argsF]
  | d :: ds, k, t => by
    simp only [argsF, upd]
    by_cases h : t = k
    · subst h; simp
    · rw [if_neg h, argsF_at ds (k + 1) t]
      by_cases h2 : t < k
      · rw [if_pos (by omega), if_pos h2]
      · rw [if_neg (by omega), if_neg h2]
        have : t - k = (t - (k + 1)) + 1 := by omega
        rw [this]; simp

/-- The marks alone. -/
theorem Sim.mark0 (h : Sim X ρ σ bx a w) (hmd : X.md = 0) {d : Deferred} {ds : List Deferred} (hd : a.defers = d :: ds) : ∃ r, d = markOf r ∧ ρ.hold r = some (.deferred (some [])) := by
  have hm := (h.marks.resolve_left (by omega)).1
  rw [if_pos hmd, hd] at hm
  generalize hl : ([] : List D) = l at hm
  generalize hx : d :: ds = dd at hm
  cases hm with
  | nil => cases hx
  | mark h1 => injection hx with e1 e2; exact ⟨_, e1, h1⟩
  | call => cases hl

/-- A function is left: its marks are taken, its results read. -/
theorem leave_sound {fn : Func} {rs : List D} (hlo : X.lo = 0) (hml : X.ml = X.w0.heap.size) (hmd : X.md = 0) {R : Ending → World → Prop} : ∀ (ds : List Deferred) (a : Act) (ρ : Rho) (w : World), a.defers = ds → Sim X ρ σ bx a w → resL P σ bx fn.results.toList = some rs →
    (∀ ρ' w' v, Sim X ρ' σ bx { a with defers := [] } w' → (∀ b o, ρ.hold b = some o → o ≠ .deferred (some []) → ρ'.hold b = some o) → Rep w' (Stab X ρ' bx w') ρ' (tupD rs) v → R (.returned v) w') → LeavesInM Fence.wide n P fn a.tmps R ds .returning w
  | [], a, ρ, w, hd, h, hr, hR => by
    obtain ⟨v, g1, g2⟩ := results_sound h hr
    exact ⟨v, g1, hR ρ w v (h.switch h.size (.nil (.inl hmd)) h.tmps) (fun _ _ h _ => h) g2⟩
  | d :: ds, a, ρ, w, hd, h, hr, hR => by
    obtain ⟨r, rfl, hh⟩ := h.mark0 hmd hd
    have hw := (h.hold r _ hh).1
    obtain ⟨ρ', h', hk⟩ := h.take hd hml (by omega) (putObj_fr w r (.deferred none)) (World.putObj_heap_same (Array.getElem?_eq_some_iff.1 hw).1) hlo
    refine ⟨by simp, .inl ⟨r, _, rfl, run_takeDeferred hw, ?_⟩⟩
    exact leave_sound hlo hml hmd ds { a with defers := ds } ρ' _ rfl h' hr fun ρ2 w2 v g1 g2 g3 => hR ρ2 w2 v g1 (fun b o ho hno => g2 b o (hk b o ho hno) hno) g3

/-- A function is left by a panic: its marks are taken. -/
theorem leave_pan {fn : Func} (hlo : X.lo = 0) (hml : X.ml = X.w0.heap.size) (hmd : X.md = 0) {chain : List PanicEntry} {d0 : D} {v0 : Value} {R : Ending → World → Prop} : ∀ (ds : List Deferred) (a : Act) (ρ : Rho) (w : World), a.defers = ds → Sim X ρ σ bx a w → Rep w (Stab X ρ bx w) ρ d0 v0 →
    (∀ ρ' w', Sim X ρ' σ bx { a with defers := [] } w' → Rep w' (Stab X ρ' bx w') ρ' d0 v0 → R (.panicked chain) w') → LeavesInM Fence.wide n P fn a.tmps R ds (.panicking chain) w
  | [], a, ρ, w, hd, h, hr, hR => hR ρ w (h.switch h.size (.nil (.inl hmd)) h.tmps) hr
  | d :: ds, a, ρ, w, hd, h, hr, hR => by
    obtain ⟨r, rfl, hh⟩ := h.mark0 hmd hd
    have hw := (h.hold r _ hh).1
    obtain ⟨ρ', h', hk, hre⟩ := h.take2 hd hml (by omega) (putObj_fr w r (.deferred none)) (World.putObj_heap_same (Array.getElem?_eq_some_iff.1 hw).1) hlo
    refine ⟨by simp, .inl ⟨r, _, rfl, run_takeDeferred hw, ?_⟩⟩
    exact leave_pan hlo hml hmd ds { a with defers := ds } ρ' _ rfl h' (hre _ _ hr) fun ρ2 w2 g1 g3 => hR ρ2 w2 g1 g3

theorem args_frame {S : Nat → Prop} {ds : List D} {vs : Array Value} {N : Nat} (hl : vs.size = ds.length) (hlen : ds.length ≤ N) (hv : ∀ (i : Nat) x v, ds[i]? = some x → vs[i]? = some v → Rep w S ρ x v) :
    (vs ++ Array.replicate (N - vs.size) undef).size = N ∧ ∀ t, Rep w S ρ (argsF 0 ds t) ((vs ++ Array.replicate (N - vs.size) undef).getD t undef) := by
  refine ⟨by simp; omega, fun t => ?_⟩
  rw [argsF_at]
  simp only [Nat.not_lt_zero, if_false, Nat.sub_zero]
  by_cases ht : t < ds.length
  · have hd : ds[t]? = some ds[t] := List.getElem?_eq_getElem ht
    have htv : t < vs.size := by omega
    have hva : vs[t]? = some vs[t] := Array.getElem?_eq_getElem htv
    have : (vs ++ Array.replicate (N - vs.size) undef).getD t undef = vs[t] := by
      rw [Array.getD_eq_getD_getElem?, Array.getElem?_append_left htv, hva]; rfl
    rw [this, hd]
    exact hv t _ _ hd hva
  · have hd : ds[t]? = none := List.getElem?_eq_none (by omega)
    have : (vs ++ Array.replicate (N - vs.size) undef).getD t undef = undef := by
      rw [Array.getD_eq_getD_getElem?, Array.getElem?_append_right (by omega), Array.getElem?_replicate]
      split <;> rfl
    rw [this, hd]
    exact .pure (.raw _)

/-- **A FUNCTION KEEPS THE CONTRACT THAT ITS TEXT, ON DATA, COMES TO.** -/
theorem fn_sound (hm : P.follows .mixedOrders = true) {f : FuncId} {fn : Func} {O : Orac} {tab : List (Nat × List (Nat × Nat))} {ds : List D} {d : D} (hf : P.funcs[f]? = some fn)
    (hname : (fn.name == "runtime.NumGoroutine") = false) (hlen : ds.length ≤ fn.ntmps) (hO : Ok P O) (h : fnD P O tab fn ds d) : CallsTo P f ds d := by
  obtain ⟨c, hb, hok, hc⟩ := h
  obtain ⟨hN, hok⟩ : fn.ntmps ≤ dfS ∧ codeOk1 tab fn.ntmps c = true := by simpa [codeOk, dfS] using hok
  intro w S vs hS hglo hl hv
  refine .inl ⟨Go.MuLone.run_callFunc_enter hf hname hb vs w, callsIn_wide.1 (callsIn_of_wp_marks (F := Fence.wide) (n := 0) hf hb trivial ?_)⟩
  obtain ⟨k1, k2⟩ := args_frame (w := w) (ρ := ⟨fun _ _ => none, fun _ => none⟩) (S := fun b => S b) (N := fn.ntmps) hl hlen (fun i x v hx hv' => .pure (hv i x v hx hv'))
  have h0 : Sim ⟨w, S, w.heap.size, fun _ => False, fun _ => False, fn.ntmps, ⟨fun _ _ => none, fun _ => none⟩, w.heap.size, 0, fun _ _ => True, 0⟩ ⟨fun _ _ => none, fun _ => none⟩ (argsF 0 ds) (fun _ => .none) { tmps := vs ++ Array.replicate (fn.ntmps - vs.size) undef, defers := [] } w :=
    ⟨.refl _ _, hS, Nat.le_refl _, fun _ h => h.elim, fun _ h => h.elim, k1, .nil (.inl rfl), hN, Nat.le_refl _, fun t => (k2 t).mono (fun _ _ => rfl) (fun b hb => ⟨hS b hb, .inl hb, fun t ht => by simp [Bx.none] at ht⟩) (fun _ _ _ h => h), .pure (hglo.mono (fun _ _ => rfl) (fun b hb => ⟨hS b hb, .inl hb, fun t ht => by simp [Bx.none] at ht⟩)), fun t ht => absurd rfl ht, fun t t' p p' ht => by simp [Bx.none] at ht, (fun t e p hp => by cases hp), (fun t e p hp => by cases hp), (fun t e hp => by cases hp), (fun t e hp => by cases hp), fun _ _ _ _ _ => trivial, trivial, fun _ _ _ => trivial, (fun t e hp => by cases hp)⟩
  refine code_sound hm c none 0 ⟨O, tab, 0, fn.ntmps, 0, none, false, false⟩ _ _ _ _ _ _ _ w ⟨hO, Nat.le_refl _, Nat.le_refl _, (fun _ _ _ hk => by cases hk), (fun hf => by cases hf), fun hf => by have : (0 : Nat) = 3 := hf; omega⟩ (fun l hl => by cases hl) hok h0 hc fun e e' σ' bx' a' w' ρ' hx hq h' => ?_
  have fin : (bindD (resL P σ' bx' fn.results.toList) fun rs => bindD (outD bx' (tupD rs)) fun r => Weak r d) → LeavesInM Fence.wide 0 P fn a'.tmps (fun e w' => ∃ v, e = .returned v ∧ Post w S d v w') a'.defers .returning w' := by
    intro hq
    cases hr : resL P σ' bx' fn.results.toList with
    | none => rw [hr] at hq; exact hq.elim
    | some rs =>
      rw [hr] at hq
      simp only [bindD] at hq
      cases ho : outD bx' (tupD rs) with
      | none => rw [ho] at hq; exact hq.elim
      | some x =>
        rw [ho] at hq
        refine leave_sound rfl rfl rfl a'.defers a' ρ' w' rfl h' hr fun ρ2 w2 v g1 _ g3 => ⟨v, rfl, ?_, ?_⟩
        · refine Rep.weak hq (outD_sound g1 _ _ v ⟨fun b hb => ?_, fun t _ hk p hp => ?_⟩ g3 ho)
          · rcases hb.2.1 with h1 | h1
            · exact .inl h1
            · exact .inr ⟨h1, hb.1⟩
          · obtain ⟨p', hp', _, _, hpb, hh⟩ := g1.box t hk
            rw [hp] at hp'; injection hp' with hp'; subst hp'
            exact .inr ⟨hpb.1, hh.lt⟩
        · exact ⟨g1.fr.os, g1.fr.tape, g1.fr.output, g1.fr.size, fun k hk => g1.fr.block k hk (fun hm => hm.elim id id)⟩
  rcases hx.cases with ⟨rfl, rfl⟩ | ⟨rfl, rfl⟩ | ⟨_, rfl, rfl⟩ | ⟨_, rfl, rfl⟩ | ⟨_, _, rfl, rfl, _⟩
  · exact fin hq
  · exact fin hq
  all_goals exact hq.elim

/-- The same of a function that has its caller's variables at hand. -/
theorem fnB_sound (hm : P.follows .mixedOrders = true) {f : FuncId} {fn : Func} {O : Orac} {tab : List (Nat × List (Nat × Nat))} {base : Nat} {ds : List D} {bx : Bxs} {Q Qp : D → Bxs → Prop} (hf : P.funcs[f]? = some fn)
    (hname : (fn.name == "runtime.NumGoroutine") = false) (hlen : ds.length ≤ fn.ntmps) (hO : Ok P O) (h : fnB P O tab fn base ds bx Q Qp) : CallsB P f base ds bx Q Qp := by
  obtain ⟨c, hb, hok, hc⟩ := h
  obtain ⟨hN, hok⟩ : fn.ntmps ≤ dfS ∧ codeOk1 tab fn.ntmps c = true := by simpa [codeOk, dfS] using hok
  intro X ρ σ a w vs hS xlo hl hv
  refine .inl ⟨Go.MuLone.run_callFunc_enter hf hname hb vs w, callsIn_wide.1 (callsIn_of_wp_marks (F := Fence.wide) (n := 0) hf hb trivial ?_)⟩
  obtain ⟨k1, k2⟩ := args_frame (N := fn.ntmps) hl hlen hv
  have h0 := hS.sub (E := fun _ => False) (N := fn.ntmps) (ml := w.heap.size) (md := 0) (a' := { tmps := vs ++ Array.replicate (fn.ntmps - vs.size) undef, defers := [] }) hN (fun _ h => h.elim) k1 (.nil (.inl rfl)) (Nat.le_refl _) k2
  refine code_sound hm c none 0 ⟨O, tab, base, base + fn.ntmps, 0, none, true, false⟩ _ _ _ _ _ _ _ w ⟨hO, Nat.le_refl _, Nat.zero_le _, (fun _ _ _ hk => by cases hk), (fun hf => by cases hf), fun hf => by have : (0 : Nat) = 3 := hf; omega⟩ (fun l hl => by cases hl) hok h0 hc fun e e' σ' bx' a' w' ρ' hx hq h' => ?_
  have fin : (bindD (resL P σ' bx' fn.results.toList) fun rs => Q (tupD rs) bx') → LeavesInM Fence.wide 0 P fn a'.tmps (fun e w' => (∃ v, e = .returned v ∧ ∃ d bx' ρ', Q d bx' ∧ Sim X ρ' σ bx' a w' ∧ Rep w' (Stab X ρ' bx' w') ρ' d v) ∨ ∃ v, e = .panicked [pe v] ∧ ∃ d bx' ρ', Qp d bx' ∧ Sim X ρ' σ bx' a w' ∧ Rep w' (Stab X ρ' bx' w') ρ' d v) a'.defers .returning w' := by
    intro hq
    cases hr : resL P σ' bx' fn.results.toList with
    | none => rw [hr] at hq; exact hq.elim
    | some rs =>
      rw [hr] at hq
      exact leave_sound rfl rfl rfl a'.defers a' ρ' w' rfl h' hr fun ρ2 w2 v g1 _ g3 => .inl ⟨v, rfl, tupD rs, bx', ρ2, hq, hS.back rfl rfl g1 (fun _ h => h.elim) (fun _ h => h.elim) (fun _ h => h.elim) (hS.y0 xlo _ _), g3⟩
  rcases hx.cases with ⟨rfl, rfl⟩ | ⟨rfl, rfl⟩ | ⟨_, rfl, rfl⟩ | ⟨_, rfl, rfl⟩ | ⟨d, v, rfl, rfl, hv⟩
  · exact fin hq
  · exact fin hq
  · exact hq.elim
  · exact hq.elim
  · exact leave_pan rfl rfl rfl a'.defers a' ρ' w' rfl h' hv fun ρ2 w2 g1 g3 => .inr ⟨v, rfl, d, bx', ρ2, hq, hS.back rfl rfl g1 (fun _ h => h.elim) (fun _ h => h.elim) (fun _ h => h.elim) (hS.y0 xlo _ _), g3⟩

end Go.V
