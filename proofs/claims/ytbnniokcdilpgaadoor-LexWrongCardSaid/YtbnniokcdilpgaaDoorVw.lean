/-
  Functions that are ranged over.
-/
import Derived.Test.YtbnniokcdilpgaaDoorVr
namespace Go.V
open Go.RowKit
set_option linter.unusedVariables false

variable {P : Program} {X : Ctx} {ρ : Rho} {σ : Env} {bx : Bxs} {a : Act} {w : World}

/-- What holds of the count, the others' variables and the record while items are yielded. -/
def Proto (gs l : Nat) (rc : Loop) (items : List (List D)) (J : Nat → Bxs → Prop) (Jx : Code → Bxs → Prop) (c : Bxs) (h : Nat → Option Obj) : Prop :=
  (c gs).k = 0 ∧ (((c gs).sz ≤ items.length ∧ h l = some (.loop rc) ∧ J (c gs).sz (cutB gs c)) ∨
    ((c gs).sz = items.length + 1 ∧ ∃ jump, h l = some (.loop { rc with state := .done, pending := some jump }) ∧ Jx jump (cutB gs c)))

/-- The activation's constants, with what it leaves alone. -/
def Ctx.withY (X : Ctx) (lo : Nat) (Y : Bxs → (Nat → Option Obj) → Prop) : Ctx := { X with lo := lo, Y := Y }

theorem Sim.withY (h : Sim X ρ σ bx a w) {lo : Nat} {Y : Bxs → (Nat → Option Obj) → Prop} (yc : ∀ c h h', Y c h → (∀ b o, h b = some o → h' b = some o) → Y c h') (inv : Y (cutB lo bx) ρ.hold) (y0 : lo = 0 → ∀ c h, Y c h) : Sim (X.withY lo Y) ρ σ bx a w :=
  ⟨h.fr, h.s0, h.nb, h.mb, h.ec, h.size, h.marks, h.nle, h.mkb, h.tmps, h.glo, h.box, h.inj, h.eps, h.r0, h.hold, h.holds0, yc, inv, y0, h.h0lt⟩

theorem Sim.noY {lo : Nat} {Y : Bxs → (Nat → Option Obj) → Prop} (h : Sim (X.withY lo Y) ρ σ bx a w) (xlo : X.lo = 0) (xY : ∀ c h, X.Y c h) : Sim X ρ σ bx a w :=
  ⟨h.fr, h.s0, h.nb, h.mb, h.ec, h.size, h.marks, h.nle, h.mkb, h.tmps, h.glo, h.box, h.inj, h.eps, h.r0, h.hold, h.holds0, fun _ _ _ _ _ => xY _ _, xY _ _, fun _ c h => xY c h, h.h0lt⟩

theorem cutB_cutB {m n : Nat} (h : m ≤ n) (bx : Bxs) : cutB m (cutB n bx) = cutB m bx := by
  funext s
  unfold cutB
  by_cases h1 : s < m
  · have : s < n := by omega
    simp [h1, this]
  · simp [h1]

set_option maxHeartbeats 1000000 in
theorem fnI_sound (hm : P.follows .mixedOrders = true) {f : FuncId} {fn : Func} {O : Orac} {tab : List (Nat × List (Nat × Nat))} {caps : List D} {items : List (List D)} (hf : P.funcs[f]? = some fn)
    (hname : (fn.name == "runtime.NumGoroutine") = false) (hlen : caps.length + 1 ≤ fn.ntmps) (hO : Ok P O) (h : fnI P O tab fn caps items) : IterTo P f caps items (fn.ntmps + 1) := by
  obtain ⟨c, hb, hok, hres, hc⟩ := h
  obtain ⟨hN, hok⟩ : fn.ntmps ≤ dfS ∧ codeOk1 tab fn.ntmps c = true := by simpa [codeOk, dfS] using hok
  intro X ρ σ bx a w gs' gs rc vs J Jx
  intro hS xlo hl hwl hr0 hvl hv hJ hround
  -- the count is laid
  have hS1 : Sim X ρ σ (upd bx gs { bx gs with k := 0, sz := 0 }) a w := hS.less fun s => by
    by_cases e : s = gs
    · subst e; exact .inr ⟨by omega, by simp [upd], by simp [upd], by simp [upd]⟩
    · exact .inl (by simp [upd, e])
  have hcut : cutB gs (upd bx gs { bx gs with k := 0, sz := 0 }) = cutB gs bx := cutB_congr fun s hs => by
    have : s ≠ gs := by omega
    simp [upd, this]
  have hst : ∀ b, Stab X ρ bx w b → Stab X ρ (upd bx gs { bx gs with k := 0, sz := 0 }) w b := fun b hb' => ⟨hb'.1, hb'.2.1, fun t ht p hp => by
    by_cases e : t = gs
    · subst e; simp [upd] at ht
    · simp only [upd, e, if_false] at ht hp; exact hb'.2.2 t ht p hp⟩
  generalize hbx : upd bx gs { bx gs with k := 0, sz := 0 } = bx1 at hS1 hcut hst
  have hg1 : (bx1 gs).k = 0 ∧ (bx1 gs).sz = 0 := by rw [← hbx]; simp [upd]
  obtain ⟨k1, k2⟩ := args_frame (w := w) (ρ := ρ) (S := Stab X ρ bx1 w) (ds := .fn (.yield gs') [] :: caps) (vs := #[Value.func (.yield gs') #[] #[]] ++ vs) (N := fn.ntmps) (by simp [hvl]; omega) (by simpa using hlen) (fun i x v hx hv' => by
    cases i with
    | zero =>
      simp only [List.getElem?_cons_zero, Option.some.injEq] at hx
      subst hx
      have hv2 : v = Value.func (.yield gs') #[] #[] := by
        rw [Array.getElem?_append_left (by simp)] at hv'
        injection hv' with hv'
        exact hv'.symm
      subst hv2
      exact .fn rfl (by simp)
    | succ i =>
      simp only [List.getElem?_cons_succ] at hx
      rw [Array.getElem?_append_right (by simp)] at hv'
      have hv2 : vs[i]? = some v := by simpa using hv'
      exact .pure ((hv i x v hx hv2).monoS hst))
  have hlw := (hS.hold gs' _ hl).1
  have hE : ∀ b, b = gs' → ∀ o, w.heap[b]? = some o → Obj.isC o = false := by
    rintro b rfl o ho
    rw [hlw] at ho; injection ho with ho; subst ho; rfl
  have hsub := hS1.sub (E := fun b => b = gs') (N := fn.ntmps) (ml := w.heap.size) (md := 0) (a' := { tmps := (#[Value.func (.yield gs') #[] #[]] ++ vs) ++ Array.replicate (fn.ntmps - (#[Value.func (.yield gs') #[] #[]] ++ vs).size) undef, defers := [] }) hN hE k1 (.nil (.inl rfl)) (Nat.le_refl _) k2
  have pc : ∀ (c : Bxs) (h h' : Nat → Option Obj), Proto gs gs' rc items J Jx c h → (∀ b o, h b = some o → h' b = some o) → Proto gs gs' rc items J Jx c h' := by
    rintro c h h' ⟨g0, g1 | ⟨g1, jump, g2, g3⟩⟩ hh
    · exact ⟨g0, .inl ⟨g1.1, hh _ _ g1.2.1, g1.2.2⟩⟩
    · exact ⟨g0, .inr ⟨g1, jump, hh _ _ g2, g3⟩⟩
  have cutgs : ∀ bx : Bxs, cutB (gs + 1) bx gs = bx gs := fun bx => by simp [cutB]
  have hW := hsub.withY (lo := gs + 1) (Y := Proto gs gs' rc items J Jx) pc ⟨by rw [cutgs]; exact hg1.1, .inl ⟨by rw [cutgs, hg1.2]; omega, hl, by rw [cutgs, hg1.2, cutB_cutB (by omega), hcut]; exact hJ⟩⟩ (fun h0 => by omega)
  generalize hYd : X.sub ρ bx1 w (fun b => b = gs') fn.ntmps w.heap.size 0 = Y at hsub hW
  have hY0 : Y.lo = 0 ∧ (∀ c h, Y.Y c h) ∧ Y.S0 = X.S0 ∧ Y.n0 = X.n0 ∧ Y.E gs' ∧ Y.ml = Y.w0.heap.size ∧ Y.N = fn.ntmps ∧ Y.md = 0 := by rw [← hYd]; exact ⟨rfl, fun _ _ => trivial, rfl, rfl, rfl, rfl, rfl, rfl⟩
  obtain ⟨ylo, yY, yS, yn, yE, yml, yN, ymd⟩ := hY0
  -- the frame that waits, found again
  have back : ∀ (ρ' : Rho) (σ' : Env) (bx' : Bxs) (a' : Act) (w' : World), Sim Y ρ' σ' bx' a' w' → Sim X ρ' σ bx' a w' := by
    intro ρ' σ' bx' a' w' hs
    rw [← hYd] at hs
    exact hS1.back rfl rfl hs (fun b hb => by subst hb; exact .inr hwl) (fun b hb => by subst hb; rw [hl]; simp) (fun b hb => by subst hb; exact .inl hr0) (hS.y0 xlo _ _)
  have good : Good P ⟨O, tab, gs + 1, gs + 1 + fn.ntmps, gs + 1, some (items, gs, gs'), false, false⟩ (Y.withY (gs + 1) (Proto gs gs' rc items J Jx)) := by
    refine ⟨hO, Nat.le_refl _, Nat.le_refl _, fun it2 g2 l2 hy ρ1 σi bxi ai wi us ds hsi hi hus hrep => ?_, (fun hf => by cases hf), fun hf => by have : Y.md = 3 := hf; omega⟩
    simp only [Option.some.injEq, Prod.mk.injEq] at hy
    obtain ⟨rfl, rfl, rfl⟩ := hy
    have hlt := (List.getElem?_eq_some_iff.1 hi).1
    have hinv : Proto gs gs' rc items J Jx (cutB (gs + 1) bxi) ρ1.hold := hsi.inv
    obtain ⟨g0, g1⟩ := hinv
    rw [cutgs] at g0 g1
    rcases g1 with ⟨g1, g2, g3⟩ | ⟨g1, _⟩
    · rw [cutB_cutB (by omega)] at g3
      have hsY := hsi.noY ylo yY
      obtain ⟨f2, tm, as, bd, hy, hR⟩ := hround (bxi gs).sz ds ρ1 bxi wi us hi (back _ _ _ _ _ hsY) g2 g3 hus (fun i x v hx hv' => by
        have := hrep i x v hx hv'
        have e : Stab (Y.withY (gs + 1) (Proto gs gs' rc items J Jx)) ρ1 bxi wi = Stab X ρ1 bxi wi := by funext b; simp only [Stab, Ctx.withY, yS, yn]
        rw [e] at this; exact this)
      refine ⟨f2, tm, as, bd, hy, fun m => (hR m).mono ?_⟩
      rintro e w2 ⟨ρ2, bx2, b, rfl, q1, q2, q3, q4⟩
      refine ⟨ρ2, bx2, b, rfl, ?_⟩
      have hgs : bx2 gs = bxi gs := q1 gs (Nat.le_refl _) (by omega)
      have hmix : mixB (gs + 1) (gs + 1 + fn.ntmps) bxi bx2 = bx2 := by
        funext s
        unfold mixB
        by_cases hs : gs + 1 ≤ s ∧ s < gs + 1 + fn.ntmps
        · rw [if_pos hs]; exact (q1 s (by omega) (by omega)).symm
        · rw [if_neg hs]
      show Sim _ ρ2 σi (upd (mixB (gs + 1) (gs + 1 + fn.ntmps) bxi bx2) gs _) ai w2
      rw [hmix]
      have h3 := q2 Y σi ai yS yn yE hsY (yY _ _)
      have h4 : Sim Y ρ2 σi (upd bx2 gs { bxi gs with sz := if b = true then (bxi gs).sz + 1 else items.length + 1 }) ai w2 := h3.less fun s => by
        by_cases e : s = gs
        · subst e; exact .inr ⟨by omega, by simp [upd, g0], by simp [upd, hgs], by simp [upd, g0]⟩
        · exact .inl (by simp [upd, e])
      have hcut2 : ∀ b', cutB gs (upd bx2 gs b') = cutB gs bx2 := fun b' => cutB_congr fun s hs => by
        have : s ≠ gs := by omega
        simp [upd, this]
      refine h4.withY pc ?_ (fun h0 => by omega)
      refine ⟨by rw [cutgs]; simp [upd, g0], ?_⟩
      rw [cutgs, cutB_cutB (by omega), hcut2]
      simp only [upd, if_true]
      rcases q4 with ⟨rfl, q5, q6⟩ | ⟨rfl, jump, q5, q6⟩
      · exact .inl ⟨by simp; omega, q5, by simpa using q6⟩
      · exact .inr ⟨by simp, jump, q5, q6⟩
    · omega
  refine ⟨Go.MuLone.run_callFunc_enter hf hname hb _ w, callsIn_wide.1 (callsIn_of_wp_marks (F := Fence.wide) (n := 0) hf hb trivial ?_)⟩
  refine code_sound hm c none 0 ⟨O, tab, gs + 1, gs + 1 + fn.ntmps, gs + 1, some (items, gs, gs'), false, false⟩ (Y.withY (gs + 1) (Proto gs gs' rc items J Jx)) _ _ _ _ _ _ w good (fun l hl => by cases hl) (by show codeOk1 tab Y.N c = true; rw [yN]; exact hok) hW (hc gs gs' bx1 hg1.1 hg1.2) fun e e' σ' bx' a' w' ρ' hx hq h' => ?_
  have fin : items.length ≤ (bx' gs).sz → LeavesInM Fence.wide 0 P fn a'.tmps (fun e w' => ∃ v ρ' bx', e = .returned v ∧ Sim X ρ' σ bx' a w' ∧
      ((ρ'.hold gs' = some (.loop rc) ∧ J items.length (cutB gs bx')) ∨ ∃ jump, ρ'.hold gs' = some (.loop { rc with state := .done, pending := some jump }) ∧ Jx jump (cutB gs bx'))) a'.defers .returning w' := by
    intro hq
    have hinv : Proto gs gs' rc items J Jx (cutB (gs + 1) bx') ρ'.hold := h'.inv
    obtain ⟨g0, g1⟩ := hinv
    rw [cutgs, cutB_cutB (by omega)] at g1
    have hsY := h'.noY ylo yY
    refine leave_sound ylo yml ymd a'.defers a' ρ' w' rfl hsY (rs := []) (by rw [hres]; rfl) fun ρ2 w2 v s1 s2 _ => ⟨v, ρ2, bx', rfl, back _ _ _ _ _ s1, ?_⟩
    rcases g1 with ⟨g1, g2, g3⟩ | ⟨g1, jump, g2, g3⟩
    · have e : (bx' gs).sz = items.length := by omega
      rw [e] at g3
      exact .inl ⟨s2 _ _ g2 (by simp), g3⟩
    · exact .inr ⟨jump, s2 _ _ g2 (by simp), g3⟩
  rcases hx.cases with ⟨rfl, rfl⟩ | ⟨rfl, rfl⟩ | ⟨_, rfl, rfl⟩ | ⟨_, rfl, rfl⟩ | ⟨_, _, rfl, rfl, _⟩
  · exact fin hq
  · exact fin hq
  all_goals exact hq.elim

/-- The contracts that are proved. -/
def orac (P : Program) : Orac := ⟨CallsTo P, CallsB P, IterTo P⟩
theorem orac_ok (P : Program) : Ok P (orac P) := ⟨fun _ _ _ h => h, fun _ _ _ _ _ _ h => h, fun _ _ _ _ h => h⟩

theorem fn_calls (hm : P.follows .mixedOrders = true) {f : FuncId} {fn : Func} {tab : List (Nat × List (Nat × Nat))} {ds : List D} {d : D} (h : fnD P (orac P) tab fn ds d) (hf : P.funcs[f]? = some fn)
    (hname : (fn.name == "runtime.NumGoroutine") = false) (hlen : decide (ds.length ≤ fn.ntmps) = true) : CallsTo P f ds d := fn_sound hm hf hname (of_decide_eq_true hlen) (orac_ok P) h
theorem fnB_calls (hm : P.follows .mixedOrders = true) {f : FuncId} {fn : Func} {tab : List (Nat × List (Nat × Nat))} {base : Nat} {ds : List D} {bx : Bxs} {Q Qp : D → Bxs → Prop} (h : fnB P (orac P) tab fn base ds bx Q Qp) (hf : P.funcs[f]? = some fn)
    (hname : (fn.name == "runtime.NumGoroutine") = false) (hlen : decide (ds.length ≤ fn.ntmps) = true) : CallsB P f base ds bx Q Qp := fnB_sound hm hf hname (of_decide_eq_true hlen) (orac_ok P) h
theorem fnI_calls (hm : P.follows .mixedOrders = true) {f : FuncId} {fn : Func} {tab : List (Nat × List (Nat × Nat))} {caps : List D} {items : List (List D)} (h : fnI P (orac P) tab fn caps items) (hf : P.funcs[f]? = some fn)
    (hname : (fn.name == "runtime.NumGoroutine") = false) (hlen : decide (caps.length + 1 ≤ fn.ntmps) = true) : IterTo P f caps items (fn.ntmps + 1) := fnI_sound hm hf hname (of_decide_eq_true hlen) (orac_ok P) h

end Go.V
