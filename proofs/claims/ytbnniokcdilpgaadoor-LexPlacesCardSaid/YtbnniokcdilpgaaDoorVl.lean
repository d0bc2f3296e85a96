/-
  One operation: what the data level says of it holds of the machine.
-/
import Derived.Test.YtbnniokcdilpgaaDoorVk
namespace Go.V
open Go.RowKit

/-- The fence that bars nothing, in an activation or in a round. -/
abbrev Fw (r : Option Nat) : Fence := { Fence.wide with round := r }

variable {P : Program} {C : Calc} {X : Ctx} {ρ : Rho} {σ : Env} {bx : Bxs} {a : Act} {w : World} {r : Option Nat} {n : Nat}

theorem callsIn_fw {f : FuncId} {args : Array Value} {R : Ending → World → Prop} (h : Calls P f args w R) : CallsIn (Fw r) n P f args w R := callsIn_wide.2 h

section
variable {o : Oper} {next : Act → World → Prop} {Q : Exit → Act → World → Prop}

theorem up_value (hd : ∀ c, o.op ≠ .defer c) {v : Value} {w' : World} (hr : (execOp a.eval o).run P w = .ok (.value v) w') (hn : next (a.put o.dst v) w') : o.wpIn (Fw r) n P a w next Q := by
  refine ⟨fun _ _ => trivial, ?_⟩
  rw [Oper.semAt_eq _ _ _ hd, hr]
  exact hn

theorem up_skip (hd : ∀ c, o.op ≠ .defer c) {w' : World} (hr : (execOp a.eval o).run P w = .ok .skip w') (hn : next (a.put o.dst undef) w') : o.wpIn (Fw r) n P a w next Q := by
  refine ⟨fun _ _ => trivial, ?_⟩
  rw [Oper.semAt_eq _ _ _ hd, hr]
  exact hn

theorem up_call {c : Call} (ho : o.op = .call c) {f : FuncId} {vs : Array Value} (hr : (execOp a.eval o).run P w = (callFunc f vs).run P w) (hc : CarriedP P f vs w (fun v w' => next (a.put o.dst v) w') (fun v w' => Q (.panic [pe v]) a w')) : o.wpIn (Fw r) n P a w next Q := by
  refine ⟨fun _ _ => trivial, ?_⟩
  rw [Oper.semAt_eq _ _ _ (by rw [ho]; simp), hr]
  rcases hc with ⟨h1, h2⟩ | ⟨v, w', h1, h2⟩
  · rw [h1]
    refine ⟨fun h => by simp [Fence.wide] at h, callsIn_fw (Calls.mono h2 ?_)⟩
    rintro e w' (⟨v, rfl, hv⟩ | ⟨v, rfl, hv⟩)
    · exact hv
    · exact hv
  · rw [h1]
    exact h2

theorem up_panic (hd : ∀ c, o.op ≠ .defer c) {v : Value} {w' : World} (hr : (execOp a.eval o).run P w = .halt (.panic v) w') (hn : Q (.panic [pe v]) a w') : o.wpIn (Fw r) n P a w next Q := by
  refine ⟨fun _ _ => trivial, ?_⟩
  rw [Oper.semAt_eq _ _ _ hd, hr]
  exact hn
end

theorem slotR_np (d x : D) : slotR d ≠ .pan x := by unfold slotR; split <;> simp
theorem slotW_np (d x : D) : slotW d ≠ .pan x := by unfold slotW; split <;> simp
/-- The step's own slot, of which nothing is said. -/
theorem Sim.putU {dst : Option Tmp} (h : Sim X ρ σ bx a w) (hd : ∀ t, dst = some t → t < X.N) : Sim X ρ (V.put σ dst .undef) bx a w := by
  cases dst with
  | none => exact h
  | some t =>
    have hdf : dfS ≠ t := by
      intro e
      exact absurd (hd t rfl) (by rw [← e]; exact Nat.not_lt.2 h.nle)
    refine { h with marks := ?_, tmps := fun x => ?_ }
    · simpa [V.put, upd, hdf] using h.marks
    · simp only [V.put, upd]
      by_cases hx : x = t
      · simp only [hx, if_true]; exact Rep.pure (PRep.undef _)
      · simp only [hx, if_false]; exact h.tmps x

theorem step_val (h : Sim X ρ σ bx a w) {o : Oper} {cl : D → Cl} (hdst : ∀ t, o.dst = some t → t < X.N) {K : Cl → Env → Bxs → Prop} (hs : bindD (valD P σ bx o.op) fun v => K (cl v) (put σ o.dst v) bx) (hcl : ∀ d x, cl d ≠ .pan x)
    {next : Act → World → Prop} {Q : Exit → Act → World → Prop} (hK : ∀ c σ' bx' a' w' ρ', (∀ x, c ≠ .pan x) → K c σ' bx' → Sim X ρ' σ' bx' a' w' → next a' w') : o.wpIn (Fw r) n P a w next Q := by
  cases hv : valD P σ bx o.op with
  | none => rw [hv] at hs; exact hs.elim
  | some d =>
    rw [hv] at hs
    obtain ⟨v, w', hr, hb, hrep⟩ := val_sound h o hv
    refine up_value (fun c hc => by rw [hc] at hv; simp [valD] at hv) hr (hK _ _ _ _ _ _ (hcl d) hs ((h.ext hb).put hdst ?_))
    exact hrep

/-- **ONE OPERATION.** -/
theorem step_sound (h : Sim X ρ σ bx a w) (hG : Good P C X) (hrd : ∀ l, r = some l → X.md = 1) {o : Oper} (hdst : ∀ t, o.dst = some t → t < X.N) {K : Cl → Env → Bxs → Prop} (hs : stepD P C o σ bx K)
    {next : Act → World → Prop} {Q : Exit → Act → World → Prop} (hK : ∀ c σ' bx' a' w' ρ', (∀ x, c ≠ .pan x) → K c σ' bx' → Sim X ρ' σ' bx' a' w' → next a' w')
    (hP : ∀ d σ' bx' a' w' ρ' v, K (.pan d) σ' bx' → Sim X ρ' σ' bx' a' w' → Rep w' (Stab X ρ' bx' w') ρ' d v → Q (.panic [pe v]) a' w') : o.wpIn (Fw r) n P a w next Q := by
  unfold stepD at hs
  obtain ⟨dst, op, ty, pos, af, g⟩ := o
  dsimp only at hs hdst
  split at hs
  · rename_i T
    split at hs
    · rename_i d
      cases hz : zeroD (tiOf P T) with
      | none => rw [hz] at hs; exact hs.elim
      | some z =>
        rw [hz] at hs
        obtain ⟨v, w', hr, ρ', h'⟩ := alloc_sound (ty := ty) (pos := pos) (af := af) (g := g) h (hdst d rfl) (Nat.le_trans hG.base (Nat.le_add_right C.base d)) hz
        exact up_value (by simp) hr (hK _ _ _ _ _ _ (by intro x; simp) hs h')
    · exact hs.elim
  · rename_i T x
    split at hs
    · rename_i d
      cases hz : boxD (tiOf P T) (ev σ x) with
      | none => rw [hz] at hs; exact hs.elim
      | some z =>
        rw [hz] at hs
        obtain ⟨v, w', hr, ρ', h'⟩ := box_sound (ty := ty) (pos := pos) (af := af) (g := g) h (hdst d rfl) (Nat.le_trans hG.base (Nat.le_add_right C.base d)) hz
        exact up_value (by simp) hr (hK _ _ _ _ _ _ (by intro x; simp) hs h')
    · exact hs.elim
  · rename_i T x y
    cases hz : storeD C.lo (tiOf P T) bx (ev σ x) (ev σ y) with
    | none => rw [hz] at hs; exact hs.elim
    | some bx' =>
      rw [hz] at hs
      obtain ⟨w', hr, ρ', h'⟩ := store_sound (ty := ty) (pos := pos) (af := af) (g := g) h hdst hG.lo hz
      exact up_skip (by simp) hr (hK _ _ _ _ _ _ (slotW_np _) hs h')
  · rename_i T x
    exact step_val (o := ⟨dst, .load T x, ty, pos, af, g⟩) (cl := fun _ => slotR (ev σ x)) h hdst hs (fun _ => slotR_np _) hK
  · rename_i args ats
    cases hz : appLD C.lo (tiOf P) ats.toList (slotO C.base dst) bx (args.toList.map (ev σ)) with
    | none => rw [hz] at hs; exact hs.elim
    | some rr =>
      rw [hz] at hs
      obtain ⟨args⟩ := args
      obtain ⟨ats⟩ := ats
      dsimp only at hz
      unfold appLD at hz
      split at hz
      case h_2 => cases hz
      rename_i T T' d1 d2 hxs
      match args, hxs with
      | [x, y], hxs =>
      simp only [List.map_cons, List.map_nil, List.cons.injEq, and_true] at hxs
      obtain ⟨rfl, rfl⟩ := hxs
      obtain ⟨v, w', hr, ρ', h'⟩ := append_sound (ty := ty) (pos := pos) (af := af) (g := g) h hdst hG.lo hG.base hz
      exact up_value (by simp) hr (hK _ _ _ _ _ _ (by intro x; simp) hs h')
  · rename_i fo args ats
    have hfo := h.ev fo
    generalize ev σ fo = df at hs hfo
    unfold callV at hs
    split at hs
    · rename_i f caps
      obtain ⟨vs, hval, hl, hv⟩ := hfo.inv_fn
      refine up_call (c := { callee := .value fo, args := args, argTypes := ats }) rfl (f := f) (vs := args.map a.eval ++ vs) (by simp [execOp, resolve, hval, Deferred.ofValue, invoke]) ?_
      have hc := callD_sound (vs := args.map a.eval ++ vs) h hG (by simp [hl]) (fun i x v hx hv' => by
        rw [Array.getElem?_append] at hv'
        rw [List.getElem?_append] at hx
        simp only [List.length_map, Array.length_toList, Array.size_map] at hx hv'
        split at hv'
        · rename_i hlt
          rw [if_pos hlt] at hx
          simp only [List.getElem?_map, Array.getElem?_toList, Array.getElem?_map, Option.map_eq_some_iff] at hx hv'
          obtain ⟨o1, h1, rfl⟩ := hx
          obtain ⟨o2, h2, rfl⟩ := hv'
          rw [h1] at h2; injection h2 with h2; subst h2
          exact h.ev o1
        · rename_i hlt
          rw [if_neg hlt] at hx
          exact hv _ _ _ hx hv') hs
      refine hc.mono ?_ ?_
      · rintro v w' ⟨c, d, bx', ρ', g0, g1, g2, g3⟩
        exact hK _ _ _ _ _ _ g0 g1 (g2.put hdst g3)
      · rintro v w' ⟨d, bx', ρ', g1, g2, g3⟩
        exact hP _ _ _ _ _ _ _ g1 (g2.putU hdst) g3
    · rename_i l
      obtain ⟨vs, hval, hl, _⟩ := hfo.inv_fn
      have hvs : vs = #[] := by simpa using hl
      subst hvs
      unfold yieldD at hs
      split at hs
      · rename_i items gs l' hyl
        obtain ⟨⟨rfl, hp, hi⟩, hK2⟩ := hs
        obtain ⟨f, tm, as, bd, hr, hround⟩ := hG.yok items gs l' hyl ρ σ bx a w (args.map a.eval) (args.toList.map (ev σ)) h hi (by simp) (fun i x v hx hv => by
          simp only [List.getElem?_map, Array.getElem?_toList, Array.getElem?_map, Option.map_eq_some_iff] at hx hv
          obtain ⟨o1, h1, rfl⟩ := hx
          obtain ⟨o2, h2, rfl⟩ := hv
          rw [h1] at h2; injection h2 with h2; subst h2
          exact (h.ev o1).toP (pureL_mem _ hp i _ (by simp only [List.getElem?_map, Array.getElem?_toList, h1, Option.map_some])))
        refine ⟨fun _ _ => trivial, ?_⟩
        rw [Oper.semAt_eq _ _ _ (by simp)]
        have hrun : (execOp a.eval ⟨dst, .call { callee := .value fo, args := args, argTypes := ats }, ty, pos, af, g⟩).run P w = .ok (.round l' f tm as bd) w := by
          simp only [execOp, resolve, hval, Deferred.ofValue, invoke, Sem.run_bind, Sem.run_pure, Result.andThen_ok, Array.empty_append]
          exact hr
        rw [hrun]
        refine ⟨fun h => by simp [Fence.wide] at h, ?_⟩
        refine RoundIn.mono (show RoundIn (Fw r) _ P l' f tm as bd w _ from hround _) ?_
        rintro e w2 ⟨ρ2, bx1, b, rfl, hS⟩
        cases b with
        | true => exact hK _ _ _ _ _ _ (by intro x; simp) (hK2 bx1).1 (hS.put hdst (.pure (.bool true)))
        | false => exact hK _ _ _ _ _ _ (by intro x; simp) (hK2 bx1).2 (hS.put hdst (.pure (.bool false)))
      · exact hs.elim
    · exact hs.elim
  · rename_i x
    obtain ⟨_, hs⟩ := hs
    unfold panV at hs
    have hx := h.ev x
    generalize ev σ x = dx at hs hx
    split at hs
    · obtain ⟨u, hu, _⟩ := hx.inv_ifc
      exact up_panic (v := a.eval x) (w' := w) (by simp) (by simp [execOp, hu, Instr.panic, goPanic, Sem.run]) (hP _ _ _ _ _ _ _ hs h hx)
    · exact hs.elim
  · rename_i fo args ats
    obtain ⟨hdf, hs⟩ := hs
    have hmd := hG.df hdf
    have hr0 : r = none := by
      cases r with
      | none => rfl
      | some l => have := hrd l rfl; omega
    subst hr0
    have hfo := h.ev fo
    split at hs
    · rename_i f caps hfc
      rw [hfc] at hfo
      obtain ⟨vs, hval, hl, hv⟩ := hfo.inv_fn
      refine ⟨fun _ _ => trivial, ?_⟩
      show Oper.uponIn (Fw none) n P _ a next Q ((Oper.semAt none a.eval _).run P w)
      rw [Oper.semAt_none]
      have hrun : (execOp a.eval ⟨dst, .defer { callee := .value fo, args := args, argTypes := ats }, ty, pos, af, g⟩).run P w = .ok (.defer { target := .fn (.func f) vs, args := args.map a.eval }) w := by
        simp [execOp, resolve, hval, Deferred.ofValue]
      rw [hrun]
      show next _ w
      refine hK _ _ _ _ _ _ (by intro x; simp) hs (Sim.put (ρ := ρ) (a := { a with defers := { target := .fn (.func f) vs, args := args.map a.eval } :: a.defers }) ?_ hdst (.pure (.raw _)))
      refine { h with marks := ?_, tmps := fun t => ?_ }
      · have hm := h.marks
        rcases hm with hm | hm
        · omega
        · refine .inr ?_
          refine ⟨?_, fun h3 => by omega⟩
          obtain ⟨hm, _⟩ := hm
          rw [if_neg (by omega)] at hm ⊢
          have e : recD (upd σ dfS (pushD (σ dfS) (.fn (.func f) caps) (args.toList.map (ev σ))) dfS) = .tup (.fn (.func f) caps :: args.toList.map (ev σ)) :: recD (σ dfS) := by
            rw [upd_same]
            cases σ dfS <;> rfl
          rw [e]
          refine .call hl hv (by simp) (fun i d v hd hv' => ?_) hm
          simp only [List.getElem?_map, Array.getElem?_toList, Array.getElem?_map, Option.map_eq_some_iff] at hd hv'
          obtain ⟨o1, h1, rfl⟩ := hd
          obtain ⟨o2, h2, rfl⟩ := hv'
          rw [h1] at h2; injection h2 with h2; subst h2
          exact h.ev o1
      · simp only [upd]
        split
        · unfold pushD
          split <;> exact .pure (.any _ _)
        · exact h.tmps t
    · exact hs.elim
  · rename_i T l c
    split at hs
    · rename_i d
      cases hz : mkslD (tiOf P) (tiOf P T) (ev σ l) (ev σ c) with
      | none => rw [hz] at hs; exact hs.elim
      | some z =>
        rw [hz] at hs
        obtain ⟨v, w', hr, ρ', h'⟩ := mksl_sound (ty := ty) (pos := pos) (af := af) (g := g) h (hdst d rfl) (Nat.le_trans hG.base (Nat.le_add_right C.base d)) hz
        exact up_value (by simp) hr (hK _ _ _ _ _ _ (by intro x; simp) hs h')
    · exact hs.elim
  · unfold stepE at hs
    split at hs
    · rename_i T m ps _ _ _ _ _ _ _ _ _
      split at hs
      · split at hs
        · rename_i d _
          cases hz : litXD (tiOf P) (tiOf P T) m (ps.toList.map fun p => (p.1, ev σ p.2)) with
          | none => rw [hz] at hs; exact hs.elim
          | some z =>
            rw [hz] at hs
            obtain ⟨v, w', hr, ρ', h'⟩ := litX_sound (ty := ty) (pos := pos) (af := af) (g := g) h (hdst d rfl) (Nat.le_trans hG.base (Nat.le_add_right C.base d)) hz
            exact up_value (by simp) hr (hK _ _ _ _ _ _ (by intro x; simp) hs h')
        · exact hs.elim
      · exact step_val (o := ⟨dst, .buildSlice T m ps, ty, pos, af, g⟩) (cl := fun _ => .n) h hdst hs (by intro d x; simp) hK
    · exact step_val (cl := fun _ => .n) h hdst hs (by intro d x; simp) hK

end Go.V
