/-
  One operation: what the data level says of it holds of the machine.
-/
import Derived.Test.YtfhbndbngdglfaaVk
namespace Go.V
open Go.RowKit

/-- The fence that bars nothing, in an activation or in a round. -/
abbrev Fw (r : Option Nat) : Fence := { Fence.wide with round := r }

variable {P : Program} {C : Calc} {X : Ctx} {ρ : Rho} {σ : Env} {bx : Bxs} {a : Act} {w : World} {r : Option Nat} {n : Nat}

theorem callsIn_fw {f : FuncId} {args : Array Value} {R : Ending → World → Prop} (h : Calls P f args w R) : CallsIn (Fw r) n P f args w R := callsIn_wide.2 h

section
variable {o : Oper} {next : Act → World → Prop} {Q : Exit → Act → World → Prop}

theorem up_value (hd : ∀ c, o.op ≠ .defer c) {v : Value} {w' : World} (hr : (execOp a.eval o).run P w = .ok (.value v) w') (hn : next (a.put o.dst v) w') : o.wpIn (Fw r) n P a w next Q := by
  refine ⟨fun _ _ => trivial, ?_⟩
  rw [Oper.semAt_eq _ _ _ hd, hr]
  exact hn

theorem up_skip (hd : ∀ c, o.op ≠ .defer c) {w' : World} (hr : (execOp a.eval o).run P w = .ok .skip w') (hn : next (a.put o.dst undef) w') : o.wpIn (Fw r) n P a w next Q := by
  refine ⟨fun _ _ => trivial, ?_⟩
  rw [Oper.semAt_eq _ _ _ hd, hr]
  exact hn

theorem up_call {c : Call} (ho : o.op = .call c) {f : FuncId} {vs : Array Value} (hr : (execOp a.eval o).run P w = (callFunc f vs).run P w) (hc : Carried P f vs w fun v w' => next (a.put o.dst v) w') : o.wpIn (Fw r) n P a w next Q := by
  refine ⟨fun _ _ => trivial, ?_⟩
  rw [Oper.semAt_eq _ _ _ (by rw [ho]; simp), hr]
  rcases hc with ⟨h1, h2⟩ | ⟨v, w', h1, h2⟩
  · rw [h1]
    refine ⟨fun h => by simp [Fence.wide] at h, callsIn_fw (Calls.mono h2 ?_)⟩
    rintro e w' ⟨v, rfl, hv⟩
    exact hv
  · rw [h1]
    exact h2
end

theorem step_val (h : Sim X ρ σ bx a w) {o : Oper} {cl : D → Cl} (hdst : ∀ t, o.dst = some t → t < X.N) {K : Cl → Env → Bxs → Prop} (hs : bindD (valD P σ bx o.op) fun v => K (cl v) (put σ o.dst v) bx)
    {next : Act → World → Prop} {Q : Exit → Act → World → Prop} (hK : ∀ c σ' bx' a' w' ρ', K c σ' bx' → Sim X ρ' σ' bx' a' w' → next a' w') : o.wpIn (Fw r) n P a w next Q := by
  cases hv : valD P σ bx o.op with
  | none => rw [hv] at hs; exact hs.elim
  | some d =>
    rw [hv] at hs
    obtain ⟨v, w', hr, hb, hrep⟩ := val_sound h o hv
    refine up_value (fun c hc => by rw [hc] at hv; simp [valD] at hv) hr (hK _ _ _ _ _ _ hs ((h.ext hb).put hdst ?_))
    exact hrep

/-- **ONE OPERATION.** -/
theorem step_sound (h : Sim X ρ σ bx a w) (hG : Good P C X) {o : Oper} (hdst : ∀ t, o.dst = some t → t < X.N) {K : Cl → Env → Bxs → Prop} (hs : stepD P C o σ bx K)
    {next : Act → World → Prop} {Q : Exit → Act → World → Prop} (hK : ∀ c σ' bx' a' w' ρ', K c σ' bx' → Sim X ρ' σ' bx' a' w' → next a' w') : o.wpIn (Fw r) n P a w next Q := by
  unfold stepD at hs
  obtain ⟨dst, op, ty, pos, af, g⟩ := o
  dsimp only at hs hdst
  split at hs
  · rename_i T
    split at hs
    · rename_i d
      cases hz : zeroD (tiOf P T) with
      | none => rw [hz] at hs; exact hs.elim
      | some z =>
        rw [hz] at hs
        obtain ⟨v, w', hr, ρ', h'⟩ := alloc_sound (ty := ty) (pos := pos) (af := af) (g := g) h (hdst d rfl) (Nat.le_trans hG.base (Nat.le_add_right C.base d)) hz
        exact up_value (by simp) hr (hK _ _ _ _ _ _ hs h')
    · exact hs.elim
  · rename_i T x
    split at hs
    · rename_i d
      cases hz : boxD (tiOf P T) (ev σ x) with
      | none => rw [hz] at hs; exact hs.elim
      | some z =>
        rw [hz] at hs
        obtain ⟨v, w', hr, ρ', h'⟩ := box_sound (ty := ty) (pos := pos) (af := af) (g := g) h (hdst d rfl) (Nat.le_trans hG.base (Nat.le_add_right C.base d)) hz
        exact up_value (by simp) hr (hK _ _ _ _ _ _ hs h')
    · exact hs.elim
  · rename_i T x y
    cases hz : storeD C.lo (tiOf P T) bx (ev σ x) (ev σ y) with
    | none => rw [hz] at hs; exact hs.elim
    | some bx' =>
      rw [hz] at hs
      obtain ⟨w', hr, ρ', h'⟩ := store_sound (ty := ty) (pos := pos) (af := af) (g := g) h hdst hG.lo hz
      exact up_skip (by simp) hr (hK _ _ _ _ _ _ hs h')
  · rename_i T x
    exact step_val (o := ⟨dst, .load T x, ty, pos, af, g⟩) (cl := fun _ => slotR (ev σ x)) h hdst hs hK
  · rename_i args ats
    cases hz : appLD C.lo (tiOf P) ats.toList (slotO C.base dst) bx (args.toList.map (ev σ)) with
    | none => rw [hz] at hs; exact hs.elim
    | some rr =>
      rw [hz] at hs
      obtain ⟨args⟩ := args
      obtain ⟨ats⟩ := ats
      dsimp only at hz
      unfold appLD at hz
      split at hz
      case h_2 => cases hz
      rename_i T T' d1 d2 hxs
      match args, hxs with
      | [x, y], hxs =>
      simp only [List.map_cons, List.map_nil, List.cons.injEq, and_true] at hxs
      obtain ⟨rfl, rfl⟩ := hxs
      obtain ⟨v, w', hr, ρ', h'⟩ := append_sound (ty := ty) (pos := pos) (af := af) (g := g) h hdst hG.lo hG.base hz
      exact up_value (by simp) hr (hK _ _ _ _ _ _ hs h')
  · rename_i fo args ats
    have hfo := h.ev fo
    generalize ev σ fo = df at hs hfo
    unfold callV at hs
    split at hs
    · rename_i f caps
      obtain ⟨vs, hval, hl, hv⟩ := hfo.inv_fn
      refine up_call (c := { callee := .value fo, args := args, argTypes := ats }) rfl (f := f) (vs := args.map a.eval ++ vs) (by simp [execOp, resolve, hval, Deferred.ofValue, invoke]) ?_
      have hc := callD_sound (vs := args.map a.eval ++ vs) h hG (by simp [hl]) (fun i x v hx hv' => by
        rw [Array.getElem?_append] at hv'
        rw [List.getElem?_append] at hx
        simp only [List.length_map, Array.length_toList, Array.size_map] at hx hv'
        split at hv'
        · rename_i hlt
          rw [if_pos hlt] at hx
          simp only [List.getElem?_map, Array.getElem?_toList, Array.getElem?_map, Option.map_eq_some_iff] at hx hv'
          obtain ⟨o1, h1, rfl⟩ := hx
          obtain ⟨o2, h2, rfl⟩ := hv'
          rw [h1] at h2; injection h2 with h2; subst h2
          exact h.ev o1
        · rename_i hlt
          rw [if_neg hlt] at hx
          exact hv _ _ _ hx hv') hs
      have fin : ∀ v w', (∃ c d bx' ρ', K c (put σ dst d) bx' ∧ Sim X ρ' σ bx' a w' ∧ Rep w' (Stab X ρ' bx' w') ρ' d v) → next (a.put dst v) w' := fun v w' ⟨c, d, bx', ρ', g1, g2, g3⟩ => hK _ _ _ _ _ _ g1 (g2.put hdst g3)
      rcases hc with ⟨h1, h2⟩ | ⟨v, w', h1, h2⟩
      · exact .inl ⟨h1, Calls.mono h2 fun e w' ⟨v, he, hp⟩ => ⟨v, he, fin v w' hp⟩⟩
      · exact .inr ⟨v, w', h1, fin v w' h2⟩
    · rename_i l
      obtain ⟨vs, hval, hl, _⟩ := hfo.inv_fn
      have hvs : vs = #[] := by simpa using hl
      subst hvs
      unfold yieldD at hs
      split at hs
      · rename_i items gs l' hyl
        obtain ⟨⟨rfl, hp, hi⟩, hK2⟩ := hs
        obtain ⟨f, tm, as, bd, hr, hround⟩ := hG.yok items gs l' hyl ρ σ bx a w (args.map a.eval) (args.toList.map (ev σ)) h hi (by simp) (fun i x v hx hv => by
          simp only [List.getElem?_map, Array.getElem?_toList, Array.getElem?_map, Option.map_eq_some_iff] at hx hv
          obtain ⟨o1, h1, rfl⟩ := hx
          obtain ⟨o2, h2, rfl⟩ := hv
          rw [h1] at h2; injection h2 with h2; subst h2
          exact (h.ev o1).toP (pureL_mem _ hp i _ (by simp only [List.getElem?_map, Array.getElem?_toList, h1, Option.map_some])))
        refine ⟨fun _ _ => trivial, ?_⟩
        rw [Oper.semAt_eq _ _ _ (by simp)]
        have hrun : (execOp a.eval ⟨dst, .call { callee := .value fo, args := args, argTypes := ats }, ty, pos, af, g⟩).run P w = .ok (.round l' f tm as bd) w := by
          simp only [execOp, resolve, hval, Deferred.ofValue, invoke, Sem.run_bind, Sem.run_pure, Result.andThen_ok, Array.empty_append]
          exact hr
        rw [hrun]
        refine ⟨fun h => by simp [Fence.wide] at h, ?_⟩
        refine RoundIn.mono (show RoundIn (Fw r) _ P l' f tm as bd w _ from hround _) ?_
        rintro e w2 ⟨ρ2, bx1, b, rfl, hS⟩
        cases b with
        | true => exact hK _ _ _ _ _ _ (hK2 bx1).1 (hS.put hdst (.pure (.bool true)))
        | false => exact hK _ _ _ _ _ _ (hK2 bx1).2 (hS.put hdst (.pure (.bool false)))
      · exact hs.elim
    · exact hs.elim
  · exact step_val (cl := fun _ => .n) h hdst hs hK

end Go.V
