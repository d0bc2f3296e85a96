/-
  A range over a function; all code.
-/
import Derived.Test.YtbnniokcdilpgaaDoorVq
import Derived.Scope
namespace Go.V
open Go.RowKit
set_option linter.unusedVariables false

variable {P : Program} {C : Calc} {X : Ctx} {ρ : Rho} {σ : Env} {bx : Bxs} {a : Act} {w : World} {r : Option Nat} {n : Nat}

theorem Mk.marked {S : Nat → Prop} {md ml : Nat} {d : D} {ds : List Deferred} {q : Nat} (h : Mk w S ρ md ml d ds) (h3' : md ≠ 3) (hh : md ≠ 1 → ρ.hold q = some (.deferred (some [])) ∧ ml ≤ q ∧ markOf q ∉ ds) : Mk w S ρ md ml d (markOf q :: ds) := by
  by_cases hmd : md = 1
  · exact .inl hmd
  · obtain ⟨h1, h2, h3⟩ := hh hmd
    exact .inr ⟨.mark h1 h2 h3 (h.resolve_left hmd).1, fun h => absurd h h3'⟩

/-- The statement is entered. -/
theorem enter_sound (h : Sim X ρ σ bx a w) (h3 : X.md ≠ 3) (hr : ∀ l, r = some l → X.md = 1 ∧ ∃ rc, X.r0.hold l = some (.loop rc) ∧ ¬ X.E l) (fn : FuncId) (ps : Array Tmp) (assign body : Code) :
    ∃ l mark df w1 ρ2, (Instr.enterLoop fn a.tmps ps assign body r).run P w = .ok (l, mark) w1 ∧ Sim X ρ2 σ bx { a with defers := mark ++ a.defers } w1 ∧ ρ2.at_ = ρ.at_ ∧ Below w.heap.size w w1 ∧
      ρ2.hold l = some (.loop ⟨.ready, none, fn, a.tmps, ps, assign, body, df⟩) ∧ X.w0.heap.size ≤ l := by
  cases r with
  | none =>
    have h1 := h.newHold (o := .deferred (some [])) rfl
    have h2 := h1.newHold (o := .loop ⟨.ready, none, fn, a.tmps, ps, assign, body, w.heap.size⟩) rfl
    refine ⟨_, _, w.heap.size, _, _, run_enterLoop_outer fn a.tmps ps assign body, h2.switch (a' := { a with defers := [markOf w.heap.size] ++ a.defers }) h2.size (h2.marks.marked h3 fun hmd => ⟨by simp, Nat.le_trans h.mkb h.fr.size, fun hmem => ?_⟩) h2.tmps, rfl, ((Below.refl w.heap.size w).alloc (Nat.le_refl _) _).alloc (by simp) _, by simp, ?_⟩
    · have hm := (h.marks.resolve_left hmd).1
      have := (Array.getElem?_eq_some_iff.1 (h.hold _ _ (hm.mem _ hmem)).1).1
      omega
    · have := h.fr.size; omega
  | some l0 =>
    obtain ⟨_, rc, h0, hE⟩ := hr l0 rfl
    have hl0 := (h.hold l0 _ (h.holds0 l0 _ h0 hE)).1
    have h2 := h.newHold (o := .loop ⟨.ready, none, fn, a.tmps, ps, assign, body, rc.defers⟩) rfl
    refine ⟨w.heap.size, [], rc.defers, _, _, ?_, h2, rfl, (Below.refl w.heap.size w).alloc (Nat.le_refl _) _, by simp, h.fr.size⟩
    unfold Instr.enterLoop
    simp only [Sem.run_bind, run_getLoop hl0, run_newObj_alloc, Result.andThen, Sem.run_pure]

theorem range_sound {g : Operand} {ps : Array Tmp} {assign body : Code} (hA : Sound P assign) (hB : Sound P body) : Sound P (.rangeFunc g ps assign body) := by
  intro r n C X Qd Q ρ σ bx a w hG hr hok h hc hQ
  obtain ⟨hlo, hyl, f, caps, items, ext, hg, hp, hit, J, hJ0, hround, hend⟩ := hc
  have xlo : X.lo = 0 := by have := hG.lo; omega
  simp only [codeOk1, Bool.and_eq_true, List.all_eq_true, decide_eq_true_eq] at hok
  have hgv := h.ev g
  rw [hg] at hgv
  obtain ⟨vs, hval, hvl, hv⟩ := hgv.inv_fn
  refine wpIn_rangeFunc fun fn _ => ?_
  obtain ⟨l, mark, df, w1, ρ2, he, h2, hat, hb, hl, hwl⟩ := enter_sound h (fun h3 => hG.it h3 _ _ _ _ hit) hr fn ps assign body
  have hI := hG.ok.it f caps items ext hit X ρ2 σ bx _ w1 l C.nxt ⟨.ready, none, fn, a.tmps, ps, assign, body, df⟩ vs J (JxOf C.nxt Qd σ) h2 xlo hl hwl (by
      cases h0 : X.r0.hold l with
      | none => rfl
      | some o => have := h.h0lt l o h0; omega) hvl (fun i x v hx hv' => ((hv i x v hx hv').toP (pureL_mem _ hp i x hx)).mono (fun b hb' => hb.block b hb'.1) (fun b hb' => ⟨Nat.lt_of_lt_of_le hb'.1 hb.size, hb'.2.1, by rw [hat]; exact hb'.2.2⟩)) hJ0
    (rounds_sound hA hB (a := { a with defers := mark ++ a.defers }) hG.ok hlo hyl ⟨hok.1.1, hok.1.2, hok.2⟩ ⟨rfl, rfl, rfl, rfl, rfl, rfl⟩ hround)
  obtain ⟨hcf, hcalls⟩ := hI
  refine ⟨l, mark, w1, { target := .fn (.func f) vs, args := #[.func (.yield l) #[] #[]] }, w1, f, _, w1, he, by
    simp only [resolve, rangeCall, List.map_toArray, List.map_cons, List.map_nil]
    rw [hval]
    rfl, fun _ _ => trivial, hcf, fun h => by simp [Fence.wide] at h, callsIn_fw (Calls.mono hcalls ?_)⟩
  rintro e w' ⟨v, ρ', bx', rfl, h', hJ⟩
  have hlw : ∀ rc, ρ'.hold l = some (.loop rc) → w'.heap[l]? = some (.loop rc) := fun rc hh => (h'.hold l _ hh).1
  have setl : ∀ rc o', ρ'.hold l = some (.loop rc) → Sim X ⟨ρ'.at_, fun k => if k = l then some (.loop o') else ρ'.hold k⟩ σ bx' { a with defers := mark ++ a.defers } (w'.putObj l (.loop o')) := fun rc o' hh =>
    h'.setHold hh (.inr hwl) (by
      cases h0 : X.r0.hold l with
      | none => exact .inl rfl
      | some o => have := h.h0lt l o h0; omega) (by simp) rfl (putObj_fr w' l _) (World.putObj_heap_same (Array.getElem?_eq_some_iff.1 (hlw rc hh)).1) (h'.y0 xlo _ _)
  rcases hJ with ⟨hh, hJ⟩ | ⟨jump, hh, hJ⟩
  · exact ⟨none, _, run_endLoop (hlw _ hh) (by simp), hQ .normal .normal _ _ _ _ _ trivial (hend bx' hJ) (setl _ _ hh)⟩
  · refine ⟨some jump, _, run_endLoop (hlw _ hh) (by simp), ?_⟩
    cases jump with
    | ret => exact wpIn_ret (hQ .ret .ret _ _ _ _ _ trivial (hJ bx' rfl) (setl _ _ hh))
    | exit id => exact wpIn_exit (hQ (.exit id) (.exit id) _ _ _ _ _ rfl (hJ bx' rfl) (setl _ _ hh))
    | _ => exact hJ.elim

theorem wpIn_scope {F : Fence} {n : Nat} {Q : Exit → Act → World → Prop} {c : Code} (h : c.wpIn F n P (Exit.noGoto Q) a w) : (Code.scope c).wpIn F n P Q a w := by
  intro b k cs hro hb hr
  have hs : step P (lone (b.atR a (.code (.scope c) :: k)) cs w) = .next (lone (b.atR a (.code c :: .inScope c :: k)) cs w) := step_lone_go (by simp [stepG, stepG.exec, Frame.atR])
  have hs' : ∀ a w, step P (lone (b.atR a (.inScope c :: k)) cs w) = .next (lone (b.atR a k) cs w) := fun a w => step_lone_go (by simp [stepG, stepG.exec, Frame.atR])
  have h0 : (lone (b.atR a (.code (.scope c) :: k)) cs w).fenced P F := fenced_calm hb hr rfl
  obtain ⟨e, a₁, w₁, hq, harr⟩ := h b (.inScope c :: k) cs hro hb hr
  cases e with
  | normal => exact ⟨.normal, a₁, w₁, hq, .head h0 hs (StepsIn.trans harr (.one (fenced_calm hb hr rfl) (hs' _ _)))⟩
  | exit id =>
    have hx : exitTo id (.inScope c :: k) = exitTo id k := by simp [exitTo]
    exact ⟨_, a₁, w₁, hq, fun k' hk => .head h0 hs (harr.1 k' (by rw [hx]; exact hk)),
      fun hr' hk => let ⟨k₁, h1, h2⟩ := harr.2 hr' (by rw [hx]; exact hk); ⟨k₁, h1, .head h0 hs h2⟩⟩
  | goto l => exact hq.elim
  | ret => exact ⟨_, a₁, w₁, hq, .of_steps (.one h0 hs) harr⟩
  | panic ch => exact ⟨_, a₁, w₁, hq, .of_steps (.one h0 hs) harr⟩
  | outgrown => exact ⟨_, a₁, w₁, hq, .of_steps (.one h0 hs) harr⟩

/-- **CODE.** -/
theorem code_sound (hm : P.follows .mixedOrders = true) : ∀ (c : Code), Sound P c
  | .skip => fun r n C X Qd Q ρ σ bx a w hG hr hok h hc hQ => wpIn_skip (hQ .normal .normal _ _ _ _ _ trivial hc h)
  | .label _ => fun r n C X Qd Q ρ σ bx a w hG hr hok h hc hQ => wpIn_label (hQ .normal .normal _ _ _ _ _ trivial hc h)
  | .exit id => fun r n C X Qd Q ρ σ bx a w hG hr hok h hc hQ => wpIn_exit (hQ (.exit id) (.exit id) _ _ _ _ _ rfl hc h)
  | .ret => fun r n C X Qd Q ρ σ bx a w hG hr hok h hc hQ => wpIn_ret (hQ .ret .ret _ _ _ _ _ trivial hc h)
  | .seq x y => fun r n C X Qd Q ρ σ bx a w hG hr hok h hc hQ => by
    simp only [codeOk1, Bool.and_eq_true] at hok
    refine wpIn_seq (code_sound hm x r n C X _ _ ρ σ bx a w hG hr hok.1 h hc fun e e' σ' bx' a' w' ρ' hx hq h' => ?_)
    rcases hx.cases with ⟨rfl, rfl⟩ | ⟨rfl, rfl⟩ | ⟨_, rfl, rfl⟩ | ⟨_, rfl, rfl⟩ | ⟨_, _, rfl, rfl, _⟩
    · exact code_sound hm y r n C X _ _ ρ' σ' bx' a' w' hG hr hok.2 h' hq hQ
    all_goals exact hQ _ _ _ _ _ _ _ hx hq h'
  | .cond c x y => fun r n C X Qd Q ρ σ bx a w hG hr hok h hc hQ => by
    simp only [codeOk1, Bool.and_eq_true] at hok
    have hcv := h.ev c
    simp only [cR] at hc
    cases hd : ev σ c with
    | bool t =>
      rw [hd] at hc hcv
      refine wpIn_cond hcv.inv_bool ?_
      cases t with
      | true => exact code_sound hm x r n C X _ _ ρ σ bx a w hG hr hok.1 h hc hQ
      | false => exact code_sound hm y r n C X _ _ ρ σ bx a w hG hr hok.2 h hc hQ
    | _ => rw [hd] at hc; exact hc.elim
  | .block id c => fun r n C X Qd Q ρ σ bx a w hG hr hok h hc hQ => by
    refine wpIn_block (code_sound hm c r n C X _ _ ρ σ bx a w hG hr hok h hc fun e e' σ' bx' a' w' ρ' hx hq h' => ?_)
    rcases hx.cases with ⟨rfl, rfl⟩ | ⟨rfl, rfl⟩ | ⟨id', rfl, rfl⟩ | ⟨_, rfl, rfl⟩ | ⟨_, _, rfl, rfl, _⟩
    rotate_left 2
    · simp only [blockQ] at hq
      simp only [Exit.inBlock]
      split at hq
      · rename_i he; rw [if_pos he]; exact hQ .normal .normal _ _ _ _ _ trivial hq h'
      · rename_i he; rw [if_neg he]; exact hQ _ _ _ _ _ _ _ hx hq h'
    all_goals exact hQ _ _ _ _ _ _ _ hx hq h'
  | .loop c => fun r n C X Qd Q ρ σ bx a w hG hr hok h hc hQ => by
    obtain ⟨I, μ, h0, hl⟩ := hc
    refine wpIn_loop_ghost (fun m a w => ∃ ρ σ bx, Sim X ρ σ bx a w ∧ I σ bx ∧ μ σ bx = m) (μ σ bx) ⟨ρ, σ, bx, h, h0, rfl⟩ ?_
    rintro m a w ⟨ρ, σ, bx, h, hI, rfl⟩
    refine code_sound hm c r n C X _ _ ρ σ bx a w hG hr hok h (hl σ bx hI) fun e e' σ' bx' a' w' ρ' hx hq h' => ?_
    rcases hx.cases with ⟨rfl, rfl⟩ | ⟨rfl, rfl⟩ | ⟨_, rfl, rfl⟩ | ⟨_, rfl, rfl⟩ | ⟨_, _, rfl, rfl, _⟩
    · exact ⟨_, hq.2, ρ', σ', bx', h', hq.1, rfl⟩
    all_goals exact hQ _ _ _ _ _ _ _ hx hq h'
  | .region id ops draw => fun r n C X Qd Q ρ σ bx a w hG hr hok h hc hQ => by
    simp only [codeOk1, Bool.and_eq_true, List.all_eq_true] at hok
    obtain ⟨hdst, hok⟩ := hok
    have hdst : ∀ o ∈ ops.toList, ∀ t, o.dst = some t → t < X.N := fun o ho t ht => by
      have := hdst o ho
      rw [ht] at this; simpa using this
    cases draw with
    | false =>
      simp only [cR, opsD] at hc
      refine wpIn_region ?_
      have := ops_sound (r := r) (n := n) (Q := Q) hG (fun l hl => (hr l hl).1) hdst (K := fun acc σ' bx' => regQ Qd acc σ' bx') (fun acc σ' bx' a' w' ρ' hacc hK h' => hQ .normal .normal _ _ _ _ _ trivial (by
        cases acc with
        | nil => exact hK
        | cons c l => cases c <;> first | exact hK | exact absurd rfl (hacc _ _)) h') (fun d acc σ' bx' a' w' ρ' v hK h' hr' => hQ (.pan d) (.panic [pe v]) _ _ _ _ _ ⟨v, rfl, hr'⟩ hK h') ops.toList [] [] ρ σ bx a w rfl (by intro d l; simp) h hc
      rw [List.range_eq_range']
      simpa using this
    | true =>
      simp only [cR, opsD] at hc
      refine wpIn_region_any hm ?_
      obtain ⟨cs, vs, σs, bs, hs0, hb0, hat, hch, hQd⟩ := opsR_trace (C := C.det) (fun _ _ _ _ _ _ hf => hf) rfl rfl rfl _ _ _ _ hc
      have hR := run_of (C := C.det) (id := id) (tab := C.tab) (by simpa using hok) rfl (by simpa using hch) hat
      subst hs0; subst hb0
      refine any_sound hR hG.det (fun l hl => (hr l hl).1) hdst (fun a' w' ρ' h' => hQ .normal .normal _ _ _ _ _ trivial hQd h') _ _ ρ (σs 0) (bs 0) a _ (by simp) ?_ ⟨fun i o ho hL => ?_, fun j hj => ?_, fun t => .inr ⟨fun j hj => ?_, rfl⟩, fun s => .inr ⟨fun j hj => ?_, rfl⟩⟩ (h.ext ⟨rfl, rfl, rfl, Nat.le_refl _, fun _ _ => rfl⟩)
      · exact Nat.le_trans (List.length_filter_le _ _) (by simp)
      all_goals
        exfalso
        simp [Array.getD] at *
  | .rangeFunc g ps assign body => range_sound (code_sound hm assign) (code_sound hm body)
  | .scope c => fun r n C X Qd Q ρ σ bx a w hG hr hok h hc hQ => by
    refine wpIn_scope (code_sound hm c r n C X _ _ ρ σ bx a w hG hr hok h hc fun e e' σ' bx' a' w' ρ' hx hq h' => ?_)
    rcases hx.cases with ⟨rfl, rfl⟩ | ⟨rfl, rfl⟩ | ⟨_, rfl, rfl⟩ | ⟨_, rfl, rfl⟩ | ⟨_, _, rfl, rfl, _⟩
    rotate_left 3
    · exact hq.elim
    all_goals exact hQ _ _ _ _ _ _ _ hx hq h'
  | .goto _ => fun r n C X Qd Q ρ σ bx a w hG hr hok h hc hQ => hc.elim
  | .refuse _ => fun r n C X Qd Q ρ σ bx a w hG hr hok h hc hQ => hc.elim

end Go.V
