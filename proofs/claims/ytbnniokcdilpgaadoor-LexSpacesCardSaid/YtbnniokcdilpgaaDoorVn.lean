/-
  Regions, in order and in any order.
-/
import Derived.Test.YtbnniokcdilpgaaDoorVm
namespace Go.V
open Go.RowKit

variable {P : Program} {C : Calc} {X : Ctx} {ρ : Rho} {σ : Env} {bx : Bxs} {a : Act} {w : World} {r : Option Nat} {n : Nat}

/-- A step under its guard. -/
def gstep (P : Program) (C : Calc) (full : List Oper) (o : Oper) (σ : Env) (bx : Bxs) (K : Cl → Env → Bxs → Prop) : Prop :=
  match o.guard with
  | none => stepD P C o σ bx K
  | some (j, want) => bindD (guardO full[j]? σ) fun g => gK g want (stepD P C o σ bx K) (K .n (put σ o.dst (.raw undef)) bx)

theorem contC_np {c : Cl} {x y : Prop} (h : ∀ d, c ≠ .pan d) : contC c x y = y := by
  cases c <;> first | rfl | exact absurd rfl (h _)

theorem opsR_cons (full : List Oper) (o : Oper) (rest : List Oper) (acc : List Cl) (K : List Cl → Env → Bxs → Prop) :
    opsR P C full (o :: rest) acc σ bx K = gstep P C full o σ bx fun c σ' bx' => contC c (K (c :: acc) σ' bx') (opsR P C full rest (c :: acc) σ' bx' K) := by
  obtain ⟨dst, op, ty, pos, af, g⟩ := o
  cases g with
  | none => rfl
  | some g => obtain ⟨j, want⟩ := g; rfl

structure EffG (P : Program) (C : Calc) (full : List Oper) (o : Oper) (σ : Env) (bx : Bxs) (c : Cl) (v : D) (bx' : Bxs) : Prop where
  np : ∀ x, c ≠ .pan x
  same : ∀ s, c.wr s = false → bx' s = bx s
  le0 : wcls o.op = 0 → c = .n
  le1 : wcls o.op ≠ 2 → ∀ s, c.wr s = false
  run : ∀ σ₂ bx₂, (∀ t ∈ o.looksAt full.toArray, σ₂ t = σ t) → (∀ s, c.rd s = true → bx₂ s = bx s) → ∀ K : Cl → Env → Bxs → Prop, K c (put σ₂ o.dst v) (mergeB c bx' bx₂) → gstep P C full o σ₂ bx₂ K

theorem alike_of_looks {full : List Oper} {o : Oper} {σ₂ : Env} (h : ∀ t ∈ o.looksAt full.toArray, σ₂ t = σ t) : Alike σ σ₂ o.op := fun x hx => ev_agree fun t ht => h t (by
  subst ht
  exact List.mem_append_left _ (List.mem_filterMap.2 ⟨.tmp t, hx, rfl⟩))

theorem gstep_eff (hT : ∀ f b ds bx Q Qp, ¬ C.o.toB f b ds bx Q Qp) (hyl : C.yl = none) (hpn : C.pn = false) (hdf : C.df = false) {full : List Oper} {o : Oper} {K : Cl → Env → Bxs → Prop} (hs : gstep P C full o σ bx K) : ∃ c v bx', K c (put σ o.dst v) bx' ∧ EffG P C full o σ bx c v bx' := by
  unfold gstep at hs
  split at hs
  · rename_i hg
    obtain ⟨c, v, bx', hK, he⟩ := stepD_eff hT hyl hpn hdf hs
    refine ⟨c, v, bx', hK, ⟨he.np, he.same, he.le0, he.le1, fun σ₂ bx₂ h1 h2 K hK => ?_⟩⟩
    unfold gstep
    rw [hg]
    exact he.run σ₂ bx₂ (alike_of_looks h1) h2 K hK
  · rename_i j want hg
    cases hz : guardO full[j]? σ with
    | none => rw [hz] at hs; exact hs.elim
    | some g =>
      rw [hz] at hs
      have hgu : ∀ σ₂ : Env, (∀ t ∈ o.looksAt full.toArray, σ₂ t = σ t) → guardO full[j]? σ₂ = some g := by
        intro σ₂ h1
        rw [← hz]
        unfold guardO
        cases hj : full[j]? with
        | none => rfl
        | some o' =>
          dsimp only
          cases hd : o'.dst with
          | none => rfl
          | some d =>
            dsimp only
            rw [h1 d]
            refine List.mem_append_right _ ?_
            rw [hg]
            simp [hj, hd]
      simp only [bindD, gK] at hs
      by_cases hw : g = some want
      · rw [if_pos hw] at hs
        obtain ⟨c, v, bx', hK, he⟩ := stepD_eff hT hyl hpn hdf hs
        refine ⟨c, v, bx', hK, ⟨he.np, he.same, he.le0, he.le1, fun σ₂ bx₂ h1 h2 K hK => ?_⟩⟩
        unfold gstep
        rw [hg]
        simp only [hgu σ₂ h1, bindD, gK, hw, if_true]
        exact he.run σ₂ bx₂ (alike_of_looks h1) h2 K hK
      · rw [if_neg hw] at hs
        refine ⟨_, _, _, hs, ⟨(by intro x; simp), fun _ _ => rfl, fun _ => rfl, fun _ _ => rfl, fun σ₂ bx₂ h1 h2 K hK => ?_⟩⟩
        unfold gstep
        rw [hg]
        simp only [hgu σ₂ h1, bindD, gK, hw, if_false]
        rw [mergeB_no (fun _ => rfl)] at hK
        exact hK

theorem gstep_sound {ops : Array Oper} (h : Sim X ρ σ bx a w) (hG : Good P C X) (hrd : ∀ l, r = some l → X.md = 1) {o : Oper} (hdst : ∀ t, o.dst = some t → t < X.N) {K : Cl → Env → Bxs → Prop} (hs : gstep P C ops.toList o σ bx K)
    {next : Act → World → Prop} {Q : Exit → Act → World → Prop} (hK : ∀ c σ' bx' a' w' ρ', (∀ x, c ≠ .pan x) → K c σ' bx' → Sim X ρ' σ' bx' a' w' → next a' w')
    (hP : ∀ d σ' bx' a' w' ρ' v, K (.pan d) σ' bx' → Sim X ρ' σ' bx' a' w' → Rep w' (Stab X ρ' bx' w') ρ' d v → Q (.panic [pe v]) a' w') :
    if Region.wanted o (yielded ops a.tmps) = true then o.wpIn (Fw r) n P a w next Q else (∀ f, o.about P w a.eval = some f → (Fw r).fn f) ∧ next (a.put o.dst undef) w := by
  unfold gstep at hs
  split at hs
  · rename_i hg
    rw [if_pos (by simp [Region.wanted, hg])]
    exact step_sound h hG hrd hdst hs hK hP
  · rename_i j want hg
    cases hz : guardO ops.toList[j]? σ with
    | none => rw [hz] at hs; exact hs.elim
    | some g =>
      rw [hz] at hs
      have hy : yielded ops a.tmps j = g := by
        unfold guardO at hz
        split at hz
        · rename_i o' ho'
          split at hz
          · rename_i d hd
            have ht := h.tmps d
            have ho2 : ops[j]? = some o' := by rw [Array.getElem?_toList] at ho'; exact ho'
            unfold guardV at hz
            split at hz
            · rename_i b hb
              rw [hb] at ht
              have := ht.inv_bool
              injection hz with hz
              subst hz
              have hlt : d < a.tmps.size := by
                rcases Nat.lt_or_ge d a.tmps.size with h1 | h1
                · exact h1
                · rw [Array.getD_eq_getD_getElem?, Array.getElem?_eq_none h1] at this
                  cases this
              have hget : a.tmps[d]? = some (.bool b) := by
                rw [Array.getD_eq_getD_getElem?, Array.getElem?_eq_getElem hlt] at this
                rw [Array.getElem?_eq_getElem hlt]; simpa using this
              simp [yielded, ho2, hd, hget]
            · rename_i vs hb
              rw [hb] at ht
              have := ht.inv_raw
              split at hz
              · injection hz with hz
                subst hz
                rw [Array.getD_eq_getD_getElem?] at this
                simp only [yielded, ho2, Option.bind_some, hd]
                cases hget : a.tmps[d]? with
                | none => rfl
                | some v => rw [hget] at this; simp only [Option.getD_some] at this; rw [this]
              · cases hz
            · cases hz
          · cases hz
        · cases hz
      simp only [bindD, gK] at hs
      by_cases hw : g = some want
      · rw [if_pos hw] at hs
        rw [if_pos (by simp [Region.wanted, hg, hy, hw])]
        exact step_sound h hG hrd hdst hs hK hP
      · rw [if_neg hw] at hs
        rw [if_neg (by simp [Region.wanted, hg, hy, hw])]
        exact ⟨fun _ _ => trivial, hK _ _ _ _ _ _ (by intro x; simp) hs (h.put hdst (.pure (.raw _)))⟩

/-- In order. -/
theorem ops_sound {ops : Array Oper} (hG : Good P C X) (hrd : ∀ l, r = some l → X.md = 1) (hdst : ∀ o ∈ ops.toList, ∀ t, o.dst = some t → t < X.N) {Q : Exit → Act → World → Prop} {K : List Cl → Env → Bxs → Prop}
    (hQ : ∀ acc σ' bx' a' w' ρ', (∀ d l, acc ≠ .pan d :: l) → K acc σ' bx' → Sim X ρ' σ' bx' a' w' → Q .normal a' w')
    (hP : ∀ d acc σ' bx' a' w' ρ' v, K (.pan d :: acc) σ' bx' → Sim X ρ' σ' bx' a' w' → Rep w' (Stab X ρ' bx' w') ρ' d v → Q (.panic [pe v]) a' w') : ∀ (rest done : List Oper) (acc : List Cl) (ρ : Rho) (σ : Env) (bx : Bxs) (a : Act) (w : World), ops.toList = done ++ rest → (∀ d l, acc ≠ .pan d :: l) → Sim X ρ σ bx a w → opsR P C ops.toList rest acc σ bx K →
      wpOpsIn (Fw r) n P ops Q (List.range' done.length rest.length) a w
  | [], done, acc, ρ, σ, bx, a, w, hl, hacc, h, hs => hQ _ _ _ _ _ _ hacc hs h
  | o :: rest, done, acc, ρ, σ, bx, a, w, hl, hacc, h, hs => by
    rw [opsR_cons] at hs
    have ho : ops[done.length]? = some o := by rw [← Array.getElem?_toList, hl]; simp
    simp only [List.length_cons, List.range'_succ, wpOpsIn, ho]
    exact gstep_sound h hG hrd (hdst o (by rw [hl]; simp)) hs (fun c σ' bx' a' w' ρ' hc hK h' => by
      rw [contC_np hc] at hK
      have := ops_sound hG hrd hdst hQ hP rest (done ++ [o]) (c :: acc) ρ' σ' bx' a' w' (by rw [hl]; simp) (fun d l e => hc d (by injection e)) h' hK
      simpa using this) (fun d σ' bx' a' w' ρ' v hK h' hr => hP _ _ _ _ _ _ _ _ hK h' hr)

theorem opsR_trace (hT : ∀ f b ds bx Q Qp, ¬ C.o.toB f b ds bx Q Qp) (hyl : C.yl = none) (hpn : C.pn = false) (hdf : C.df = false) {full : List Oper} {K : List Cl → Env → Bxs → Prop} : ∀ (rest : List Oper) (acc : List Cl) (σ : Env) (bx : Bxs), opsR P C full rest acc σ bx K →
    ∃ (cs : Nat → Cl) (vs : Nat → D) (σs : Nat → Env) (bs : Nat → Bxs), σs 0 = σ ∧ bs 0 = bx ∧ (∀ (k : Nat) o, rest[k]? = some o → σs (k + 1) = put (σs k) o.dst (vs k) ∧ EffG P C full o (σs k) (bs k) (cs k) (vs k) (bs (k + 1))) ∧
      K (((List.range rest.length).map cs).reverse ++ acc) (σs rest.length) (bs rest.length)
  | [], acc, σ, bx, h => ⟨fun _ => .n, fun _ => .undef, fun _ => σ, fun _ => bx, rfl, rfl, fun k o ho => by simp at ho, h⟩
  | o :: rest, acc, σ, bx, h => by
    rw [opsR_cons] at h
    obtain ⟨c, v, bx', hK, he⟩ := gstep_eff hT hyl hpn hdf h
    rw [contC_np he.np] at hK
    obtain ⟨cs, vs, σs, bs, h1, h2, h3, h4⟩ := opsR_trace hT hyl hpn hdf rest _ _ _ hK
    refine ⟨fun k => match k with | 0 => c | k + 1 => cs k, fun k => match k with | 0 => v | k + 1 => vs k, fun k => match k with | 0 => σ | k + 1 => σs k, fun k => match k with | 0 => bx | k + 1 => bs k, rfl, rfl, fun k o' ho => ?_, ?_⟩
    · cases k with
      | zero =>
        simp only [List.getElem?_cons_zero, Option.some.injEq] at ho
        subst ho
        exact ⟨h1, by show EffG P C full o σ bx c v (bs 0); rw [h2]; exact he⟩
      | succ k => exact h3 k o' (by simpa using ho)
    · simp only [List.length_cons, List.range_succ_eq_map, List.map_cons, List.map_map, List.reverse_cons, List.append_assoc, List.singleton_append]
      exact h4

/-- x is what the last of the steps of L that write this cell left in it. -/
def Val {α : Type} (W : Nat → Prop) (L : Nat → Prop) (val : Nat → α) (init x : α) : Prop :=
  (∃ j, L j ∧ W j ∧ (∀ j', L j' → W j' → j' ≤ j) ∧ x = val j) ∨ ((∀ j, L j → ¬ W j) ∧ x = init)

theorem Val.seq {α : Type} {W : Nat → Prop} [DecidablePred W] {val : Nat → α} {xs : Nat → α} (m : Nat) (h : ∀ k, k < m → xs (k + 1) = if W k then val k else xs k) : Val W (· < m) val (xs 0) (xs m) := by
  induction m with
  | zero => exact .inr ⟨fun j hj => absurd hj (Nat.not_lt_zero j), rfl⟩
  | succ m ih =>
    have ih := ih fun k hk => h k (by omega)
    have hm := h m (by omega)
    by_cases hw : W m
    · rw [if_pos hw] at hm
      exact .inl ⟨m, Nat.lt_succ_self m, hw, fun j' hj _ => Nat.le_of_lt_succ hj, hm⟩
    · rw [if_neg hw] at hm
      rw [hm]
      rcases ih with ⟨j, h1, h2, h3, h4⟩ | ⟨h1, h2⟩
      · refine .inl ⟨j, Nat.lt_succ_of_lt h1, h2, fun j' hj hw' => ?_, h4⟩
        rcases Nat.lt_succ_iff_lt_or_eq.1 hj with hj | rfl
        · exact h3 j' hj hw'
        · exact absurd hw' hw
      · refine .inr ⟨fun j hj hw' => ?_, h2⟩
        rcases Nat.lt_succ_iff_lt_or_eq.1 hj with hj | rfl
        · exact h1 j hj hw'
        · exact hw hw'

theorem Val.uniq {α : Type} {W L L' : Nat → Prop} {val : Nat → α} {init x y : α} (h : Val W L val init x) (h' : Val W L' val init y) (hL : ∀ j, W j → (L j ↔ L' j)) : x = y := by
  rcases h with ⟨j, h1, h2, h3, rfl⟩ | ⟨h1, rfl⟩
  · rcases h' with ⟨j', g1, g2, g3, rfl⟩ | ⟨g1, rfl⟩
    · have : j = j' := Nat.le_antisymm (g3 j ((hL j h2).1 h1) h2) (h3 j' ((hL j' g2).2 g1) g2)
      rw [this]
    · exact absurd h2 (g1 j ((hL j h2).1 h1))
  · rcases h' with ⟨j', g1, g2, g3, rfl⟩ | ⟨g1, rfl⟩
    · exact absurd g2 (h1 j' ((hL j' g2).2 g1))
    · rfl

theorem Val.step {α : Type} {W L : Nat → Prop} [DecidablePred W] {val : Nat → α} {init x : α} {i : Nat} {L' : Nat → Prop} (h : Val W L val init x) (hL' : ∀ j, L' j ↔ L j ∨ j = i) (ho : W i → ∀ j, L j → W j → j ≤ i) :
    Val W L' val init (if W i then val i else x) := by
  by_cases hw : W i
  · rw [if_pos hw]
    refine .inl ⟨i, (hL' i).2 (.inr rfl), hw, fun j hj hwj => ?_, rfl⟩
    rcases (hL' j).1 hj with hj | rfl
    · exact ho hw j hj hwj
    · exact Nat.le_refl _
  · rw [if_neg hw]
    rcases h with ⟨j, h1, h2, h3, rfl⟩ | ⟨h1, rfl⟩
    · refine .inl ⟨j, (hL' j).2 (.inl h1), h2, fun j' hj hwj => ?_, rfl⟩
      rcases (hL' j').1 hj with hj | rfl
      · exact h3 j' hj hwj
      · exact absurd hwj hw
    · refine .inr ⟨fun j hj hwj => ?_, rfl⟩
      rcases (hL' j).1 hj with hj | rfl
      · exact h1 j hj hwj
      · exact hw hwj

theorem apart_no {c c' : Cl} (h : apart c c') (s : Nat) : (c.wr s = true → c'.rd s = true → False) ∧ (c'.wr s = true → c.rd s = true → False) := by
  cases c <;> cases c' <;> simp_all [apart, Cl.wr, Cl.rd]
  all_goals first
    | (intro e; subst e; first | exact h | exact fun e => h e | exact fun e => h e.symm)
    | trivial

theorem chk_at : ∀ {ps : List (Nat × Nat)} {acc : List Cl}, chk ps acc → ∀ i j, (i, j) ∈ ps → apartO acc[i]? acc[j]?
  | [], _, _, i, j, hm => by cases hm
  | (i', j') :: ps, acc, h, i, j, hm => by
    rcases List.mem_cons.1 hm with e | hm
    · injection e with e1 e2; subst e1; subst e2; exact h.1
    · exact chk_at h.2 i j hm

end Go.V
