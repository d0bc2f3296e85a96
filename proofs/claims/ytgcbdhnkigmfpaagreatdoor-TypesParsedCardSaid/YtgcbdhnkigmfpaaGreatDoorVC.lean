/-
  Regions, in order and in any order.
  A region whose order is drawn.
  A region whose order is drawn comes to the end that it comes to in order.
  Code; functions.
  A range over a function; all code.
  Functions: what the data level says of a function's text is its contract.
  Functions that are ranged over.
-/
import Derived.Test.YtgcbdhnkigmfpaaGreatDoorVM
import Derived.Sort.LoopGhostIn
import Derived.Conc.MuLone
import Derived.RangeFuncRecord
import Derived.RangeFuncIn
import Derived.Scope
import Derived.RangeFuncLeaves
namespace Go.V
open Go.RowKit

variable {P : Program} {C : Calc} {X : Ctx} {ρ : Rho} {σ : Env} {bx : Bxs} {a : Act} {w : World} {r : Option Nat} {n : Nat}

/-- A step under its guard. -/
def gstep (P : Program) (C : Calc) (full : List Oper) (o : Oper) (σ : Env) (bx : Bxs) (K : Cl → Env → Bxs → Prop) : Prop :=
  match o.guard with
  | none => stepD P C o σ bx K
  | some (j, want) => bindD (guardO full[j]? σ) fun g => gK g want (stepD P C o σ bx K) (K .n (put σ o.dst (.raw undef)) bx)

theorem contC_np {c : Cl} {x y : Prop} (h : ∀ d, c ≠ .pan d) : contC c x y = y := by
  cases c <;> first | rfl | exact absurd rfl (h _)

theorem opsR_cons (full : List Oper) (o : Oper) (rest : List Oper) (acc : List Cl) (K : List Cl → Env → Bxs → Prop) :
    opsR P C full (o :: rest) acc σ bx K = gstep P C full o σ bx fun c σ' bx' => contC c (K (c :: acc) σ' bx') (opsR P C full rest (c :: acc) σ' bx' K) := by
  obtain ⟨dst, op, ty, pos, af, g⟩ := o
  cases g with
  | none => rfl
  | some g => obtain ⟨j, want⟩ := g; rfl

structure EffG (P : Program) (C : Calc) (full : List Oper) (o : Oper) (σ : Env) (bx : Bxs) (c : Cl) (v : D) (bx' : Bxs) : Prop where
  np : ∀ x, c ≠ .pan x
  same : ∀ s, c.wr s = false → bx' s = bx s
  le0 : wcls o.op = 0 → c = .n
  le1 : wcls o.op ≠ 2 → ∀ s, c.wr s = false
  run : ∀ σ₂ bx₂, (∀ t ∈ o.looksAt full.toArray, σ₂ t = σ t) → (∀ s, c.rd s = true → bx₂ s = bx s) → ∀ K : Cl → Env → Bxs → Prop, K c (put σ₂ o.dst v) (mergeB c bx' bx₂) → gstep P C full o σ₂ bx₂ K

theorem alike_of_looks {full : List Oper} {o : Oper} {σ₂ : Env} (h : ∀ t ∈ o.looksAt full.toArray, σ₂ t = σ t) : Alike σ σ₂ o.op := fun x hx => ev_agree fun t ht => h t (by
  subst ht
  exact List.mem_append_left _ (List.mem_filterMap.2 ⟨.tmp t, hx, rfl⟩))

theorem gstep_eff (hT : ∀ f b ds bx Q Qp, ¬ C.o.toB f b ds bx Q Qp) (hyl : C.yl = none) (hpn : C.pn = false) (hdf : C.df = false) {full : List Oper} {o : Oper} {K : Cl → Env → Bxs → Prop} (hs : gstep P C full o σ bx K) : ∃ c v bx', K c (put σ o.dst v) bx' ∧ EffG P C full o σ bx c v bx' := by
  unfold gstep at hs
  split at hs
  · rename_i hg
    obtain ⟨c, v, bx', hK, he⟩ := stepD_eff hT hyl hpn hdf hs
    refine ⟨c, v, bx', hK, ⟨he.np, he.same, he.le0, he.le1, fun σ₂ bx₂ h1 h2 K hK => ?_⟩⟩
    unfold gstep
    rw [hg]
    exact he.run σ₂ bx₂ (alike_of_looks h1) h2 K hK
  · rename_i j want hg
    cases hz : guardO full[j]? σ with
    | none => rw [hz] at hs; exact hs.elim
    | some g =>
      rw [hz] at hs
      have hgu : ∀ σ₂ : Env, (∀ t ∈ o.looksAt full.toArray, σ₂ t = σ t) → guardO full[j]? σ₂ = some g := by
        intro σ₂ h1
        rw [← hz]
        unfold guardO
        cases hj : full[j]? with
        | none => rfl
        | some o' =>
          dsimp only
          cases hd : o'.dst with
          | none => rfl
          | some d =>
            dsimp only
            rw [h1 d]
            refine List.mem_append_right _ ?_
            rw [hg]
            simp [hj, hd]
      simp only [bindD, gK] at hs
      by_cases hw : g = some want
      · rw [if_pos hw] at hs
        obtain ⟨c, v, bx', hK, he⟩ := stepD_eff hT hyl hpn hdf hs
        refine ⟨c, v, bx', hK, ⟨he.np, he.same, he.le0, he.le1, fun σ₂ bx₂ h1 h2 K hK => ?_⟩⟩
        unfold gstep
        rw [hg]
        simp only [hgu σ₂ h1, bindD, gK, hw, if_true]
        exact he.run σ₂ bx₂ (alike_of_looks h1) h2 K hK
      · rw [if_neg hw] at hs
        refine ⟨_, _, _, hs, ⟨(by intro x; simp), fun _ _ => rfl, fun _ => rfl, fun _ _ => rfl, fun σ₂ bx₂ h1 h2 K hK => ?_⟩⟩
        unfold gstep
        rw [hg]
        simp only [hgu σ₂ h1, bindD, gK, hw, if_false]
        rw [mergeB_no (fun _ => rfl)] at hK
        exact hK

theorem gstep_sound {ops : Array Oper} (h : Sim X ρ σ bx a w) (hG : Good P C X) (hrd : ∀ l, r = some l → X.md = 1) {o : Oper} (hdst : ∀ t, o.dst = some t → t < X.N) {K : Cl → Env → Bxs → Prop} (hs : gstep P C ops.toList o σ bx K)
    {next : Act → World → Prop} {Q : Exit → Act → World → Prop} (hK : ∀ c σ' bx' a' w' ρ', (∀ x, c ≠ .pan x) → K c σ' bx' → Sim X ρ' σ' bx' a' w' → next a' w')
    (hP : ∀ d σ' bx' a' w' ρ' v, K (.pan d) σ' bx' → Sim X ρ' σ' bx' a' w' → Rep w' (Stab X ρ' bx' w') ρ' d v → Q (.panic [pe v]) a' w') :
    if Region.wanted o (yielded ops a.tmps) = true then o.wpIn (Fw r) n P a w next Q else (∀ f, o.about P w a.eval = some f → (Fw r).fn f) ∧ next (a.put o.dst undef) w := by
  unfold gstep at hs
  split at hs
  · rename_i hg
    rw [if_pos (by simp [Region.wanted, hg])]
    exact step_sound h hG hrd hdst hs hK hP
  · rename_i j want hg
    cases hz : guardO ops.toList[j]? σ with
    | none => rw [hz] at hs; exact hs.elim
    | some g =>
      rw [hz] at hs
      have hy : yielded ops a.tmps j = g := by
        unfold guardO at hz
        split at hz
        · rename_i o' ho'
          split at hz
          · rename_i d hd
            have ht := h.tmps d
            have ho2 : ops[j]? = some o' := by rw [Array.getElem?_toList] at ho'; exact ho'
            unfold guardV at hz
            split at hz
            · rename_i b hb
              rw [hb] at ht
              have := ht.inv_bool
              injection hz with hz
              subst hz
              have hlt : d < a.tmps.size := by
                rcases Nat.lt_or_ge d a.tmps.size with h1 | h1
                · exact h1
                · rw [Array.getD_eq_getD_getElem?, Array.getElem?_eq_none h1] at this
                  cases this
              have hget : a.tmps[d]? = some (.bool b) := by
                rw [Array.getD_eq_getD_getElem?, Array.getElem?_eq_getElem hlt] at this
                rw [Array.getElem?_eq_getElem hlt]; simpa using this
              simp [yielded, ho2, hd, hget]
            · rename_i vs hb
              rw [hb] at ht
              have := ht.inv_raw
              split at hz
              · injection hz with hz
                subst hz
                rw [Array.getD_eq_getD_getElem?] at this
                simp only [yielded, ho2, Option.bind_some, hd]
                cases hget : a.tmps[d]? with
                | none => rfl
                | some v => rw [hget] at this; simp only [Option.getD_some] at this; rw [this]
              · cases hz
            · cases hz
          · cases hz
        · cases hz
      simp only [bindD, gK] at hs
      by_cases hw : g = some want
      · rw [if_pos hw] at hs
        rw [if_pos (by simp [Region.wanted, hg, hy, hw])]
        exact step_sound h hG hrd hdst hs hK hP
      · rw [if_neg hw] at hs
        rw [if_neg (by simp [Region.wanted, hg, hy, hw])]
        exact ⟨fun _ _ => trivial, hK _ _ _ _ _ _ (by intro x; simp) hs (h.put hdst (.pure (.raw _)))⟩

/-- In order. -/
theorem ops_sound {ops : Array Oper} (hG : Good P C X) (hrd : ∀ l, r = some l → X.md = 1) (hdst : ∀ o ∈ ops.toList, ∀ t, o.dst = some t → t < X.N) {Q : Exit → Act → World → Prop} {K : List Cl → Env → Bxs → Prop}
    (hQ : ∀ acc σ' bx' a' w' ρ', (∀ d l, acc ≠ .pan d :: l) → K acc σ' bx' → Sim X ρ' σ' bx' a' w' → Q .normal a' w')
    (hP : ∀ d acc σ' bx' a' w' ρ' v, K (.pan d :: acc) σ' bx' → Sim X ρ' σ' bx' a' w' → Rep w' (Stab X ρ' bx' w') ρ' d v → Q (.panic [pe v]) a' w') : ∀ (rest done : List Oper) (acc : List Cl) (ρ : Rho) (σ : Env) (bx : Bxs) (a : Act) (w : World), ops.toList = done ++ rest → (∀ d l, acc ≠ .pan d :: l) → Sim X ρ σ bx a w → opsR P C ops.toList rest acc σ bx K →
      wpOpsIn (Fw r) n P ops Q (List.range' done.length rest.length) a w
  | [], done, acc, ρ, σ, bx, a, w, hl, hacc, h, hs => hQ _ _ _ _ _ _ hacc hs h
  | o :: rest, done, acc, ρ, σ, bx, a, w, hl, hacc, h, hs => by
    rw [opsR_cons] at hs
    have ho : ops[done.length]? = some o := by rw [← Array.getElem?_toList, hl]; simp
    simp only [List.length_cons, List.range'_succ, wpOpsIn, ho]
    exact gstep_sound h hG hrd (hdst o (by rw [hl]; simp)) hs (fun c σ' bx' a' w' ρ' hc hK h' => by
      rw [contC_np hc] at hK
      have := ops_sound hG hrd hdst hQ hP rest (done ++ [o]) (c :: acc) ρ' σ' bx' a' w' (by rw [hl]; simp) (fun d l e => hc d (by injection e)) h' hK
      simpa using this) (fun d σ' bx' a' w' ρ' v hK h' hr => hP _ _ _ _ _ _ _ _ hK h' hr)

theorem opsR_trace (hT : ∀ f b ds bx Q Qp, ¬ C.o.toB f b ds bx Q Qp) (hyl : C.yl = none) (hpn : C.pn = false) (hdf : C.df = false) {full : List Oper} {K : List Cl → Env → Bxs → Prop} : ∀ (rest : List Oper) (acc : List Cl) (σ : Env) (bx : Bxs), opsR P C full rest acc σ bx K →
    ∃ (cs : Nat → Cl) (vs : Nat → D) (σs : Nat → Env) (bs : Nat → Bxs), σs 0 = σ ∧ bs 0 = bx ∧ (∀ (k : Nat) o, rest[k]? = some o → σs (k + 1) = put (σs k) o.dst (vs k) ∧ EffG P C full o (σs k) (bs k) (cs k) (vs k) (bs (k + 1))) ∧
      K (((List.range rest.length).map cs).reverse ++ acc) (σs rest.length) (bs rest.length)
  | [], acc, σ, bx, h => ⟨fun _ => .n, fun _ => .undef, fun _ => σ, fun _ => bx, rfl, rfl, fun k o ho => by simp at ho, h⟩
  | o :: rest, acc, σ, bx, h => by
    rw [opsR_cons] at h
    obtain ⟨c, v, bx', hK, he⟩ := gstep_eff hT hyl hpn hdf h
    rw [contC_np he.np] at hK
    obtain ⟨cs, vs, σs, bs, h1, h2, h3, h4⟩ := opsR_trace hT hyl hpn hdf rest _ _ _ hK
    refine ⟨fun k => match k with | 0 => c | k + 1 => cs k, fun k => match k with | 0 => v | k + 1 => vs k, fun k => match k with | 0 => σ | k + 1 => σs k, fun k => match k with | 0 => bx | k + 1 => bs k, rfl, rfl, fun k o' ho => ?_, ?_⟩
    · cases k with
      | zero =>
        simp only [List.getElem?_cons_zero, Option.some.injEq] at ho
        subst ho
        exact ⟨h1, by show EffG P C full o σ bx c v (bs 0); rw [h2]; exact he⟩
      | succ k => exact h3 k o' (by simpa using ho)
    · simp only [List.length_cons, List.range_succ_eq_map, List.map_cons, List.map_map, List.reverse_cons, List.append_assoc, List.singleton_append]
      exact h4

/-- x is what the last of the steps of L that write this cell left in it. -/
def Val {α : Type} (W : Nat → Prop) (L : Nat → Prop) (val : Nat → α) (init x : α) : Prop :=
  (∃ j, L j ∧ W j ∧ (∀ j', L j' → W j' → j' ≤ j) ∧ x = val j) ∨ ((∀ j, L j → ¬ W j) ∧ x = init)

theorem Val.seq {α : Type} {W : Nat → Prop} [DecidablePred W] {val : Nat → α} {xs : Nat → α} (m : Nat) (h : ∀ k, k < m → xs (k + 1) = if W k then val k else xs k) : Val W (· < m) val (xs 0) (xs m) := by
  induction m with
  | zero => exact .inr ⟨fun j hj => absurd hj (Nat.not_lt_zero j), rfl⟩
  | succ m ih =>
    have ih := ih fun k hk => h k (by omega)
    have hm := h m (by omega)
    by_cases hw : W m
    · rw [if_pos hw] at hm
      exact .inl ⟨m, Nat.lt_succ_self m, hw, fun j' hj _ => Nat.le_of_lt_succ hj, hm⟩
    · rw [if_neg hw] at hm
      rw [hm]
      rcases ih with ⟨j, h1, h2, h3, h4⟩ | ⟨h1, h2⟩
      · refine .inl ⟨j, Nat.lt_succ_of_lt h1, h2, fun j' hj hw' => ?_, h4⟩
        rcases Nat.lt_succ_iff_lt_or_eq.1 hj with hj | rfl
        · exact h3 j' hj hw'
        · exact absurd hw' hw
      · refine .inr ⟨fun j hj hw' => ?_, h2⟩
        rcases Nat.lt_succ_iff_lt_or_eq.1 hj with hj | rfl
        · exact h1 j hj hw'
        · exact hw hw'

theorem Val.uniq {α : Type} {W L L' : Nat → Prop} {val : Nat → α} {init x y : α} (h : Val W L val init x) (h' : Val W L' val init y) (hL : ∀ j, W j → (L j ↔ L' j)) : x = y := by
  rcases h with ⟨j, h1, h2, h3, rfl⟩ | ⟨h1, rfl⟩
  · rcases h' with ⟨j', g1, g2, g3, rfl⟩ | ⟨g1, rfl⟩
    · have : j = j' := Nat.le_antisymm (g3 j ((hL j h2).1 h1) h2) (h3 j' ((hL j' g2).2 g1) g2)
      rw [this]
    · exact absurd h2 (g1 j ((hL j h2).1 h1))
  · rcases h' with ⟨j', g1, g2, g3, rfl⟩ | ⟨g1, rfl⟩
    · exact absurd g2 (h1 j' ((hL j' g2).2 g1))
    · rfl

theorem Val.step {α : Type} {W L : Nat → Prop} [DecidablePred W] {val : Nat → α} {init x : α} {i : Nat} {L' : Nat → Prop} (h : Val W L val init x) (hL' : ∀ j, L' j ↔ L j ∨ j = i) (ho : W i → ∀ j, L j → W j → j ≤ i) :
    Val W L' val init (if W i then val i else x) := by
  by_cases hw : W i
  · rw [if_pos hw]
    refine .inl ⟨i, (hL' i).2 (.inr rfl), hw, fun j hj hwj => ?_, rfl⟩
    rcases (hL' j).1 hj with hj | rfl
    · exact ho hw j hj hwj
    · exact Nat.le_refl _
  · rw [if_neg hw]
    rcases h with ⟨j, h1, h2, h3, rfl⟩ | ⟨h1, rfl⟩
    · refine .inl ⟨j, (hL' j).2 (.inl h1), h2, fun j' hj hwj => ?_, rfl⟩
      rcases (hL' j').1 hj with hj | rfl
      · exact h3 j' hj hwj
      · exact absurd hwj hw
    · refine .inr ⟨fun j hj hwj => ?_, rfl⟩
      rcases (hL' j).1 hj with hj | rfl
      · exact h1 j hj hwj
      · exact hw hwj

theorem apart_no {c c' : Cl} (h : apart c c') (s : Nat) : (c.wr s = true → c'.rd s = true → False) ∧ (c'.wr s = true → c.rd s = true → False) := by
  cases c <;> cases c' <;> simp_all [apart, Cl.wr, Cl.rd]
  all_goals first
    | (intro e; subst e; first | exact h | exact fun e => h e | exact fun e => h e.symm)
    | trivial

theorem chk_at : ∀ {ps : List (Nat × Nat)} {acc : List Cl}, chk ps acc → ∀ i j, (i, j) ∈ ps → apartO acc[i]? acc[j]?
  | [], _, _, i, j, hm => by cases hm
  | (i', j') :: ps, acc, h, i, j, hm => by
    rcases List.mem_cons.1 hm with e | hm
    · injection e with e1 e2; subst e1; subst e2; exact h.1
    · exact chk_at h.2 i j hm

end Go.V

namespace Go.V
open Go.RowKit

variable {P : Program} {C : Calc} {X : Ctx} {ρ : Rho} {σ : Env} {bx : Bxs} {a : Act} {w : World} {r : Option Nat} {n : Nat}

theorem before_size (ops : List Oper) (acc : Array Nat) : (ops.foldl (fun acc o => acc.push (o.after.foldl (fun s e => if Region.binds .any e then s ||| 2 ^ e.on ||| acc.getD e.on 0 else s) 0)) acc).size = acc.size + ops.length := by
  induction ops generalizing acc with
  | nil => rfl
  | cons o ops ih => rw [List.foldl_cons, ih]; simp; omega

/-- What one more operation adds to the table. -/
def befOf (acc : Array Nat) (o : Oper) : Nat := o.after.foldl (fun s e => if Region.binds .any e then s ||| 2 ^ e.on ||| acc.getD e.on 0 else s) 0

theorem before_get (ops : List Oper) (acc : Array Nat) (k : Nat) (hk : k < acc.size) : (ops.foldl (fun acc o => acc.push (befOf acc o)) acc)[k]? = acc[k]? := by
  induction ops generalizing acc with
  | nil => rfl
  | cons o ops ih =>
    rw [List.foldl_cons, ih _ (by simp; omega), Array.getElem?_push, if_neg (by omega)]

theorem before_snoc (ops : List Oper) (o : Oper) : (ops ++ [o]).foldl (fun acc o => acc.push (befOf acc o)) #[] = (ops.foldl (fun acc o => acc.push (befOf acc o)) #[]).push (befOf (ops.foldl (fun acc o => acc.push (befOf acc o)) #[]) o) := by
  rw [List.foldl_append]; rfl

theorem befOf_bit {acc : Array Nat} {L : Nat → Prop} {o : Oper} (hL : ∀ e ∈ o.after, Region.binds .any e = true → L e.on ∧ ∀ j, (acc.getD e.on 0).testBit j = true → L j) {j : Nat} (h : (befOf acc o).testBit j = true) : L j := by
  unfold befOf at h
  rw [← Array.foldl_toList] at h
  have key : ∀ (es : List Edge) (s : Nat), (∀ e ∈ es, Region.binds .any e = true → L e.on ∧ ∀ j, (acc.getD e.on 0).testBit j = true → L j) → (s.testBit j = true → L j) →
      (es.foldl (fun s e => if Region.binds .any e then s ||| 2 ^ e.on ||| acc.getD e.on 0 else s) s).testBit j = true → L j := by
    intro es
    induction es with
    | nil => exact fun s _ hs h => hs h
    | cons e es ih =>
      intro s he hs h
      rw [List.foldl_cons] at h
      refine ih _ (fun e' he' => he e' (List.mem_cons_of_mem _ he')) ?_ h
      intro h
      split at h
      · rename_i hb
        obtain ⟨g1, g2⟩ := he e (List.mem_cons_self ..) hb
        simp only [Nat.testBit_or, Nat.testBit_two_pow, Bool.or_eq_true, decide_eq_true_eq] at h
        rcases h with (h | h) | h
        · exact hs h
        · exact h ▸ g1
        · exact g2 j h
      · exact hs h
  exact key _ 0 (fun e he => hL e (by simpa using he)) (by simp) h

/-- Whoever comes before an operation of which all grounds are met is met too. -/
theorem before_closed {ops : List Oper} {L : Nat → Prop} (hL : ∀ (i : Nat) o, ops[i]? = some o → L i → ∀ e ∈ o.after, Region.binds .any e = true → L e.on ∧ e.on < i) :
    ∀ (i : Nat) o, ops[i]? = some o → (∀ e ∈ o.after, Region.binds .any e = true → L e.on ∧ e.on < i) → ∀ j, ((Region.before ops.toArray).getD i 0).testBit j = true → L j := by
  have hb : Region.before ops.toArray = ops.foldl (fun acc o => acc.push (befOf acc o)) #[] := by
    unfold Region.before
    rw [List.foldl_toArray]
    rfl
  rw [hb]
  intro i
  induction i using Nat.strongRecOn with
  | _ i ih =>
    intro o ho he j hj
    have hi := (List.getElem?_eq_some_iff.1 ho).1
    have hsplit : ops = ops.take i ++ [o] ++ ops.drop (i + 1) := by
      have := List.take_append_drop i ops
      rw [List.drop_eq_getElem_cons hi] at this
      have ho' : ops[i] = o := by rw [List.getElem?_eq_getElem hi] at ho; injection ho
      rw [ho'] at this
      simpa using this.symm
    have hacc : ∀ k, k < i → ((ops.take i).foldl (fun acc o => acc.push (befOf acc o)) #[]).getD k 0 = (ops.foldl (fun acc o => acc.push (befOf acc o)) #[]).getD k 0 := by
      intro k hk
      rw [Array.getD_eq_getD_getElem?, Array.getD_eq_getD_getElem?]
      congr 1
      conv => rhs; rw [← List.take_append_drop i ops, List.foldl_append]
      refine (before_get _ _ _ ?_).symm
      have := before_size (ops.take i) #[]
      unfold befOf
      rw [this]; simp; omega
    have hval : (ops.foldl (fun acc o => acc.push (befOf acc o)) #[]).getD i 0 = befOf ((ops.take i).foldl (fun acc o => acc.push (befOf acc o)) #[]) o := by
      have hsz : ((ops.take i).foldl (fun acc o => acc.push (befOf acc o)) #[]).size = i := by
        have := before_size (ops.take i) #[]
        unfold befOf
        rw [this]; simp; omega
      rw [Array.getD_eq_getD_getElem?]
      conv => lhs; rw [hsplit, List.foldl_append]
      rw [before_get _ _ _ (by rw [before_snoc]; simp [hsz]), before_snoc, Array.getElem?_push, if_pos hsz.symm]
      rfl
    rw [hval] at hj
    refine befOf_bit (fun e hem hb => ?_) hj
    obtain ⟨g1, g2⟩ := he e hem hb
    refine ⟨g1, fun j' hj' => ?_⟩
    rw [hacc _ g2] at hj'
    have hlt : e.on < ops.length := by omega
    exact ih e.on g2 ops[e.on] (List.getElem?_eq_getElem hlt) (hL e.on _ (List.getElem?_eq_getElem hlt) g1) j' hj'

end Go.V

namespace Go.V
open Go.RowKit

variable {P : Program} {C : Calc} {X : Ctx} {ρ : Rho} {σ : Env} {bx : Bxs} {a : Act} {w : World} {r : Option Nat} {n : Nat}

theorem commOk_spec {full : List Oper} {ps : List (Nat × Nat)} (h : commOk full ps = true) :
    (∀ (j : Nat) o, full[j]? = some o → ∀ e ∈ o.after, Region.binds .any e = true → e.on < j) ∧
    ∀ (i j : Nat) o o', full[j]? = some o → full[i]? = some o' → i ≠ j → ordered (Region.before full.toArray) i j = false →
      (∀ d, o'.dst = some d → d ∉ tmpsOf full o) ∧ (∀ d, o.dst = some d → d ∉ tmpsOf full o') ∧
      (wcls o.op = 2 → wcls o'.op ≠ 0 → (full.length - 1 - j, full.length - 1 - i) ∈ ps ∨ (full.length - 1 - i, full.length - 1 - j) ∈ ps) := by
  simp only [commOk, List.all_eq_true, Bool.and_eq_true] at h
  refine ⟨fun j o ho e he hbe => ?_, fun i j o o' ho ho' hij hord => ?_⟩
  · have := (h (o, j) (List.mem_zipIdx_iff_getElem?.2 ho)).1 e (by simpa using he)
    rw [hbe] at this
    simpa using this
  · have := (h (o, j) (List.mem_zipIdx_iff_getElem?.2 ho)).2 (o', i) (List.mem_zipIdx_iff_getElem?.2 ho')
    simp only [Bool.or_eq_true, beq_iff_eq, hij, hord, Bool.false_eq_true, false_or, Bool.and_eq_true, Bool.not_eq_true', List.contains_eq_mem, decide_eq_true_eq, Bool.and_eq_false_iff] at this
    obtain ⟨⟨h1, h2⟩, h3⟩ := this
    refine ⟨fun d hd => ?_, fun d hd => ?_, fun h4 h5 => ?_⟩
    · rw [hd] at h1; simpa using h1
    · rw [hd] at h2; simpa using h2
    · rcases h3 with (h3 | h3) | h3
      · simp [h4, h5] at h3
      · exact .inl h3
      · exact .inr h3

theorem filter_le {α : Type} {p q : α → Bool} : ∀ {l : List α}, (∀ x ∈ l, q x = true → p x = true) → (l.filter q).length ≤ (l.filter p).length
  | [], _ => Nat.le_refl _
  | z :: l, h1 => by
    have ih := filter_le (fun x hx => h1 x (List.mem_cons_of_mem _ hx))
    cases hq : q z with
    | true => simp [hq, h1 z (by simp) hq, ih]
    | false =>
      cases hp : p z with
      | true => simp [hq, hp]; omega
      | false => simp [hq, hp, ih]

theorem filter_lt {α : Type} {p q : α → Bool} : ∀ {l : List α}, (∀ x ∈ l, q x = true → p x = true) → (∃ x ∈ l, p x = true ∧ q x = false) → (l.filter q).length < (l.filter p).length
  | [], _, h => by obtain ⟨x, hx, _⟩ := h; cases hx
  | y :: l, h1, h2 => by
    have hle : (l.filter q).length ≤ (l.filter p).length := filter_le fun x hx => h1 x (List.mem_cons_of_mem _ hx)
    obtain ⟨x, hx, hp, hq⟩ := h2
    rcases List.mem_cons.1 hx with rfl | hx
    · simp only [List.filter_cons, hp, hq, if_true, Bool.false_eq_true, if_false, List.length_cons]; omega
    · have ih := filter_lt (fun x hx => h1 x (List.mem_cons_of_mem _ hx)) ⟨x, hx, hp, hq⟩
      cases hqy : q y with
      | true => simp [hqy, h1 y (by simp) hqy]; exact ih
      | false =>
        cases hpy : p y with
        | true => simp [hqy, hpy]; omega
        | false => simp [hqy, hpy]; exact ih

/-- A region's steps in their order, and why another order comes to the same. -/
structure Run (P : Program) (C : Calc) (full : List Oper) (cs : Nat → Cl) (vs : Nat → D) (σs : Nat → Env) (bs : Nat → Bxs) : Prop where
  at_ : ∀ (k : Nat) o, full[k]? = some o → σs (k + 1) = put (σs k) o.dst (vs k) ∧ EffG P C full o (σs k) (bs k) (cs k) (vs k) (bs (k + 1))
  back : ∀ (j : Nat) o, full[j]? = some o → ∀ e ∈ o.after, Region.binds .any e = true → e.on < j
  free : ∀ (i j : Nat) o o', full[j]? = some o → full[i]? = some o' → i ≠ j → ordered (Region.before full.toArray) i j = false →
      (∀ d, o'.dst = some d → d ∉ tmpsOf full o) ∧ (∀ s, (cs i).wr s = true → (cs j).rd s = true → False)

def Wt (full : List Oper) (t : Nat) (j : Nat) : Prop := ∃ o, full[j]? = some o ∧ o.dst = some t
def Ws (full : List Oper) (cs : Nat → Cl) (s : Nat) (j : Nat) : Prop := j < full.length ∧ (cs j).wr s = true

/-- What holds when the steps of L are done. -/
structure Inv (full : List Oper) (cs : Nat → Cl) (vs : Nat → D) (σs : Nat → Env) (bs : Nat → Bxs) (L : Nat → Prop) (σ : Env) (bx : Bxs) : Prop where
  closed : ∀ (i : Nat) o, full[i]? = some o → L i → ∀ e ∈ o.after, Region.binds .any e = true → L e.on
  lt : ∀ j, L j → j < full.length
  t : ∀ t, Val (Wt full t) L vs (σs 0 t) (σ t)
  s : ∀ s, Val (Ws full cs s) L (fun j => bs (j + 1) s) (bs 0 s) (bx s)

section
variable {full : List Oper} {cs : Nat → Cl} {vs : Nat → D} {σs : Nat → Env} {bs : Nat → Bxs} {L : Nat → Prop}

open Classical in
theorem Run.seq_t (hR : Run P C full cs vs σs bs) (t m : Nat) (hm : m ≤ full.length) : Val (Wt full t) (· < m) vs (σs 0 t) (σs m t) := by
  refine Val.seq (xs := fun k => σs k t) m fun k hk => ?_
  have hk' : k < full.length := by omega
  have ho := List.getElem?_eq_getElem hk'
  rw [(hR.at_ k _ ho).1]
  by_cases hw : Wt full t k
  · rw [if_pos hw]
    obtain ⟨o, ho', hd⟩ := hw
    rw [ho] at ho'; injection ho' with ho'; subst ho'
    simp [put, hd, upd]
  · rw [if_neg hw]
    cases hd : full[k].dst with
    | none => rfl
    | some d =>
      have : t ≠ d := fun e => hw ⟨_, ho, by rw [hd, e]⟩
      simp [put, upd, this]

open Classical in
theorem Run.seq_s (hR : Run P C full cs vs σs bs) (s m : Nat) (hm : m ≤ full.length) : Val (Ws full cs s) (· < m) (fun j => bs (j + 1) s) (bs 0 s) (bs m s) := by
  refine Val.seq (xs := fun k => bs k s) m fun k hk => ?_
  have hk' : k < full.length := by omega
  have ho := List.getElem?_eq_getElem hk'
  by_cases hw : Ws full cs s k
  · rw [if_pos hw]
  · rw [if_neg hw]
    refine (hR.at_ k _ ho).2.same s ?_
    cases h : (cs k).wr s with
    | false => rfl
    | true => exact absurd ⟨hk', h⟩ hw

/-- Whoever is ordered with a step that is ready is done just if it comes before. -/
theorem Run.cut (hR : Run P C full cs vs σs bs) (hL : ∀ (i : Nat) o, full[i]? = some o → L i → ∀ e ∈ o.after, Region.binds .any e = true → L e.on) {i : Nat} {o : Oper} (hi : full[i]? = some o) (hn : ¬ L i)
    (he : ∀ e ∈ o.after, Region.binds .any e = true → L e.on) {j : Nat} {o' : Oper} (hj : full[j]? = some o') (hor : j ≠ i → ordered (Region.before full.toArray) j i = true) : L j ↔ j < i := by
  have hL' : ∀ (i : Nat) o, full[i]? = some o → L i → ∀ e ∈ o.after, Region.binds .any e = true → L e.on ∧ e.on < i := fun i o h1 h2 e h3 h4 => ⟨hL i o h1 h2 e h3 h4, hR.back i o h1 e h3 h4⟩
  by_cases hji : j = i
  · subst hji; exact ⟨fun h => absurd h hn, fun h => absurd h (Nat.lt_irrefl _)⟩
  · have hor := hor hji
    unfold ordered at hor
    rcases Nat.lt_or_gt_of_ne hji with hlt | hgt
    · rw [Nat.max_eq_right (by omega), Nat.min_eq_left (by omega)] at hor
      exact ⟨fun _ => hlt, fun _ => before_closed hL' i o hi (fun e h1 h2 => ⟨he e h1 h2, hR.back i o hi e h1 h2⟩) j hor⟩
    · rw [Nat.max_eq_left (by omega), Nat.min_eq_right (by omega)] at hor
      exact ⟨fun h => absurd (before_closed hL' j o' hj (fun e h1 h2 => hL' j o' hj h e h1 h2) i hor) hn, fun h => by omega⟩

theorem Run.ord_t (hR : Run P C full cs vs σs bs) {i j : Nat} {o : Oper} (hi : full[i]? = some o) {t : Nat} (hj : Wt full t j) (ht : t ∈ tmpsOf full o) (hji : j ≠ i) : ordered (Region.before full.toArray) j i = true := by
  obtain ⟨o', ho', hd⟩ := hj
  cases h : ordered (Region.before full.toArray) j i with
  | true => rfl
  | false => exact absurd ht ((hR.free j i o o' hi ho' hji h).1 t hd)

theorem Run.ord_s (hR : Run P C full cs vs σs bs) {i j : Nat} {o : Oper} (hi : full[i]? = some o) {s : Nat} (hj : Ws full cs s j) (ht : (cs i).rd s = true) (hji : j ≠ i) : ordered (Region.before full.toArray) j i = true := by
  cases h : ordered (Region.before full.toArray) j i with
  | true => rfl
  | false => exact ((hR.free j i o _ hi (List.getElem?_eq_getElem hj.1) hji h).2 s hj.2 ht).elim

/-- A step that is ready finds what it finds in order. -/
theorem Run.finds (hR : Run P C full cs vs σs bs) (hI : Inv full cs vs σs bs L σ bx) {i : Nat} {o : Oper} (hi : full[i]? = some o) (hn : ¬ L i) (he : ∀ e ∈ o.after, Region.binds .any e = true → L e.on) :
    (∀ t ∈ o.looksAt full.toArray, σ t = σs i t) ∧ ∀ s, (cs i).rd s = true → bx s = bs i s := by
  have hlt := (List.getElem?_eq_some_iff.1 hi).1
  refine ⟨fun t ht => ?_, fun s hs => ?_⟩
  · refine (hI.t t).uniq (hR.seq_t t i (by omega)) fun j hj => ?_
    have hj' := hj
    obtain ⟨o', ho', _⟩ := hj'
    exact hR.cut hI.closed hi hn he ho' fun hji => hR.ord_t hi hj (List.mem_append_right _ ht) hji
  · refine (hI.s s).uniq (hR.seq_s s i (by omega)) fun j hj => ?_
    exact hR.cut hI.closed hi hn he (List.getElem?_eq_getElem hj.1) fun hji => hR.ord_s hi hj hs hji

open Classical in
theorem Run.goes (hR : Run P C full cs vs σs bs) (hI : Inv full cs vs σs bs L σ bx) {i : Nat} {o : Oper} (hi : full[i]? = some o) (hn : ¬ L i) (he : ∀ e ∈ o.after, Region.binds .any e = true → L e.on) {L' : Nat → Prop} (hL' : ∀ j, L' j ↔ L j ∨ j = i) :
    Inv full cs vs σs bs L' (put σ o.dst (vs i)) (mergeB (cs i) (bs (i + 1)) bx) := by
  have hlt := (List.getElem?_eq_some_iff.1 hi).1
  refine ⟨fun k o' hk hLk e hem hb => ?_, fun j hj => ?_, fun t => ?_, fun s => ?_⟩
  · rcases (hL' k).1 hLk with h | rfl
    · exact (hL' _).2 (.inl (hI.closed k o' hk h e hem hb))
    · rw [hi] at hk; injection hk with hk; subst hk
      exact (hL' _).2 (.inl (he e hem hb))
  · rcases (hL' j).1 hj with h | rfl
    · exact hI.lt j h
    · exact hlt
  · have := (hI.t t).step (i := i) hL' fun hw j hLj hwj => by
      have hwj' := hwj
      obtain ⟨o', ho', _⟩ := hwj'
      obtain ⟨o2, ho2, hd2⟩ := hw
      rw [hi] at ho2; injection ho2 with ho2; subst ho2
      exact Nat.le_of_lt ((hR.cut hI.closed hi hn he ho' fun hji => hR.ord_t hi hwj (List.mem_append_left _ (by simp [hd2])) hji).1 hLj)
    have e : put σ o.dst (vs i) t = if Wt full t i then vs i else σ t := by
      by_cases hw : Wt full t i
      · rw [if_pos hw]
        obtain ⟨o2, ho2, hd2⟩ := hw
        rw [hi] at ho2; injection ho2 with ho2; subst ho2
        simp [put, hd2, upd]
      · rw [if_neg hw]
        cases hd : o.dst with
        | none => rfl
        | some d =>
          have : t ≠ d := fun e => hw ⟨_, hi, by rw [hd, e]⟩
          simp [put, upd, this]
    rw [e]; exact this
  · have := (hI.s s).step (i := i) hL' fun hw j hLj hwj => by
      have hrd : (cs i).rd s = true := by
        have := hw.2
        revert this
        cases cs i <;> simp [Cl.wr, Cl.rd]
      exact Nat.le_of_lt ((hR.cut hI.closed hi hn he (List.getElem?_eq_getElem hwj.1) fun hji => hR.ord_s hi hwj hrd hji).1 hLj)
    have e : mergeB (cs i) (bs (i + 1)) bx s = if Ws full cs s i then bs (i + 1) s else bx s := by
      by_cases hw : Ws full cs s i
      · rw [if_pos hw]; simp [mergeB, hw.2]
      · rw [if_neg hw]
        cases h : (cs i).wr s with
        | true => exact absurd ⟨hlt, h⟩ hw
        | false => simp [mergeB, h]
    rw [e]; exact this

theorem Run.ends (hR : Run P C full cs vs σs bs) (hI : Inv full cs vs σs bs L σ bx) (hall : ∀ j, j < full.length → L j) : σ = σs full.length ∧ bx = bs full.length := by
  refine ⟨funext fun t => (hI.t t).uniq (hR.seq_t t _ (Nat.le_refl _)) fun j hj => ?_, funext fun s => (hI.s s).uniq (hR.seq_s s _ (Nat.le_refl _)) fun j hj => ?_⟩
  · obtain ⟨o, ho, _⟩ := hj
    have := (List.getElem?_eq_some_iff.1 ho).1
    exact ⟨fun _ => this, fun h => hall j h⟩
  · exact ⟨fun _ => hj.1, fun h => hall j h⟩
end

/-- **IN WHATEVER ORDER.** -/
theorem any_sound {ops : Array Oper} {cs : Nat → Cl} {vs : Nat → D} {σs : Nat → Env} {bs : Nat → Bxs} (hR : Run P C ops.toList cs vs σs bs) (hG : Good P C X) (hrd : ∀ l, r = some l → X.md = 1) (hdst : ∀ o ∈ ops.toList, ∀ t, o.dst = some t → t < X.N)
    {Q : Exit → Act → World → Prop} (hQ : ∀ a' w' ρ', Sim X ρ' (σs ops.toList.length) (bs ops.toList.length) a' w' → Q .normal a' w') : ∀ (fuel : Nat) (listed : Array Bool) (ρ : Rho) (σ : Env) (bx : Bxs) (a : Act) (w : World), listed.size = ops.size →
      ((List.range ops.size).filter fun j => !listed.getD j false).length ≤ fuel → Inv ops.toList cs vs σs bs (fun j => listed.getD j false = true) σ bx → Sim X ρ σ bx a w → wpAnyIn (Fw r) n P .any ops Q fuel listed a w := by
  have hdone : ∀ (listed : Array Bool) (ρ : Rho) (σ : Env) (bx : Bxs) (a : Act) (w : World), Region.ready .any ops listed = [] → Inv ops.toList cs vs σs bs (fun j => listed.getD j false = true) σ bx → listed.size = ops.size → Sim X ρ σ bx a w → Q .normal a w := by
    intro listed ρ σ bx a w hr hI hsz h
    have hall : ∀ j, j < ops.toList.length → listed.getD j false = true := by
      intro j
      induction j using Nat.strongRecOn with
      | _ j ih =>
        intro hj
        have hj' : j < ops.size := by simpa using hj
        cases hl : listed.getD j false with
        | true => rfl
        | false =>
          have ho : ops[j]? = some ops[j] := Array.getElem?_eq_getElem hj'
          have : j ∈ Region.ready .any ops listed := mem_ready.2 ⟨by
            have hjl : j < listed.size := by omega
            simp only [Array.getD, hjl, dif_pos] at hl ⊢
            exact hl, ops[j], ho, fun e he hb => by
              have hlt := hR.back j ops[j] (by rw [Array.getElem?_toList]; exact ho) e he hb
              exact ih e.on hlt (by omega)⟩
          rw [hr] at this; cases this
    obtain ⟨rfl, rfl⟩ := hR.ends hI hall
    exact hQ a w ρ h
  intro fuel
  induction fuel with
  | zero =>
    intro listed ρ σ bx a w hsz hf hI h
    have hnone : Region.ready .any ops listed = [] := by
      cases hr : Region.ready .any ops listed with
      | nil => rfl
      | cons i rs =>
        obtain ⟨h1, o, h2, _⟩ := mem_ready.1 (show i ∈ Region.ready .any ops listed by rw [hr]; simp)
        have hi : i < ops.size := (Array.getElem?_eq_some_iff.1 h2).1
        have : i ∈ (List.range ops.size).filter fun j => !listed.getD j false := by
          rw [List.mem_filter, List.mem_range]
          refine ⟨hi, ?_⟩
          have hil : i < listed.size := by omega
          simp only [Array.getD, hil, dif_pos] at h1 ⊢
          simpa using h1
        have := List.length_pos_of_mem this
        omega
    exact ⟨hnone, hdone listed ρ σ bx a w hnone hI hsz h⟩
  | succ fuel ih =>
    intro listed ρ σ bx a w hsz hf hI h
    refine ⟨fun hr => hdone listed ρ σ bx a w hr hI hsz h, fun i hi => ?_⟩
    obtain ⟨h1, o, h2, h3⟩ := mem_ready.1 hi
    have hio : ops.toList[i]? = some o := by rw [Array.getElem?_toList]; exact h2
    have hi' : i < ops.size := (Array.getElem?_eq_some_iff.1 h2).1
    have hil : i < listed.size := by omega
    have hn : ¬ listed.getD i false = true := by
      have e : listed.getD i true = listed.getD i false := by simp [Array.getD, hil]
      rw [← e, h1]; simp
    obtain ⟨f1, f2⟩ := hR.finds hI hio hn h3
    have hset : ∀ j, (listed.setIfInBounds i true).getD j false = true ↔ listed.getD j false = true ∨ j = i := by
      intro j
      by_cases hji : j = i
      · subst hji
        simp [Array.getD, hil]
      · rw [getD_set_ne false (Ne.symm hji)]
        simp [hji]
    unfold wpOpIn
    rw [h2]
    dsimp only
    refine gstep_sound h hG hrd (hdst o (by rw [Array.mem_toList_iff]; exact Array.mem_of_getElem? h2)) ((hR.at_ i o hio).2.run σ bx f1 f2 (fun c σ' bx' => (∀ x, c ≠ .pan x) ∧ σ' = put σ o.dst (vs i) ∧ bx' = mergeB (cs i) (bs (i + 1)) bx) ⟨(hR.at_ i o hio).2.np, rfl, rfl⟩) ?_ (fun d σ' bx' a' w' ρ' v hk _ _ => absurd rfl (hk.1 d))
    rintro c σ' bx' a' w' ρ' _ ⟨_, rfl, rfl⟩ h'
    refine ih _ ρ' _ _ a' w' (by simp [hsz]) ?_ (hR.goes hI hio hn h3 hset) h'
    have : ((List.range ops.size).filter fun j => !(listed.setIfInBounds i true).getD j false).length < ((List.range ops.size).filter fun j => !listed.getD j false).length := by
      refine filter_lt (fun j _ hj => ?_) ⟨i, List.mem_range.2 hi', by simpa using hn, ?_⟩
      · cases hl : listed.getD j false with
        | false => rfl
        | true =>
          have := (hset j).2 (.inl hl)
          rw [this] at hj; simp at hj
      · have := (hset i).2 (.inr rfl)
        rw [this]; rfl
    omega


/-! A region whose order is drawn, taken step by step. -/
theorem tmpOk_spec {full : List Oper} (h : tmpOk full = true) :
    (∀ (j : Nat) o, full[j]? = some o → o.guard = none ∧ ∀ e ∈ o.after, Region.binds .any e = true → e.on < j) ∧
    ∀ (i j : Nat) o o', full[j]? = some o → full[i]? = some o' → i ≠ j → ordered (Region.before full.toArray) i j = false →
      (∀ d, o'.dst = some d → d ∉ tmpsOf full o) ∧ (∀ d, o.dst = some d → d ∉ tmpsOf full o') := by
  simp only [tmpOk, List.all_eq_true, Bool.and_eq_true] at h
  refine ⟨fun j o ho => ⟨?_, fun e he hbe => ?_⟩, fun i j o o' ho ho' hij hord => ?_⟩
  · have := (h (o, j) (List.mem_zipIdx_iff_getElem?.2 ho)).1.1
    simpa using this
  · have := (h (o, j) (List.mem_zipIdx_iff_getElem?.2 ho)).1.2 e (by simpa using he)
    rw [hbe] at this
    simpa using this
  · have := (h (o, j) (List.mem_zipIdx_iff_getElem?.2 ho)).2 (o', i) (List.mem_zipIdx_iff_getElem?.2 ho')
    simp only [Bool.or_eq_true, beq_iff_eq, hij, hord, Bool.false_eq_true, false_or, Bool.and_eq_true] at this
    obtain ⟨h1, h2⟩ := this
    refine ⟨fun d hd => ?_, fun d hd => ?_⟩
    · rw [hd] at h1; simpa using h1
    · rw [hd] at h2; simpa using h2

theorem rdy_spec {full : List Oper} {L : Nat → Bool} {i : Nat} : rdy full L i = true ↔ L i = false ∧ ∃ o, full[i]? = some o ∧ ∀ e ∈ o.after, Region.binds .any e = true → L e.on = true := by
  unfold rdy
  cases hL : L i with
  | true => simp
  | false =>
    cases ho : full[i]? with
    | none => simp
    | some o =>
      simp only [Bool.not_false, Bool.true_and, List.all_eq_true, Bool.or_eq_true, Bool.not_eq_true', true_and, Option.some.injEq, exists_eq_left']
      constructor
      · intro h e he hb
        rcases h e (by simpa using he) with h | h
        · rw [hb] at h; cases h
        · exact h
      · intro h e he
        cases hb : Region.binds .any e with
        | false => exact .inl rfl
        | true => exact .inr (h e (by simpa using he) hb)

def Closed (full : List Oper) (L : Nat → Bool) : Prop := ∀ (i : Nat) o, full[i]? = some o → L i = true → ∀ e ∈ o.after, Region.binds .any e = true → L e.on = true

theorem addN_true {L : Nat → Bool} {i k : Nat} : addN L i k = true ↔ L k = true ∨ k = i := by
  simp [addN, Or.comm]
theorem addN_swap (L : Nat → Bool) (i j : Nat) : addN (addN L i) j = addN (addN L j) i := by
  funext k; simp only [addN]; cases k == i <;> cases k == j <;> rfl
theorem Closed.add {full : List Oper} {L : Nat → Bool} (h : Closed full L) {i : Nat} (hi : rdy full L i = true) : Closed full (addN L i) := by
  intro k o hk hL e he hb
  obtain ⟨_, o', ho', ha⟩ := rdy_spec.1 hi
  refine addN_true.2 (.inl ?_)
  rcases addN_true.1 hL with h1 | rfl
  · exact h k o hk h1 e he hb
  · rw [ho'] at hk; injection hk with hk; subst hk
    exact ha e he hb
theorem rdy_add {full : List Oper} {L : Nat → Bool} {i j : Nat} (hj : rdy full L j = true) (hij : j ≠ i) : rdy full (addN L i) j = true := by
  obtain ⟨h1, o, ho, h2⟩ := rdy_spec.1 hj
  refine rdy_spec.2 ⟨?_, o, ho, fun e he hb => addN_true.2 (.inl (h2 e he hb))⟩
  simp [addN, h1, hij]

theorem rdy_free {full : List Oper} (hT : tmpOk full = true) {L : Nat → Bool} (hL : Closed full L) {i j : Nat} (hi : rdy full L i = true) (hj : rdy full L j = true) (hij : i ≠ j) : ordered (Region.before full.toArray) i j = false := by
  obtain ⟨hb, _⟩ := tmpOk_spec hT
  have hL' : ∀ (i : Nat) o, full[i]? = some o → L i = true → ∀ e ∈ o.after, Region.binds .any e = true → L e.on = true ∧ e.on < i := fun i o h1 h2 e h3 h4 => ⟨hL i o h1 h2 e h3 h4, (hb i o h1).2 e h3 h4⟩
  obtain ⟨hi1, oi, hi2, hi3⟩ := rdy_spec.1 hi
  obtain ⟨hj1, oj, hj2, hj3⟩ := rdy_spec.1 hj
  cases h : ordered (Region.before full.toArray) i j with
  | false => rfl
  | true =>
    unfold ordered at h
    rcases Nat.lt_or_gt_of_ne hij with hlt | hgt
    · rw [Nat.max_eq_right (by omega), Nat.min_eq_left (by omega)] at h
      have := before_closed (L := fun k => L k = true) hL' j oj hj2 (fun e h1 h2 => ⟨hj3 e h1 h2, (hb j oj hj2).2 e h1 h2⟩) i h
      rw [hi1] at this; cases this
    · rw [Nat.max_eq_left (by omega), Nat.min_eq_right (by omega)] at h
      have := before_closed (L := fun k => L k = true) hL' i oi hi2 (fun e h1 h2 => ⟨hi3 e h1 h2, (hb i oi hi2).2 e h1 h2⟩) j h
      rw [hj1] at this; cases this

theorem lightOp_spec {o : Oper} (h : lightOp o = true) : (∀ T a, o.op ≠ .load T a) ∧ ∀ {σ : Env} {bx : Bxs} {K : Cl → Env → Bxs → Prop} {v : D}, valD P σ bx o.op = some v → K .n (put σ o.dst v) bx → stepD P C o σ bx K := by
  obtain ⟨dst, op, ty, pos, af, g⟩ := o
  cases op <;> first
    | (simp [lightOp] at h; done)
    | exact ⟨by simp, fun hv hK => by
        simp only [stepD, stepE]
        dsimp only at hv hK
        rw [hv]
        exact hK⟩

theorem loadOp_spec {o : Oper} (h : loadOp o = true) : ∃ T a, o.op = .load T a := by
  obtain ⟨dst, op, ty, pos, af, g⟩ := o
  cases op <;> first
    | (simp [loadOp] at h; done)
    | exact ⟨_, _, rfl⟩

theorem put_swap {σ : Env} {d d' : Option Tmp} {x y : D} (h : ∀ t, d = some t → d' ≠ some t) : put (put σ d x) d' y = put (put σ d' y) d x := by
  cases d with
  | none => rfl
  | some t =>
    cases d' with
    | none => rfl
    | some t' =>
      have hne : t ≠ t' := fun e => h t rfl (by rw [e])
      funext k
      simp only [put, upd]
      by_cases h1 : k = t <;> by_cases h2 : k = t' <;> simp [h1, h2]
      · exact absurd (h1.symm.trans h2) hne
      · intro e; exact absurd e hne
      · intro e; exact absurd e.symm hne

theorem alike_put {full : List Oper} {o : Oper} {d : Option Tmp} {x : D} (h : ∀ t, d = some t → t ∉ tmpsOf full o) : Alike σ (put σ d x) o.op ∧ Alike (put σ d x) σ o.op := by
  have key : ∀ t ∈ o.looksAt full.toArray, put σ d x t = σ t := by
    intro t ht
    cases d with
    | none => rfl
    | some t' =>
      have : t ≠ t' := fun e => h t' rfl (by rw [← e]; exact List.mem_append_right _ ht)
      simp [put, upd, this]
  exact ⟨alike_of_looks key, alike_of_looks fun t ht => (key t ht).symm⟩

theorem keepD_mem {base : Nat} {bx bx' : Bxs} : ∀ {l : List Nat}, keepD base bx bx' l → ∀ s ∈ l, bx' (base + s) = bx (base + s)
  | [], _, s, hs => by cases hs
  | s :: l, h, s', hs => by
    rcases List.mem_cons.1 hs with rfl | hs
    · exact h.1
    · exact keepD_mem h.2 s' hs

theorem okS_sub {full : List Oper} : ∀ (t : Sch) {L : Nat → Bool} {F F' : List (Nat × Nat)} {cov : List Nat}, (∀ p ∈ F', p ∈ F) → okS full L F cov t = true → okS full L F' cov t = true
  | .fin, _, _, _, _, _, h => h
  | .stop, _, _, _, _, _, h => h
  | .light i n, L, F, F', cov, hF, h => by
    simp only [okS, Bool.and_eq_true] at h ⊢
    exact ⟨h.1, okS_sub n hF h.2⟩
  | .load i s n, L, F, F', cov, hF, h => by
    simp only [okS, Bool.and_eq_true] at h ⊢
    refine ⟨h.1, okS_sub n (fun p hp => ?_) h.2⟩
    rcases List.mem_cons.1 hp with rfl | hp
    · exact List.mem_cons_self
    · exact List.mem_cons_of_mem _ (hF p hp)
  | .both i keep a r, L, F, F', cov, hF, h => by
    simp only [okS, Bool.and_eq_true, List.all_eq_true] at h ⊢
    exact ⟨⟨⟨h.1.1.1, fun p hp => h.1.1.2 p (hF p hp)⟩, okS_sub a hF h.1.2⟩, okS_sub r hF h.2⟩

/-- Whatever step is ready may come next. -/
theorem sch_any (hyl : C.yl = none) (hpn : C.pn = false) (hdf : C.df = false) {full : List Oper} (hT : tmpOk full = true) {Pn : D → Bxs → Prop} {Q : Env → Bxs → Prop} : ∀ (t : Sch) (L : Nat → Bool) (F : List (Nat × Nat)) (cov : List Nat) (σ : Env) (bx : Bxs), Closed full L →
    okS full L F cov t = true → schR P C full Pn Q t σ bx → ∀ (j : Nat) o, full[j]? = some o → rdy full L j = true → j ∉ cov →
    stepD P C o σ bx fun c σ' bx' => contC c (panQ Pn c bx') ((∀ p ∈ F, ordered (Region.before full.toArray) p.1 j = false → bx' (C.base + p.2) = bx (C.base + p.2)) ∧ ∃ t', okS full (addN L j) F [] t' = true ∧ schR P C full Pn Q t' σ' bx') := by
  intro t
  induction t with
  | fin =>
    intro L F cov σ bx hL hok hs j o hj hr hc
    simp only [okS, Bool.and_eq_true, List.all_eq_true, List.mem_range] at hok
    have := hok.2 j (List.getElem?_eq_some_iff.1 hj).1
    rw [hr] at this; cases this
  | stop =>
    intro L F cov σ bx hL hok hs j o hj hr hc
    simp only [okS, Bool.and_eq_true, List.all_eq_true, List.mem_range] at hok
    have := hok.2 j (List.getElem?_eq_some_iff.1 hj).1
    rw [hr] at this
    exact absurd (by simpa using this) hc
  | light i n ih =>
    intro L F cov σ bx hL hok hs j o hj hr hc
    simp only [okS, Bool.and_eq_true] at hok
    obtain ⟨⟨⟨hcov, hri⟩, hlo⟩, hokn⟩ := hok
    obtain ⟨_, oi, hi, _⟩ := rdy_spec.1 hri
    simp only [hi] at hlo
    obtain ⟨hnl, hst⟩ := lightOp_spec (P := P) (C := C) hlo
    simp only [schR, atOp, hi] at hs
    cases hv : valD P σ bx oi.op with
    | none => rw [hv] at hs; exact hs.elim
    | some v =>
      rw [hv] at hs
      simp only [bindD] at hs
      by_cases hji : j = i
      · subst hji
        rw [hi] at hj; injection hj with hj; subst hj
        exact hst hv ⟨fun _ _ _ => rfl, n, hokn, hs⟩
      · obtain ⟨h1, h2⟩ := (tmpOk_spec hT).2 i j o oi hj hi (Ne.symm hji) (rdy_free hT hL hri hr (Ne.symm hji))
        have hrec := ih (addN L i) F [] _ bx (hL.add hri) hokn hs j o hj (rdy_add hr hji) (by simp)
        obtain ⟨R, hR1, hR2⟩ := stepD_form hyl hpn hdf hrec
        refine hR2 σ (alike_put h1).2 _ fun c x bx' hx => contC_mono id (fun g => ⟨g.1, ?_⟩) (hR1 c x bx' hx)
        obtain ⟨t', ht', hs'⟩ := g.2
        refine ⟨.light i t', ?_, ?_⟩
        · simp only [okS, Bool.and_eq_true]
          refine ⟨⟨⟨rfl, rdy_add hri (Ne.symm hji)⟩, ?_⟩, ?_⟩
          · simp only [hi]; exact hlo
          · rw [addN_swap]; exact ht'
        · simp only [schR, atOp, hi]
          rw [valD_alike (σ := σ) (bx := bx) (alike_put h2).1 hnl, hv]
          simp only [bindD]
          rw [put_swap (fun t e e' => h2 t e (List.mem_append_left _ (by simp [e'])))]
          exact hs'
  | load i s n ih =>
    intro L F cov σ bx hL hok hs j o hj hr hc
    simp only [okS, Bool.and_eq_true] at hok
    obtain ⟨⟨⟨hcov, hri⟩, hlo⟩, hokn⟩ := hok
    obtain ⟨_, oi, hi, _⟩ := rdy_spec.1 hri
    simp only [hi] at hlo
    obtain ⟨T, a, hop⟩ := loadOp_spec hlo
    simp only [schR, atOp, hi, loadS, hop] at hs
    obtain ⟨hsl, hs⟩ := hs
    cases hv : loadD (tiOf P T) bx (ev σ a) with
    | none => rw [hv] at hs; exact hs.elim
    | some v =>
      rw [hv] at hs
      simp only [bindD] at hs
      by_cases hji : j = i
      · subst hji
        rw [hi] at hj; injection hj with hj; subst hj
        obtain ⟨dst, op, ty, pos, af, g⟩ := oi
        dsimp only at hop
        subst hop
        simp only [stepD, hv, bindD]
        have hnp := slotR_np (ev σ a)
        have : ∀ x y : Prop, y → contC (slotR (ev σ a)) x y := fun x y hy => by rw [contC_np hnp]; exact hy
        exact this _ _ ⟨fun _ _ _ => rfl, n, okS_sub n (fun p hp => List.mem_cons_of_mem _ hp) hokn, hs⟩
      · obtain ⟨h1, h2⟩ := (tmpOk_spec hT).2 i j o oi hj hi (Ne.symm hji) (rdy_free hT hL hri hr (Ne.symm hji))
        have hrec := ih (addN L i) ((i, s) :: F) [] _ bx (hL.add hri) hokn hs j o hj (rdy_add hr hji) (by simp)
        obtain ⟨R, hR1, hR2⟩ := stepD_form hyl hpn hdf hrec
        refine hR2 σ (alike_put h1).2 _ fun c x bx' hx => contC_mono id (fun g => ⟨fun p hp => g.1 p (List.mem_cons_of_mem _ hp), ?_⟩) (hR1 c x bx' hx)
        obtain ⟨t', ht', hs'⟩ := g.2
        have hkp : bx' (C.base + s) = bx (C.base + s) := g.1 (i, s) List.mem_cons_self (rdy_free hT hL hri hr (Ne.symm hji))
        refine ⟨.load i s t', ?_, ?_⟩
        · simp only [okS, Bool.and_eq_true]
          refine ⟨⟨⟨rfl, rdy_add hri (Ne.symm hji)⟩, ?_⟩, ?_⟩
          · simp only [hi]; exact hlo
          · rw [addN_swap]; exact ht'
        · simp only [schR, atOp, hi, loadS, hop]
          have hal := (alike_put (σ := σ) (x := x) h2).1 a (by rw [hop]; simp [Op.operands])
          rw [hal]
          refine ⟨hsl, ?_⟩
          rw [loadD_alike (bx := bx) fun s' hs2 => by
            rcases hsl with e | e <;> rw [e] at hs2
            · simp [Cl.rd] at hs2
            · have : s' = C.base + s := by simpa [Cl.rd] using hs2
              rw [this]; exact hkp, hv]
          simp only [bindD]
          rw [put_swap (fun t e e' => h2 t e (List.mem_append_left _ (by simp [e'])))]
          exact hs'
  | both i keep a r iha ihr =>
    intro L F cov σ bx hL hok hs j o hj hr hc
    simp only [okS, Bool.and_eq_true] at hok
    obtain ⟨⟨⟨hri, hkeep⟩, hoka⟩, hokr⟩ := hok
    simp only [schR] at hs
    by_cases hji : j = i
    · subst hji
      have h := hs.1
      simp only [hj, atOp] at h
      refine stepD_mono (fun c σ' bx' => contC_mono id fun g => ⟨fun p hp ho => ?_, a, hoka, g.2⟩) h
      have := (List.all_eq_true.1 hkeep) p hp
      rw [ho] at this
      exact keepD_mem g.1 p.2 (by simpa using this)
    · exact ihr L F (i :: cov) σ bx hL hokr hs.2 j o hj hr (by simp [hji, hc])


theorem sch_end {full : List Oper} {Pn : D → Bxs → Prop} {Q : Env → Bxs → Prop} {L : Nat → Bool} {F : List (Nat × Nat)} (hn : ∀ j, rdy full L j = false) : ∀ {t : Sch}, okS full L F [] t = true → schR P C full Pn Q t σ bx → Q σ bx
  | .fin, _, hs => hs
  | .stop, h, _ => by simp [okS] at h
  | .light i n, h, _ => by simp only [okS, hn i] at h; simp at h
  | .load i s n, h, _ => by simp only [okS, hn i] at h; simp at h
  | .both i k a r, h, _ => by simp only [okS, hn i] at h; simp at h

/-- **IN WHATEVER ORDER, WHATEVER COMES OF IT.** -/
theorem sch_sound {ops : Array Oper} (hyl : C.yl = none) (hpn : C.pn = false) (hdf : C.df = false) (hT : tmpOk ops.toList = true) (hG : Good P C X) (hrd : ∀ l, r = some l → X.md = 1) (hdst : ∀ o ∈ ops.toList, ∀ t, o.dst = some t → t < X.N)
    {Pn : D → Bxs → Prop} {Qd : Env → Bxs → Prop} {Q : Exit → Act → World → Prop} (hQ : ∀ σ bx a' w' ρ', Qd σ bx → Sim X ρ' σ bx a' w' → Q .normal a' w')
    (hP : ∀ d σ' bx' a' w' ρ' v, Pn d bx' → Sim X ρ' σ' bx' a' w' → Rep w' (Stab X ρ' bx' w') ρ' d v → Q (.panic [pe v]) a' w') : ∀ (fuel : Nat) (listed : Array Bool) (t : Sch) (ρ : Rho) (σ : Env) (bx : Bxs) (a : Act) (w : World), listed.size = ops.size →
      ((List.range ops.size).filter fun j => !listed.getD j false).length ≤ fuel → Closed ops.toList (fun j => listed.getD j false) → okS ops.toList (fun j => listed.getD j false) [] [] t = true → schR P C ops.toList Pn Qd t σ bx → Sim X ρ σ bx a w → wpAnyIn (Fw r) n P .any ops Q fuel listed a w := by
  have hrdy : ∀ (listed : Array Bool), listed.size = ops.size → ∀ j, rdy ops.toList (fun j => listed.getD j false) j = true ↔ j ∈ Region.ready .any ops listed := by
    intro listed hsz j
    rw [rdy_spec, mem_ready]
    constructor
    · rintro ⟨h1, o, h2, h3⟩
      have hj : j < ops.size := by
        have := (List.getElem?_eq_some_iff.1 h2).1
        simpa using this
      have hjl : j < listed.size := by omega
      refine ⟨?_, o, by rw [← Array.getElem?_toList]; exact h2, h3⟩
      simp only [Array.getD, hjl, dif_pos] at h1 ⊢
      exact h1
    · rintro ⟨h1, o, h2, h3⟩
      have hj : j < ops.size := (Array.getElem?_eq_some_iff.1 h2).1
      have hjl : j < listed.size := by omega
      refine ⟨?_, o, by rw [Array.getElem?_toList]; exact h2, h3⟩
      simp only [Array.getD, hjl, dif_pos] at h1 ⊢
      exact h1
  have hdone : ∀ (listed : Array Bool) (t : Sch) (ρ : Rho) (σ : Env) (bx : Bxs) (a : Act) (w : World), listed.size = ops.size → Region.ready .any ops listed = [] → okS ops.toList (fun j => listed.getD j false) [] [] t = true → schR P C ops.toList Pn Qd t σ bx → Sim X ρ σ bx a w → Q .normal a w := by
    intro listed t ρ σ bx a w hsz hr hok hs h
    refine hQ σ bx a w ρ (sch_end (fun j => ?_) hok hs) h
    cases hj : rdy ops.toList (fun j => listed.getD j false) j with
    | false => rfl
    | true =>
      have := (hrdy listed hsz j).1 hj
      rw [hr] at this; cases this
  intro fuel
  induction fuel with
  | zero =>
    intro listed t ρ σ bx a w hsz hf hcl hok hs h
    have hnone : Region.ready .any ops listed = [] := by
      cases hr : Region.ready .any ops listed with
      | nil => rfl
      | cons i rs =>
        obtain ⟨h1, o, h2, _⟩ := mem_ready.1 (show i ∈ Region.ready .any ops listed by rw [hr]; simp)
        have hi : i < ops.size := (Array.getElem?_eq_some_iff.1 h2).1
        have : i ∈ (List.range ops.size).filter fun j => !listed.getD j false := by
          rw [List.mem_filter, List.mem_range]
          refine ⟨hi, ?_⟩
          have hil : i < listed.size := by omega
          simp only [Array.getD, hil, dif_pos] at h1 ⊢
          simpa using h1
        have := List.length_pos_of_mem this
        omega
    exact ⟨hnone, hdone listed t ρ σ bx a w hsz hnone hok hs h⟩
  | succ fuel ih =>
    intro listed t ρ σ bx a w hsz hf hcl hok hs h
    refine ⟨fun hr => hdone listed t ρ σ bx a w hsz hr hok hs h, fun i hi => ?_⟩
    have hri := (hrdy listed hsz i).2 hi
    obtain ⟨h1, o, h2, h3⟩ := mem_ready.1 hi
    have hio : ops.toList[i]? = some o := by rw [Array.getElem?_toList]; exact h2
    have hi' : i < ops.size := (Array.getElem?_eq_some_iff.1 h2).1
    have hil : i < listed.size := by omega
    have hn : ¬ listed.getD i false = true := by
      have e : listed.getD i true = listed.getD i false := by simp [Array.getD, hil]
      rw [← e, h1]; simp
    have hset : ∀ j, (listed.setIfInBounds i true).getD j false = true ↔ listed.getD j false = true ∨ j = i := by
      intro j
      by_cases hji : j = i
      · subst hji
        simp [Array.getD, hil]
      · rw [getD_set_ne false (Ne.symm hji)]
        simp [hji]
    have hadd : (fun j => (listed.setIfInBounds i true).getD j false) = addN (fun j => listed.getD j false) i := by
      funext j
      refine Bool.eq_iff_iff.2 ?_
      rw [hset, addN_true]
    unfold wpOpIn
    rw [h2]
    dsimp only
    have hst := sch_any hyl hpn hdf hT t _ [] [] σ bx hcl hok hs i o hio hri (by simp)
    refine gstep_sound h hG hrd (hdst o (by rw [Array.mem_toList_iff]; exact Array.mem_of_getElem? h2)) (K := fun c σ' bx' => contC c (panQ Pn c bx') ((∀ p ∈ ([] : List (Nat × Nat)), ordered (Region.before ops.toList.toArray) p.1 i = false → bx' (C.base + p.2) = bx (C.base + p.2)) ∧ ∃ t', okS ops.toList (addN (fun j => listed.getD j false) i) [] [] t' = true ∧ schR P C ops.toList Pn Qd t' σ' bx')) (by
      unfold gstep
      rw [((tmpOk_spec hT).1 i o hio).1]
      exact hst) ?_ (fun d σ' bx' a' w' ρ' v hk h' hr => hP d σ' bx' a' w' ρ' v hk h' hr)
    intro c σ' bx' a' w' ρ' hc hk h'
    rw [contC_np hc] at hk
    obtain ⟨t', ht', hs'⟩ := hk.2
    refine ih _ t' ρ' σ' bx' a' w' (by simp [hsz]) ?_ (by rw [hadd]; exact hcl.add hri) (by rw [hadd]; exact ht') hs' h'
    have : ((List.range ops.size).filter fun j => !(listed.setIfInBounds i true).getD j false).length < ((List.range ops.size).filter fun j => !listed.getD j false).length := by
      refine filter_lt (fun j _ hj => ?_) ⟨i, List.mem_range.2 hi', by simpa using hn, ?_⟩
      · cases hl : listed.getD j false with
        | false => rfl
        | true =>
          have := (hset j).2 (.inl hl)
          rw [this] at hj; simp at hj
      · have := (hset i).2 (.inr rfl)
        rw [this]; rfl
    omega

end Go.V

namespace Go.V
open Go.RowKit

variable {P : Program} {C : Calc} {X : Ctx} {ρ : Rho} {σ : Env} {bx : Bxs} {a : Act} {w : World} {r : Option Nat} {n : Nat}

theorem run_of {ops : List Oper} {acc : List Cl} {id : Nat} {cs : Nat → Cl} {vs : Nat → D} {σs : Nat → Env} {bs : Nat → Bxs} {tab : List (Nat × List (Nat × Nat))} (hok : commOk ops (lookT tab id) = true) (hacc : acc = ((List.range ops.length).map cs).reverse) (hch : chk (lookT tab id) acc)
    (hat : ∀ (k : Nat) o, ops[k]? = some o → σs (k + 1) = put (σs k) o.dst (vs k) ∧ EffG P C ops o (σs k) (bs k) (cs k) (vs k) (bs (k + 1))) : Run P C ops cs vs σs bs := by
  obtain ⟨hback, hfree⟩ := commOk_spec hok
  refine ⟨hat, hback, fun i j o o' hj hi hij hord => ?_⟩
  obtain ⟨h1, h2, h3⟩ := hfree i j o o' hj hi hij hord
  have hord' : ordered (Region.before ops.toArray) j i = false := by rw [← hord]; simp [ordered, Nat.max_comm, Nat.min_comm]
  obtain ⟨_, _, h3'⟩ := hfree j i o' o hi hj (Ne.symm hij) hord'
  refine ⟨h1, fun s hw hr => ?_⟩
  have hjl := (List.getElem?_eq_some_iff.1 hj).1
  have hil := (List.getElem?_eq_some_iff.1 hi).1
  have hEi := (hat i o' hi).2
  have hEj := (hat j o hj).2
  have hwi : wcls o'.op = 2 := by
    rcases Nat.decEq (wcls o'.op) 2 with hne | he
    · have := hEi.le1 hne s; rw [hw] at this; cases this
    · exact he
  have hwj : wcls o.op ≠ 0 := fun h0 => by
    have := hEj.le0 h0
    rw [this] at hr; simp [Cl.rd] at hr
  have hget : ∀ k, k < ops.length → acc[ops.length - 1 - k]? = some (cs k) := by
    intro k hk
    rw [hacc, List.getElem?_reverse (by simp; omega)]
    simp only [List.length_map, List.length_range]
    have : ops.length - 1 - (ops.length - 1 - k) = k := by omega
    rw [this, List.getElem?_map, List.getElem?_range hk]
    rfl
  rcases h3' hwi hwj with hm | hm
  · have := chk_at hch _ _ hm
    rw [hget i hil, hget j hjl] at this
    exact (apart_no this s).1 hw hr
  · have := chk_at hch _ _ hm
    rw [hget i hil, hget j hjl] at this
    exact (apart_no this s).2 hw hr

theorem Good.det (h : Good P C X) : Good P C.det X :=
  ⟨⟨h.ok.to, fun _ _ _ _ _ _ hf => hf.elim, fun _ _ _ _ hf => hf.elim⟩, h.lo, h.base, (fun _ _ _ hf => by cases hf), (fun hf => by cases hf), fun _ _ _ _ _ h => h⟩

theorem Good.dra (h : Good P C X) : Good P ⟨C.o, C.tab, C.base, C.nxt, C.lo, none, false, false⟩ X :=
  ⟨h.ok, h.lo, h.base, (fun _ _ _ hf => by cases hf), (fun hf => by cases hf), h.it⟩

theorem putObj_fr (w : World) (l : Nat) (o : Obj) : Fr (fun k => k = l) w (w.putObj l o) :=
  ⟨rfl, rfl, rfl, by simp, fun k _ hk => World.putObj_heap_other hk⟩

/-- How the machine leaves, as the data level has it. -/
def XR (w : World) (S : Nat → Prop) (ρ : Rho) : DX → Exit → Prop
  | .normal, .normal => True
  | .ret, .ret => True
  | .exit i, .exit j => i = j
  | .goto i, .goto j => i = j
  | .pan d, .panic ch => ∃ v, ch = [pe v] ∧ Rep w S ρ d v
  | _, _ => False

theorem XR.cases {S : Nat → Prop} {e : DX} {e' : Exit} (h : XR w S ρ e e') : (e = .normal ∧ e' = .normal) ∨ (e = .ret ∧ e' = .ret) ∨ (∃ i, e = .exit i ∧ e' = .exit i) ∨ (∃ l, e = .goto l ∧ e' = .goto l) ∨ ∃ d v, e = .pan d ∧ e' = .panic [pe v] ∧ Rep w S ρ d v := by
  cases e with
  | normal => cases e' <;> first | exact h.elim | exact .inl ⟨rfl, rfl⟩
  | ret => cases e' <;> first | exact h.elim | exact .inr (.inl ⟨rfl, rfl⟩)
  | exit i => cases e' with
    | exit j => have : i = j := h; subst this; exact .inr (.inr (.inl ⟨i, rfl, rfl⟩))
    | _ => exact h.elim
  | goto i => cases e' with
    | goto j => have : i = j := h; subst this; exact .inr (.inr (.inr (.inl ⟨i, rfl, rfl⟩)))
    | _ => exact h.elim
  | pan d => cases e' with
    | panic ch => obtain ⟨v, rfl, hr⟩ := h; exact .inr (.inr (.inr (.inr ⟨d, v, rfl, rfl, hr⟩)))
    | _ => exact h.elim

/-- What is asked of the code of an activation or a round. -/
def Sound (P : Program) (c : Code) : Prop :=
  ∀ (r : Option Nat) (n : Nat) (C : Calc) (X : Ctx) (Qd : DX → Env → Bxs → Prop) (Q : Exit → Act → World → Prop) (ρ : Rho) (σ : Env) (bx : Bxs) (a : Act) (w : World), Good P C X → (∀ l, r = some l → X.md = 1 ∧ ∃ rc, X.r0.hold l = some (.loop rc) ∧ ¬ X.E l) →
    codeOk1 C.tab X.N c = true → Sim X ρ σ bx a w → cR P C c Qd σ bx → (∀ e e' σ' bx' a' w' ρ', XR w' (Stab X ρ' bx' w') ρ' e e' → Qd e σ' bx' → Sim X ρ' σ' bx' a' w' → Q e' a' w') → c.wpIn (Fw r) n P Q a w

theorem bindPs_rep {S : Nat → Prop} : ∀ (ps : List Tmp) (it : List D) (us : List Value) (σ : Env) (tm : Array Value), us.length = it.length → it.length = ps.length → (∀ t ∈ ps, t < tm.size) → (∀ (i : Nat) x v, it[i]? = some x → us[i]? = some v → Rep w S ρ x v) → (∀ t, Rep w S ρ (σ t) (tm.getD t undef)) →
    ((ps.zip us).foldl (fun tmps (x : Tmp × Value) => tmps.setIfInBounds x.1 x.2) tm).size = tm.size ∧ ∀ t, Rep w S ρ (bindPs σ ps it t) (((ps.zip us).foldl (fun tmps (x : Tmp × Value) => tmps.setIfInBounds x.1 x.2) tm).getD t undef)
  | [], it, us, σ, tm, _, h2, _, _, h => by
    cases it with
    | nil => exact ⟨rfl, h⟩
    | cons _ _ => simp at h2
  | p :: ps, it, us, σ, tm, h1, h2, hlt, hr, h => by
    cases it with
    | nil => simp at h2
    | cons d it =>
      cases us with
      | nil => simp at h1
      | cons u us =>
        have := bindPs_rep ps it us (upd σ p d) (tm.setIfInBounds p u) (by simpa using h1) (by simpa using h2) (fun t ht => by simpa using hlt t (List.mem_cons_of_mem _ ht)) (fun i x v hx hv => hr (i + 1) x v (by simpa using hx) (by simpa using hv)) (fun t => by
          by_cases e : t = p
          · subst e
            have hl := hlt t (List.mem_cons_self ..)
            have e2 : (tm.setIfInBounds t u).getD t undef = u := by simp [Array.getD, hl]
            rw [e2]; simp only [upd, if_true]
            exact hr 0 d u rfl rfl
          · have e2 : (tm.setIfInBounds p u).getD t undef = tm.getD t undef := by simp only [Array.getD_eq_getD_getElem?, Array.getElem?_setIfInBounds_ne (Ne.symm e)]
            rw [e2]; simp only [upd, e, if_false]
            exact h t)
        refine ⟨?_, this.2⟩
        have h1 := this.1
        simp only [List.zip_cons_cons, List.foldl_cons]
        rw [h1]; simp

/-- What is left behind by a round that jumps. -/
def JxOf (nxt : Nat) (Qd : DX → Env → Bxs → Prop) (σ : Env) : Code → Bxs → Prop
  | .ret, c => ∀ bx2, cutB nxt bx2 = c → Qd .ret σ bx2
  | .exit id, c => ∀ bx2, cutB nxt bx2 = c → Qd (.exit id) σ bx2
  | _, _ => False

/-- The rounds of a range over a function. -/
theorem rounds_sound {assign body : Code} (hA : Sound P assign) (hB : Sound P body) {ps : Array Tmp} {l ext : Nat} {rc : Loop} {items : List (List D)} {J : Nat → Bxs → Prop} {Qd : DX → Env → Bxs → Prop} (hG : Ok P C.o) (hlo : C.lo = 0) (hyl : C.yl = none)
    (hok : (∀ t ∈ ps.toList, t < X.N) ∧ codeOk1 C.tab X.N assign = true ∧ codeOk1 C.tab X.N body = true)
    (hrc : rc.state = .ready ∧ rc.pending = none ∧ rc.tmps = a.tmps ∧ rc.params = ps ∧ rc.assign = assign ∧ rc.body = body)
    (hr : ∀ n it bx1, items[n]? = some it → J n (cutB C.nxt bx1) → it.length = ps.size ∧
        cR P ⟨C.o, C.tab, C.base, C.nxt + ext, C.lo, C.yl, false, false⟩ assign (thenQ (cR P ⟨C.o, C.tab, C.base, C.nxt + ext, C.lo, C.yl, false, false⟩ body (roundQ C.nxt ext J n Qd σ bx1)) noQ) (bindPs σ ps.toList it) bx1) :
    RoundOk P X l rc C.nxt ext items J (JxOf C.nxt Qd σ) σ a := by
  obtain ⟨st, pe, fn, tm, pr, as, bd, df⟩ := rc
  obtain ⟨hst, hpe, htm, hps, has, hbd⟩ := hrc
  simp only at hst hpe htm hps has hbd
  subst hst; subst hpe; subst htm; subst hps; subst has; subst hbd
  intro n it ρ1 bx1 w1 us hi h hl hJ hul hus
  obtain ⟨hil, hcr⟩ := hr n it bx1 hi hJ
  have hlw := (h.hold l _ hl).1
  have hll : l < w1.heap.size := (Array.getElem?_eq_some_iff.1 hlw).1
  refine ⟨fn, _, as, bd, run_yield hlw (by rw [hul, hil]), fun m => roundIn_of_wpIn trivial ?_⟩
  -- the round's frame
  have hlen : (pr.zip us).toList = pr.toList.zip us.toList := by simp
  obtain ⟨hsz, hreps⟩ := bindPs_rep (w := w1) (ρ := ρ1) (S := Stab X ρ1 bx1 w1) pr.toList it us.toList σ a.tmps (by simpa using hul) (by simpa using hil) (fun t ht => by rw [h.size]; exact hok.1 t ht) (fun i x v hx hv => .pure (hus i x v hx (by simpa using hv))) h.tmps
  have e1 : (pr.zip us).foldl (fun tmps (x : Tmp × Value) => tmps.setIfInBounds x.1 x.2) a.tmps = (pr.toList.zip us.toList).foldl (fun tmps (x : Tmp × Value) => tmps.setIfInBounds x.1 x.2) a.tmps := by
    rw [← hlen, Array.foldl_toList]
  have hE : ∀ b, b = l → ∀ o, w1.heap[b]? = some o → Obj.isC o = false := by
    rintro b rfl o ho
    rw [hlw] at ho; injection ho with ho; subst ho; rfl
  have hc : Sim (X.sub ρ1 bx1 w1 (fun b => b = l) X.N 0 1) ρ1 (bindPs σ pr.toList it) bx1 { tmps := (pr.zip us).foldl (fun tmps (x : Tmp × Value) => tmps.setIfInBounds x.1 x.2) a.tmps, defers := [] } w1 :=
    h.sub h.nle hE (by rw [e1, hsz]; exact h.size) (.inl rfl) (Nat.zero_le _) (by rw [e1]; exact hreps)
  generalize hY : X.sub ρ1 bx1 w1 (fun b => b = l) X.N 0 1 = Y at hc
  have hYS : Y.S0 = X.S0 ∧ Y.n0 = X.n0 ∧ Y.w0 = w1 ∧ Y.r0 = ρ1 ∧ Y.N = X.N ∧ Y.lo = 0 ∧ (Y.E l ∧ ∀ b, Y.E b → b = l ∨ mapB ρ1 bx1 b) ∧ Y.md = 1 := by rw [← hY]; exact ⟨rfl, rfl, rfl, rfl, rfl, rfl, ⟨.inl rfl, fun _ h => h⟩, rfl⟩
  obtain ⟨yS, yn, yw, yr, yN, ylo, yE, ymd⟩ := hYS
  -- code run in a sub-activation of Y
  have run : ∀ (c : Code), Sound P c → codeOk1 C.tab X.N c = true → ∀ (Qc : DX → Env → Bxs → Prop) (Qm : Exit → Act → World → Prop) (ρa : Rho) (σa : Env) (bxa : Bxs) (aa : Act) (wa : World) (rca : Loop), ρa.hold l = some (.loop rca) → Sim Y ρa σa bxa aa wa →
      cR P ⟨C.o, C.tab, C.base, C.nxt + ext, C.lo, C.yl, false, false⟩ c Qc σa bxa → (∀ e e' σ' bx' a' w' ρ', XR w' (Stab Y ρ' bx' w') ρ' e e' → Qc e σ' bx' → Sim Y ρ' σ' bx' a' w' → ρ'.hold l = some (.loop rca) → Qm e' a' w') → c.wpIn (Fw (some l)) m P Qm aa wa := by
    intro c hS hcok Qc Qm ρa σa bxa aa wa rca hhold hsim hcr hq
    have hsub := hsim.sub (E := fun _ => False) (N := X.N) (ml := Y.ml) (md := 1) (σ' := σa) (a' := aa) h.nle (fun b hb => hb.elim) (by rw [hsim.size, yN]) (.inl rfl) (Nat.le_trans hsim.mkb hsim.fr.size) hsim.tmps
    refine hS (some l) m ⟨C.o, C.tab, C.base, C.nxt + ext, C.lo, C.yl, false, false⟩ (Y.sub ρa bxa wa (fun _ => False) X.N Y.ml 1) Qc Qm ρa σa bxa aa wa ⟨hG, Nat.zero_le _, Nat.zero_le _, (fun i g k hk => ?_), (fun hf => by cases hf), fun hf => by have : (1 : Nat) = 3 := hf; omega⟩ (fun l' hl' => ?_) hcok hsub hcr fun e e' σ' bx' a' w' ρ' h0 h1 h2 => hq e e' σ' bx' a' w' ρ' h0 h1 ?_ (h2.holds0 l _ hhold fun he => he.elim id (hsim.notMap hhold rfl))
    · rw [show (Calc.mk C.o C.tab C.base (C.nxt + ext) C.lo C.yl false false).yl = C.yl from rfl, hyl] at hk; cases hk
    · injection hl' with hl'; subst hl'; exact ⟨rfl, rca, hhold, fun he => he.elim id (hsim.notMap hhold rfl)⟩
    · have hb := hsim.back rfl rfl h2 (fun b hb => hb.elim) (fun b hb => hb.elim) (fun b hb => hb.elim) (hsim.y0 ylo _ _)
      exact hb.switch (by rw [h2.size, yN]; rfl) (.inl ymd) h2.tmps
  have setl : ∀ (ρa : Rho) (σa : Env) (bxa : Bxs) (aa : Act) (wa : World) (rca : Loop) (o' : Loop), ρa.hold l = some (.loop rca) → Sim Y ρa σa bxa aa wa → Sim Y ⟨ρa.at_, fun k => if k = l then some (.loop o') else ρa.hold k⟩ σa bxa aa (wa.putObj l (.loop o')) := fun ρa σa bxa aa wa rca o' hhold hsim =>
    hsim.setHold hhold (.inl yE.1) (.inr yE.1) (by simp) rfl rfl (putObj_fr wa l _) (World.putObj_heap_same (Array.getElem?_eq_some_iff.1 (hsim.hold l _ hhold).1).1) (hsim.y0 ylo _ _)
  refine run as hA hok.2.1 _ _ ρ1 _ bx1 _ w1 _ hl hc hcr fun e e' σa bxa aa wa ρa hx hq hsa hla => ?_
  rcases hx.cases with ⟨rfl, rfl⟩ | ⟨rfl, rfl⟩ | ⟨_, rfl, rfl⟩ | ⟨_, rfl, rfl⟩ | ⟨_, _, rfl, rfl, _⟩
  rotate_left
  · exact hq.elim
  · exact hq.elim
  · exact hq.elim
  · exact hq.elim
  · skip
    refine ⟨_, run_beginRound (hsa.hold l _ hla).1 rfl, ?_⟩
    have hsb := setl ρa σa bxa aa wa _ ⟨.busy, none, fn, a.tmps, pr, as, bd, df⟩ hla hsa
    refine run bd hB hok.2.2 _ _ _ σa bxa aa _ ⟨.busy, none, fn, a.tmps, pr, as, bd, df⟩ (by simp) hsb hq fun e e' σc bxc ac wc ρc hx2 hq2 hsc hlc => ?_
    have fin : ∀ (jump : Option Code), (jump = none → J (n + 1) (cutB C.nxt bxc)) → (∀ j, jump = some j → JxOf C.nxt Qd σ j (cutB C.nxt bxc)) → ∃ v w', (Instr.endRound l jump).run P wc = .ok v w' ∧ ∃ ρ2 bx2 b, Ending.returned v = .returned (.bool b) ∧ (∀ s, C.nxt ≤ s → s < C.nxt + ext → bx2 s = bx1 s) ∧
        (∀ (X1 : Ctx) (σ1 : Env) (a1 : Act), X1.S0 = X.S0 → X1.n0 = X.n0 → X1.E l → Sim X1 ρ1 σ1 bx1 a1 w1 → X1.Y (cutB X1.lo bx2) ρ2.hold → Sim X1 ρ2 σ1 bx2 a1 w') ∧ (∀ k o, k ≠ l → ρ1.hold k = some o → Obj.isM o = false → ρ2.hold k = some o) ∧
        ((b = true ∧ ρ2.hold l = some (.loop ⟨.ready, none, fn, a.tmps, pr, as, bd, df⟩) ∧ J (n + 1) (cutB C.nxt bx2)) ∨ (b = false ∧ ∃ jump, ρ2.hold l = some (.loop ⟨.done, some jump, fn, a.tmps, pr, as, bd, df⟩) ∧ JxOf C.nxt Qd σ jump (cutB C.nxt bx2))) := by
      intro jump hj1 hj2
      have hsd := setl ρc σc bxc ac wc _ ⟨if jump.isNone then .ready else .done, jump, fn, a.tmps, pr, as, bd, df⟩ hlc hsc
      refine ⟨_, _, run_endRound jump (hsc.hold l _ hlc).1, ⟨ρc.at_, fun k => if k = l then some (.loop ⟨if jump.isNone then .ready else .done, jump, fn, a.tmps, pr, as, bd, df⟩) else ρc.hold k⟩, bxc, jump.isNone, rfl, hq2.1, fun X1 σ1 a1 g1 g2 g3 g4 g5 => ?_, fun k o hk ho hno => ?_, ?_⟩
      · rw [← hY] at hsd
        exact g4.back g1 g2 hsd (fun b hb => by subst hb; exact .inl g3) (fun b hb => by subst hb; rw [hl]; simp) (fun b hb => by subst hb; exact .inr g3) g5
      · have := hsd.holds0 k o (by rw [yr]; exact ho) (fun he => (yE.2 k he).elim hk (h.notMap ho hno))
        exact this
      · cases jump with
        | none =>
          exact .inl ⟨rfl, by simp, hj1 rfl⟩
        | some j => exact .inr ⟨rfl, j, by simp, hj2 j rfl⟩
    rcases hx2.cases with ⟨rfl, rfl⟩ | ⟨rfl, rfl⟩ | ⟨id, rfl, rfl⟩ | ⟨_, rfl, rfl⟩ | ⟨_, _, rfl, rfl, _⟩
    · exact fin none (fun _ => hq2.2) (fun j hj => by cases hj)
    · exact fin (some .ret) (fun hj => by cases hj) (fun j hj => by injection hj with hj; subst hj; exact hq2.2)
    · exact fin (some (.exit id)) (fun hj => by cases hj) (fun j hj => by injection hj with hj; subst hj; exact hq2.2)
    · exact hq2.2.elim
    · exact hq2.2.elim

end Go.V

namespace Go.V
open Go.RowKit
set_option linter.unusedVariables false

variable {P : Program} {C : Calc} {X : Ctx} {ρ : Rho} {σ : Env} {bx : Bxs} {a : Act} {w : World} {r : Option Nat} {n : Nat}

theorem Mk.marked {S : Nat → Prop} {md ml : Nat} {d : D} {ds : List Deferred} {q : Nat} (h : Mk w S ρ md ml d ds) (h3' : md ≠ 3) (hh : md ≠ 1 → ρ.hold q = some (.deferred (some [])) ∧ ml ≤ q ∧ markOf q ∉ ds) : Mk w S ρ md ml d (markOf q :: ds) := by
  by_cases hmd : md = 1
  · exact .inl hmd
  · obtain ⟨h1, h2, h3⟩ := hh hmd
    exact .inr ⟨.mark h1 h2 h3 (h.resolve_left hmd).1, fun h => absurd h h3'⟩

/-- The statement is entered. -/
theorem enter_sound (h : Sim X ρ σ bx a w) (h3 : X.md ≠ 3) (hr : ∀ l, r = some l → X.md = 1 ∧ ∃ rc, X.r0.hold l = some (.loop rc) ∧ ¬ X.E l) (fn : FuncId) (ps : Array Tmp) (assign body : Code) :
    ∃ l mark df w1 ρ2, (Instr.enterLoop fn a.tmps ps assign body r).run P w = .ok (l, mark) w1 ∧ Sim X ρ2 σ bx { a with defers := mark ++ a.defers } w1 ∧ ρ2.at_ = ρ.at_ ∧ Below w.heap.size w w1 ∧
      ρ2.hold l = some (.loop ⟨.ready, none, fn, a.tmps, ps, assign, body, df⟩) ∧ X.w0.heap.size ≤ l := by
  cases r with
  | none =>
    have h1 := h.newHold (o := .deferred (some [])) rfl
    have h2 := h1.newHold (o := .loop ⟨.ready, none, fn, a.tmps, ps, assign, body, w.heap.size⟩) rfl
    refine ⟨_, _, w.heap.size, _, _, run_enterLoop_outer fn a.tmps ps assign body, h2.switch (a' := { a with defers := [markOf w.heap.size] ++ a.defers }) h2.size (h2.marks.marked h3 fun hmd => ⟨by simp, Nat.le_trans h.mkb h.fr.size, fun hmem => ?_⟩) h2.tmps, rfl, ((Below.refl w.heap.size w).alloc (Nat.le_refl _) _).alloc (by simp) _, by simp, ?_⟩
    · have hm := (h.marks.resolve_left hmd).1
      have := (Array.getElem?_eq_some_iff.1 (h.hold _ _ (hm.mem _ hmem)).1).1
      omega
    · have := h.fr.size; omega
  | some l0 =>
    obtain ⟨_, rc, h0, hE⟩ := hr l0 rfl
    have hl0 := (h.hold l0 _ (h.holds0 l0 _ h0 hE)).1
    have h2 := h.newHold (o := .loop ⟨.ready, none, fn, a.tmps, ps, assign, body, rc.defers⟩) rfl
    refine ⟨w.heap.size, [], rc.defers, _, _, ?_, h2, rfl, (Below.refl w.heap.size w).alloc (Nat.le_refl _) _, by simp, h.fr.size⟩
    unfold Instr.enterLoop
    simp only [Sem.run_bind, run_getLoop hl0, run_newObj_alloc, Result.andThen, Sem.run_pure]

theorem range_sound {g : Operand} {ps : Array Tmp} {assign body : Code} (hA : Sound P assign) (hB : Sound P body) : Sound P (.rangeFunc g ps assign body) := by
  intro r n C X Qd Q ρ σ bx a w hG hr hok h hc hQ
  obtain ⟨hlo, hyl, f, caps, items, ext, hg, hp, hit, J, hJ0, hround, hend⟩ := hc
  have xlo : X.lo = 0 := by have := hG.lo; omega
  simp only [codeOk1, Bool.and_eq_true, List.all_eq_true, decide_eq_true_eq] at hok
  have hgv := h.ev g
  rw [hg] at hgv
  obtain ⟨vs, hval, hvl, hv⟩ := hgv.inv_fn
  refine wpIn_rangeFunc fun fn _ => ?_
  obtain ⟨l, mark, df, w1, ρ2, he, h2, hat, hb, hl, hwl⟩ := enter_sound h (fun h3 => hG.it h3 _ _ _ _ hit) hr fn ps assign body
  have hI := hG.ok.it f caps items ext hit X ρ2 σ bx _ w1 l C.nxt ⟨.ready, none, fn, a.tmps, ps, assign, body, df⟩ vs J (JxOf C.nxt Qd σ) h2 xlo hl hwl (by
      cases h0 : X.r0.hold l with
      | none => rfl
      | some o => have := h.h0lt l o h0; omega) hvl (fun i x v hx hv' => ((hv i x v hx hv').toP (pureL_mem _ hp i x hx)).mono (fun b hb' => hb.block b hb'.1) (fun b hb' => ⟨Nat.lt_of_lt_of_le hb'.1 hb.size, hb'.2.1, by rw [hat]; exact hb'.2.2⟩)) hJ0
    (rounds_sound hA hB (a := { a with defers := mark ++ a.defers }) hG.ok hlo hyl ⟨hok.1.1, hok.1.2, hok.2⟩ ⟨rfl, rfl, rfl, rfl, rfl, rfl⟩ hround)
  obtain ⟨hcf, hcalls⟩ := hI
  refine ⟨l, mark, w1, { target := .fn (.func f) vs, args := #[.func (.yield l) #[] #[]] }, w1, f, _, w1, he, by
    simp only [resolve, rangeCall, List.map_toArray, List.map_cons, List.map_nil]
    rw [hval]
    rfl, fun _ _ => trivial, hcf, fun h => by simp [Fence.wide] at h, callsIn_fw (Calls.mono hcalls ?_)⟩
  rintro e w' ⟨v, ρ', bx', rfl, h', hJ⟩
  have hlw : ∀ rc, ρ'.hold l = some (.loop rc) → w'.heap[l]? = some (.loop rc) := fun rc hh => (h'.hold l _ hh).1
  have setl : ∀ rc o', ρ'.hold l = some (.loop rc) → Sim X ⟨ρ'.at_, fun k => if k = l then some (.loop o') else ρ'.hold k⟩ σ bx' { a with defers := mark ++ a.defers } (w'.putObj l (.loop o')) := fun rc o' hh =>
    h'.setHold hh (.inr hwl) (by
      cases h0 : X.r0.hold l with
      | none => exact .inl rfl
      | some o => have := h.h0lt l o h0; omega) (by simp) rfl rfl (putObj_fr w' l _) (World.putObj_heap_same (Array.getElem?_eq_some_iff.1 (hlw rc hh)).1) (h'.y0 xlo _ _)
  rcases hJ with ⟨hh, hJ⟩ | ⟨jump, hh, hJ⟩
  · exact ⟨none, _, run_endLoop (hlw _ hh) (by simp), hQ .normal .normal _ _ _ _ _ trivial (hend bx' hJ) (setl _ _ hh)⟩
  · refine ⟨some jump, _, run_endLoop (hlw _ hh) (by simp), ?_⟩
    cases jump with
    | ret => exact wpIn_ret (hQ .ret .ret _ _ _ _ _ trivial (hJ bx' rfl) (setl _ _ hh))
    | exit id => exact wpIn_exit (hQ (.exit id) (.exit id) _ _ _ _ _ rfl (hJ bx' rfl) (setl _ _ hh))
    | _ => exact hJ.elim

theorem wpIn_scope {F : Fence} {n : Nat} {Q : Exit → Act → World → Prop} {c : Code} (h : c.wpIn F n P (Exit.noGoto Q) a w) : (Code.scope c).wpIn F n P Q a w := by
  intro b k cs hro hb hr
  have hs : step P (lone (b.atR a (.code (.scope c) :: k)) cs w) = .next (lone (b.atR a (.code c :: .inScope c :: k)) cs w) := step_lone_go (by simp [stepG, stepG.exec, Frame.atR])
  have hs' : ∀ a w, step P (lone (b.atR a (.inScope c :: k)) cs w) = .next (lone (b.atR a k) cs w) := fun a w => step_lone_go (by simp [stepG, stepG.exec, Frame.atR])
  have h0 : (lone (b.atR a (.code (.scope c) :: k)) cs w).fenced P F := fenced_calm hb hr rfl
  obtain ⟨e, a₁, w₁, hq, harr⟩ := h b (.inScope c :: k) cs hro hb hr
  cases e with
  | normal => exact ⟨.normal, a₁, w₁, hq, .head h0 hs (StepsIn.trans harr (.one (fenced_calm hb hr rfl) (hs' _ _)))⟩
  | exit id =>
    have hx : exitTo id (.inScope c :: k) = exitTo id k := by simp [exitTo]
    exact ⟨_, a₁, w₁, hq, fun k' hk => .head h0 hs (harr.1 k' (by rw [hx]; exact hk)),
      fun hr' hk => let ⟨k₁, h1, h2⟩ := harr.2 hr' (by rw [hx]; exact hk); ⟨k₁, h1, .head h0 hs h2⟩⟩
  | goto l => exact hq.elim
  | ret => exact ⟨_, a₁, w₁, hq, .of_steps (.one h0 hs) harr⟩
  | panic ch => exact ⟨_, a₁, w₁, hq, .of_steps (.one h0 hs) harr⟩
  | outgrown => exact ⟨_, a₁, w₁, hq, .of_steps (.one h0 hs) harr⟩

theorem Rep.inv_abool {S : Nat → Prop} {v : Value} (h : Rep w S ρ .abool v) : ∃ b, v = .bool b := by
  cases h with
  | pure h => cases h with | abool b => exact ⟨b, rfl⟩

theorem outL_get : ∀ (ds ds' : List D), outL bx ds = some ds' → ds'.length = ds.length ∧ ∀ (i : Nat) d', ds'[i]? = some d' → ∃ d, ds[i]? = some d ∧ outD bx d = some d'
  | [], ds', h => by simp only [outL, Option.some.injEq] at h; subst h; simp
  | d :: ds, ds', h => by
    simp only [outL] at h
    obtain ⟨y, ys, h1, h2, rfl⟩ := consO_inv h
    obtain ⟨g1, g2⟩ := outL_get ds ys h2
    refine ⟨by simp [g1], fun i d' hd => ?_⟩
    cases i with
    | zero => simp at hd; subst hd; exact ⟨d, by simp, h1⟩
    | succ i => simpa using g2 i d' (by simpa using hd)

theorem outD_cells {d d' : D} (h : outD bx d = some d') : d'.cells.length = d.cells.length ∧ ∀ (j : Nat) c', d'.cells[j]? = some c' → ∃ c, d.cells[j]? = some c ∧ outD bx c = some c' := by
  have single : d.cells = [d] → d'.cells = [d'] → d'.cells.length = d.cells.length ∧ ∀ (j : Nat) c', d'.cells[j]? = some c' → ∃ c, d.cells[j]? = some c ∧ outD bx c = some c' := by
    intro h1 h2
    rw [h1, h2]
    refine ⟨rfl, fun j c' hj => ?_⟩
    cases j with
    | zero => simp at hj; subst hj; exact ⟨d, rfl, h⟩
    | succ j => simp at hj
  cases d with
  | agg ds =>
    simp only [outD, Option.map_eq_some_iff] at h
    obtain ⟨es, he, rfl⟩ := h
    exact outL_get ds es he
  | loc t e i j =>
    refine single rfl ?_
    simp only [outD] at h
    split at h
    · split at h
      · split at h <;> (injection h with h; subst h; rfl)
      · cases h
    · cases h
  | osl t e sz o n =>
    refine single rfl ?_
    simp only [outD] at h
    split at h
    · split at h
      · injection h with h; subst h; rfl
      · cases h
    · cases h
  | tup ds => simp only [outD, Option.map_eq_some_iff] at h; obtain ⟨es, he, rfl⟩ := h; exact single rfl rfl
  | fn f ds => simp only [outD, Option.map_eq_some_iff] at h; obtain ⟨es, he, rfl⟩ := h; exact single rfl rfl
  | bfn f ds => simp only [outD, Option.map_eq_some_iff] at h; obtain ⟨es, he, rfl⟩ := h; exact single rfl rfl
  | ifc t d => simp only [outD, Option.map_eq_some_iff] at h; obtain ⟨es, he, rfl⟩ := h; exact single rfl rfl
  | omap => cases h
  | _ => injection h with h; subst h; exact single rfl rfl

theorem names_cells (d : D) : ∀ (j : Nat) c, d.cells[j]? = some c → ∀ t ∈ names c, t ∈ names d := by
  have mem : ∀ (ds : List D) (j : Nat) c, ds[j]? = some c → ∀ t ∈ names c, t ∈ namesL ds := by
    intro ds
    induction ds with
    | nil => intro j c hj; simp at hj
    | cons x xs ih =>
      intro j c hj t ht
      simp only [namesL, List.mem_append]
      cases j with
      | zero => simp at hj; subst hj; exact .inl ht
      | succ j => exact .inr (ih j c (by simpa using hj) t ht)
  intro j c hj t ht
  cases d with
  | agg ds => exact mem ds j c hj t ht
  | _ =>
    cases j with
    | zero => simp [D.cells] at hj; subst hj; exact ht
    | succ j => simp [D.cells] at hj
theorem names_mem : ∀ (ds : List D) (j : Nat) c, ds[j]? = some c → ∀ t ∈ names c, t ∈ namesL ds
  | [], j, c, hj => by simp at hj
  | x :: xs, j, c, hj => by
    intro t ht
    simp only [namesL, List.mem_append]
    cases j with
    | zero => simp at hj; subst hj; exact .inl ht
    | succ j => exact .inr (names_mem xs j c (by simpa using hj) t ht)

theorem Sim.melted (h : Sim X ρ σ bx a w) (hlo : X.lo = 0) {s : Nat} {es : List D} (hk : (bx s).k = 1) (ho : outL bx (bx s).es = some es) : Sim X ρ σ (melt bx s es) a w := by
  have h1 := h.frozen hlo (bx s).es
  have hL := frzL_lends h (bx s).es
  have hne : ∀ t, t ≠ s → melt bx s es t = frzL bx (bx s).es t := fun t ht => by simp [melt, upd, ht]
  have hat : ∀ t, (melt bx s es t).k = (frzL bx (bx s).es t).k ∧ (melt bx s es t).ep = (frzL bx (bx s).es t).ep ∧ (melt bx s es t).sz = (frzL bx (bx s).es t).sz ∧ (melt bx s es t).ty = (frzL bx (bx s).es t).ty := fun t => by
    by_cases ht : t = s
    · subst ht; simp [melt, upd]
    · rw [hne t ht]; exact ⟨rfl, rfl, rfl, rfl⟩
  have hS : Stab X ρ (melt bx s es) w = Stab X ρ (frzL bx (bx s).es) w := by
    funext b
    simp only [Stab, (hat _).1, (hat _).2.1]
  have hfs : (frzL bx (bx s).es s).ep = (bx s).ep ∧ (frzL bx (bx s).es s).k ≠ 3 ∧ (frzL bx (bx s).es s).es = (bx s).es := by
    rw [frzL_at]
    split
    · simp [frz, hk]
    · simp [hk]
  obtain ⟨gl, gg⟩ := outL_get _ _ ho
  refine ⟨h1.fr, h1.s0, h1.nb, h1.mb, h1.ec, h1.size, by rw [hS]; exact h1.marks, h1.nle, h1.mkb, fun t => by rw [hS]; exact h1.tmps t, by rw [hS]; exact h1.glo, fun t ht => ?_, fun t t' p p' ht ht' hn hp hp' => ?_, fun t e p hp => by rw [(hat t).2.1]; exact h1.eps t e p hp, h1.r0, h1.hold, h1.holds0, h1.yc, h1.y0 hlo _ _, h1.y0, h1.h0lt, h1.maps.of (fun t ht => ?_) (fun _ _ _ h => h) (fun _ _ _ _ _ h => h) (fun _ h => h)⟩
  · rw [(hat t).1] at ht
    obtain ⟨p, hp, h2, h3, h4, h5⟩ := h1.box t ht
    refine ⟨p, by rw [(hat t).2.1]; exact hp, by rw [(hat t).2.2.1]; exact h2, by rw [(hat t).2.2.2]; exact h3, by rw [(hat t).1]; exact h4, ?_⟩
    rw [hS]
    by_cases hts : t = s
    · subst hts
      have e : (melt bx t es t).es = es := by simp [melt, upd]
      rw [e]
      obtain ⟨q, hq, _, _, _, hh⟩ := h.box t (by rw [hk]; decide)
      rw [hfs.1] at hp
      rw [hp] at hq; injection hq with hq; subst hq
      obtain ⟨⟨cur, hcur, hcs, us, hus⟩, hlc, hmx, hsz⟩ := hh
      refine ⟨⟨cur, hcur, hcs, us, fun i d' j c' hi hj => ?_⟩, by rw [gl]; exact hlc, hmx, fun i d' hi => ?_⟩
      · obtain ⟨d, hd, hod⟩ := gg i d' hi
        obtain ⟨c, hc, hoc⟩ := (outD_cells hod).2 j c' hj
        obtain ⟨u1, u2, u3⟩ := hus i d j c hd hc
        refine ⟨u1, .pure (outD_sound h c c' _ ⟨hL.1, fun t' ht' => hL.2 t' (names_mem _ _ _ hd t' (names_cells d j c hc t' ht'))⟩ u2 hoc), u3⟩
      · obtain ⟨d, hd, hod⟩ := gg i d' hi
        rw [(outD_cells hod).1]
        exact hsz i d hd
    · rw [hne t hts]; exact h5
  · rw [(hat t).1] at ht
    rw [(hat t').1] at ht'
    rw [(hat t).2.1] at hp
    rw [(hat t').2.1] at hp'
    exact h1.inj t t' p p' ht ht' hn hp hp'
  · have hts : t ≠ s := by
      rintro rfl
      rw [(hat t).1] at ht
      exact hfs.2.1 ht
    rw [hne t hts] at ht ⊢
    exact ⟨ht, rfl, rfl⟩

/-- **CODE.** -/
theorem code_sound (hm : P.follows .mixedOrders = true) : ∀ (c : Code), Sound P c
  | .skip => fun r n C X Qd Q ρ σ bx a w hG hr hok h hc hQ => wpIn_skip (hQ .normal .normal _ _ _ _ _ trivial hc h)
  | .label _ => fun r n C X Qd Q ρ σ bx a w hG hr hok h hc hQ => wpIn_label (hQ .normal .normal _ _ _ _ _ trivial hc h)
  | .exit id => fun r n C X Qd Q ρ σ bx a w hG hr hok h hc hQ => wpIn_exit (hQ (.exit id) (.exit id) _ _ _ _ _ rfl hc h)
  | .ret => fun r n C X Qd Q ρ σ bx a w hG hr hok h hc hQ => wpIn_ret (hQ .ret .ret _ _ _ _ _ trivial hc h)
  | .seq x y => fun r n C X Qd Q ρ σ bx a w hG hr hok h hc hQ => by
    simp only [codeOk1, Bool.and_eq_true] at hok
    refine wpIn_seq (code_sound hm x r n C X _ _ ρ σ bx a w hG hr hok.1 h hc fun e e' σ' bx' a' w' ρ' hx hq h' => ?_)
    rcases hx.cases with ⟨rfl, rfl⟩ | ⟨rfl, rfl⟩ | ⟨_, rfl, rfl⟩ | ⟨_, rfl, rfl⟩ | ⟨_, _, rfl, rfl, _⟩
    · exact code_sound hm y r n C X _ _ ρ' σ' bx' a' w' hG hr hok.2 h' hq hQ
    all_goals exact hQ _ _ _ _ _ _ _ hx hq h'
  | .cond c x y => fun r n C X Qd Q ρ σ bx a w hG hr hok h hc hQ => by
    simp only [codeOk1, Bool.and_eq_true] at hok
    have hcv := h.ev c
    simp only [cR] at hc
    cases hd : ev σ c with
    | bool t =>
      rw [hd] at hc hcv
      refine wpIn_cond hcv.inv_bool ?_
      cases t with
      | true => exact code_sound hm x r n C X _ _ ρ σ bx a w hG hr hok.1 h hc hQ
      | false => exact code_sound hm y r n C X _ _ ρ σ bx a w hG hr hok.2 h hc hQ
    | abool =>
      rw [hd] at hc hcv
      obtain ⟨b, hb⟩ := hcv.inv_abool
      refine wpIn_cond hb ?_
      cases b with
      | true => exact code_sound hm x r n C X _ _ ρ σ bx a w hG hr hok.1 h hc.1 hQ
      | false => exact code_sound hm y r n C X _ _ ρ σ bx a w hG hr hok.2 h hc.2 hQ
    | _ => rw [hd] at hc; exact hc.elim
  | .block id c => fun r n C X Qd Q ρ σ bx a w hG hr hok h hc hQ => by
    refine wpIn_block (code_sound hm c r n C X _ _ ρ σ bx a w hG hr hok h hc fun e e' σ' bx' a' w' ρ' hx hq h' => ?_)
    rcases hx.cases with ⟨rfl, rfl⟩ | ⟨rfl, rfl⟩ | ⟨id', rfl, rfl⟩ | ⟨_, rfl, rfl⟩ | ⟨_, _, rfl, rfl, _⟩
    rotate_left 2
    · simp only [blockQ] at hq
      simp only [Exit.inBlock]
      split at hq
      · rename_i he; rw [if_pos he]; exact hQ .normal .normal _ _ _ _ _ trivial hq h'
      · rename_i he; rw [if_neg he]; exact hQ _ _ _ _ _ _ _ hx hq h'
    all_goals exact hQ _ _ _ _ _ _ _ hx hq h'
  | .loop c => fun r n C X Qd Q ρ σ bx a w hG hr hok h hc hQ => by
    obtain ⟨I, μ, h0, hl⟩ := hc
    refine wpIn_loop_ghost (fun m a w => ∃ ρ σ bx, Sim X ρ σ bx a w ∧ I σ bx ∧ μ σ bx = m) (μ σ bx) ⟨ρ, σ, bx, h, h0, rfl⟩ ?_
    rintro m a w ⟨ρ, σ, bx, h, hI, rfl⟩
    obtain ⟨bx0, hmelt, hl0⟩ := hl σ bx hI
    have h0 : Sim X ρ σ bx0 a w := by
      rcases hmelt with rfl | ⟨hlo, s, es, hk, ho, rfl⟩
      · exact h
      · exact h.melted (by have := hG.lo; omega) hk ho
    refine code_sound hm c r n C X _ _ ρ σ bx0 a w hG hr hok h0 hl0 fun e e' σ' bx' a' w' ρ' hx hq h' => ?_
    rcases hx.cases with ⟨rfl, rfl⟩ | ⟨rfl, rfl⟩ | ⟨_, rfl, rfl⟩ | ⟨_, rfl, rfl⟩ | ⟨_, _, rfl, rfl, _⟩
    · exact ⟨_, hq.2, ρ', σ', bx', h', hq.1, rfl⟩
    all_goals exact hQ _ _ _ _ _ _ _ hx hq h'
  | .region id ops draw => fun r n C X Qd Q ρ σ bx a w hG hr hok h hc hQ => by
    simp only [codeOk1, Bool.and_eq_true, List.all_eq_true] at hok
    obtain ⟨hdst, hok⟩ := hok
    have hdst : ∀ o ∈ ops.toList, ∀ t, o.dst = some t → t < X.N := fun o ho t ht => by
      have := hdst o ho
      rw [ht] at this; simpa using this
    cases draw with
    | false =>
      simp only [cR, opsD] at hc
      refine wpIn_region ?_
      have := ops_sound (r := r) (n := n) (Q := Q) hG (fun l hl => (hr l hl).1) hdst (K := fun acc σ' bx' => regQ Qd acc σ' bx') (fun acc σ' bx' a' w' ρ' hacc hK h' => hQ .normal .normal _ _ _ _ _ trivial (by
        cases acc with
        | nil => exact hK
        | cons c l => cases c <;> first | exact hK | exact absurd rfl (hacc _ _)) h') (fun d acc σ' bx' a' w' ρ' v hK h' hr' => hQ (.pan d) (.panic [pe v]) _ _ _ _ _ ⟨v, rfl, hr'⟩ hK h') ops.toList [] [] ρ σ bx a w rfl (by intro d l; simp) h hc
      rw [List.range_eq_range']
      simpa using this
    | true =>
      simp only [cR, opsD] at hc
      refine wpIn_region_any hm ?_
      split at hc
      · obtain ⟨t, hot, hst⟩ := hc
        simp only [okT, Bool.and_eq_true] at hot
        refine sch_sound rfl rfl rfl hot.1 hG.dra (fun l hl => (hr l hl).1) hdst (fun σ bx a' w' ρ' hq h' => hQ .normal .normal _ _ _ _ _ trivial hq h') (fun d σ' bx' a' w' ρ' v hp h' hr' => hQ (.pan d) (.panic [pe v]) _ _ _ _ _ ⟨v, rfl, hr'⟩ (hp σ') h') _ _ t ρ σ bx a _ (by simp) ?_ ?_ ?_ hst (h.ext ⟨rfl, rfl, rfl, Nat.le_refl _, fun _ _ => rfl⟩)
        · exact Nat.le_trans (List.length_filter_le _ _) (by simp)
        · intro k o _ hL
          exfalso
          simp [Array.getD] at hL
        · have : (fun j => (Array.replicate ops.size false).getD j false) = fun _ => false := by
            funext j; simp [Array.getD]
          rw [this]; exact hot.2
      rename_i hnd
      simp only [Bool.not_true, Bool.false_or, Bool.or_eq_true, hnd, false_or] at hok
      obtain ⟨cs, vs, σs, bs, hs0, hb0, hat, hch, hQd⟩ := opsR_trace (C := C.det) (fun _ _ _ _ _ _ hf => hf) rfl rfl rfl _ _ _ _ hc
      have hR := run_of (C := C.det) (id := id) (tab := C.tab) (by simpa using hok) rfl (by simpa using hch) hat
      subst hs0; subst hb0
      refine any_sound hR hG.det (fun l hl => (hr l hl).1) hdst (fun a' w' ρ' h' => hQ .normal .normal _ _ _ _ _ trivial hQd h') _ _ ρ (σs 0) (bs 0) a _ (by simp) ?_ ⟨fun i o ho hL => ?_, fun j hj => ?_, fun t => .inr ⟨fun j hj => ?_, rfl⟩, fun s => .inr ⟨fun j hj => ?_, rfl⟩⟩ (h.ext ⟨rfl, rfl, rfl, Nat.le_refl _, fun _ _ => rfl⟩)
      · exact Nat.le_trans (List.length_filter_le _ _) (by simp)
      all_goals
        exfalso
        simp [Array.getD] at *
  | .rangeFunc g ps assign body => range_sound (code_sound hm assign) (code_sound hm body)
  | .scope c => fun r n C X Qd Q ρ σ bx a w hG hr hok h hc hQ => by
    refine wpIn_scope (code_sound hm c r n C X _ _ ρ σ bx a w hG hr hok h hc fun e e' σ' bx' a' w' ρ' hx hq h' => ?_)
    rcases hx.cases with ⟨rfl, rfl⟩ | ⟨rfl, rfl⟩ | ⟨_, rfl, rfl⟩ | ⟨_, rfl, rfl⟩ | ⟨_, _, rfl, rfl, _⟩
    rotate_left 3
    · exact hq.elim
    all_goals exact hQ _ _ _ _ _ _ _ hx hq h'
  | .goto _ => fun r n C X Qd Q ρ σ bx a w hG hr hok h hc hQ => hc.elim
  | .refuse _ => fun r n C X Qd Q ρ σ bx a w hG hr hok h hc hQ => hc.elim

end Go.V

namespace Go.V
open Go.RowKit

variable {P : Program} {C : Calc} {X : Ctx} {ρ : Rho} {σ : Env} {bx : Bxs} {a : Act} {w : World} {r : Option Nat} {n : Nat}

/-- One result, read. -/
def resRead (tmps : Array Value) : ResultVar → Sem Value
  | .tmp t => pure (tmps.getD t undef)
  | .cell a t => do loadVar t (← asAddr (tmps.getD a undef))

theorem res_sound (h : Sim X ρ σ bx a w) : ∀ (rv : List ResultVar) (rs : List D), resL P σ bx rv = some rs → ∃ vs : List Value, (rv.mapM (resRead a.tmps)).run P w = .ok vs w ∧ vs.length = rs.length ∧ ∀ (i : Nat) d v, rs[i]? = some d → vs[i]? = some v → Rep w (Stab X ρ bx w) ρ d v
  | [], rs, hr => by
    simp only [resL, Option.some.injEq] at hr
    subst hr
    exact ⟨[], by simp, rfl, fun i d v hd => by simp at hd⟩
  | x :: rv, rs, hr => by
    simp only [resL] at hr
    obtain ⟨y, ys, h1, h2, rfl⟩ := consO_inv hr
    obtain ⟨vs, g1, g2, g3⟩ := res_sound h rv ys h2
    have hx : ∃ v, (resRead a.tmps x).run P w = .ok v w ∧ Rep w (Stab X ρ bx w) ρ y v := by
      cases x with
      | tmp t =>
        simp only [resD, Option.some.injEq] at h1
        subst h1
        exact ⟨_, by simp only [resRead, Sem.run_pure], h.tmps t⟩
      | cell t T =>
        simp only [resD] at h1
        obtain ⟨ad, v, k1, k2, k3⟩ := loadV_sound h (h.tmps t) h1
        exact ⟨v, by simp only [resRead, k1, asAddr, Sem.run_bind, Sem.run_pure, Result.andThen_ok, k2], k3⟩
    obtain ⟨v, k1, k2⟩ := hx
    refine ⟨v :: vs, by simp only [List.mapM_cons, Sem.run_bind, k1, Result.andThen_ok, g1, Sem.run_pure], by simp [g2], fun i d u hd hu => ?_⟩
    cases i with
    | zero => simp only [List.getElem?_cons_zero, Option.some.injEq] at hd hu; subst hd; subst hu; exact k2
    | succ i => exact g3 i d u (by simpa using hd) (by simpa using hu)

theorem results_sound (h : Sim X ρ σ bx a w) {fn : Func} {rs : List D} (hr : resL P σ bx fn.results.toList = some rs) : ∃ v, (results fn a.tmps).run P w = .ok v w ∧ Rep w (Stab X ρ bx w) ρ (tupD rs) v := by
  obtain ⟨vs, g1, g2, g3⟩ := res_sound h _ _ hr
  have hrun : (results fn a.tmps).run P w = .ok (if h : vs.toArray.size = 1 then vs.toArray[0] else .tuple vs.toArray) w := by
    have e : results fn a.tmps = (fn.results.mapM (resRead a.tmps) >>= fun vs => pure (if h : vs.size = 1 then vs[0] else .tuple vs)) := by
      unfold results
      congr 1
    rw [e, Sem.run_bind, Array.mapM_eq_mapM_toList, Sem.run_map, g1, Result.andThen_ok, Result.andThen_ok, Sem.run_pure]
  refine ⟨_, hrun, ?_⟩
  match rs, vs, g2, g3 with
  | [], [], _, _ => simp only [tupD]; exact .tup rfl (fun i d v hd => by simp at hd)
  | [d], [v], _, g3 => exact g3 0 d v rfl rfl
  | d1 :: d2 :: ds, v1 :: v2 :: vs, g2, g3 =>
    simp only [tupD]
    rw [dif_neg (by simp)]
    exact .tup (by simpa using g2) (fun i d v hd hv => g3 i d v hd (by simpa using hv))

theorem argsF_at : ∀ (ds : List D) (k t : Nat), argsF k ds t = if t < k then .raw undef else (ds[t - k]?).getD (.raw undef)
  | [], k, t => by simp [argsF]
  | d :: ds, k, t => by
    simp only [argsF, upd]
    by_cases h : t = k
    · subst h; simp
    · rw [if_neg h, argsF_at ds (k + 1) t]
      by_cases h2 : t < k
      · rw [if_pos (by omega), if_pos h2]
      · rw [if_neg (by omega), if_neg h2]
        have : t - k = (t - (k + 1)) + 1 := by omega
        rw [this]; simp

/-- The marks alone. -/
theorem Sim.mark0 (h : Sim X ρ σ bx a w) (hmd : X.md = 0) {d : Deferred} {ds : List Deferred} (hd : a.defers = d :: ds) : ∃ r, d = markOf r ∧ ρ.hold r = some (.deferred (some [])) := by
  have hm := (h.marks.resolve_left (by omega)).1
  rw [if_pos hmd, hd] at hm
  generalize hl : ([] : List D) = l at hm
  generalize hx : d :: ds = dd at hm
  cases hm with
  | nil => cases hx
  | mark h1 => injection hx with e1 e2; exact ⟨_, e1, h1⟩
  | call => cases hl

/-- A function is left: its marks are taken, its results read. -/
theorem leave_sound {fn : Func} {rs : List D} (hlo : X.lo = 0) (hml : X.ml = X.w0.heap.size) (hmd : X.md = 0) {R : Ending → World → Prop} : ∀ (ds : List Deferred) (a : Act) (ρ : Rho) (w : World), a.defers = ds → Sim X ρ σ bx a w → resL P σ bx fn.results.toList = some rs →
    (∀ ρ' w' v, Sim X ρ' σ bx { a with defers := [] } w' → (∀ b o, ρ.hold b = some o → o ≠ .deferred (some []) → ρ'.hold b = some o) → Rep w' (Stab X ρ' bx w') ρ' (tupD rs) v → R (.returned v) w') → LeavesInM Fence.wide n P fn a.tmps R ds .returning w
  | [], a, ρ, w, hd, h, hr, hR => by
    obtain ⟨v, g1, g2⟩ := results_sound h hr
    exact ⟨v, g1, hR ρ w v (h.switch h.size (.nil (.inl hmd)) h.tmps) (fun _ _ h _ => h) g2⟩
  | d :: ds, a, ρ, w, hd, h, hr, hR => by
    obtain ⟨r, rfl, hh⟩ := h.mark0 hmd hd
    have hw := (h.hold r _ hh).1
    obtain ⟨ρ', h', hk⟩ := h.take hd hml (by omega) (putObj_fr w r (.deferred none)) (World.putObj_heap_same (Array.getElem?_eq_some_iff.1 hw).1) hlo
    refine ⟨by simp, .inl ⟨r, _, rfl, run_takeDeferred hw, ?_⟩⟩
    exact leave_sound hlo hml hmd ds { a with defers := ds } ρ' _ rfl h' hr fun ρ2 w2 v g1 g2 g3 => hR ρ2 w2 v g1 (fun b o ho hno => g2 b o (hk b o ho hno) hno) g3

/-- A function is left by a panic: its marks are taken. -/
theorem leave_pan {fn : Func} (hlo : X.lo = 0) (hml : X.ml = X.w0.heap.size) (hmd : X.md = 0) {chain : List PanicEntry} {d0 : D} {v0 : Value} {R : Ending → World → Prop} : ∀ (ds : List Deferred) (a : Act) (ρ : Rho) (w : World), a.defers = ds → Sim X ρ σ bx a w → Rep w (Stab X ρ bx w) ρ d0 v0 →
    (∀ ρ' w', Sim X ρ' σ bx { a with defers := [] } w' → Rep w' (Stab X ρ' bx w') ρ' d0 v0 → R (.panicked chain) w') → LeavesInM Fence.wide n P fn a.tmps R ds (.panicking chain) w
  | [], a, ρ, w, hd, h, hr, hR => hR ρ w (h.switch h.size (.nil (.inl hmd)) h.tmps) hr
  | d :: ds, a, ρ, w, hd, h, hr, hR => by
    obtain ⟨r, rfl, hh⟩ := h.mark0 hmd hd
    have hw := (h.hold r _ hh).1
    obtain ⟨ρ', h', hk, hre⟩ := h.take2 hd hml (by omega) (putObj_fr w r (.deferred none)) (World.putObj_heap_same (Array.getElem?_eq_some_iff.1 hw).1) hlo
    refine ⟨by simp, .inl ⟨r, _, rfl, run_takeDeferred hw, ?_⟩⟩
    exact leave_pan hlo hml hmd ds { a with defers := ds } ρ' _ rfl h' (hre _ _ hr) fun ρ2 w2 g1 g3 => hR ρ2 w2 g1 g3

theorem args_frame {S : Nat → Prop} {ds : List D} {vs : Array Value} {N : Nat} (hl : vs.size = ds.length) (hlen : ds.length ≤ N) (hv : ∀ (i : Nat) x v, ds[i]? = some x → vs[i]? = some v → Rep w S ρ x v) :
    (vs ++ Array.replicate (N - vs.size) undef).size = N ∧ ∀ t, Rep w S ρ (argsF 0 ds t) ((vs ++ Array.replicate (N - vs.size) undef).getD t undef) := by
  refine ⟨by simp; omega, fun t => ?_⟩
  rw [argsF_at]
  simp only [Nat.not_lt_zero, if_false, Nat.sub_zero]
  by_cases ht : t < ds.length
  · have hd : ds[t]? = some ds[t] := List.getElem?_eq_getElem ht
    have htv : t < vs.size := by omega
    have hva : vs[t]? = some vs[t] := Array.getElem?_eq_getElem htv
    have : (vs ++ Array.replicate (N - vs.size) undef).getD t undef = vs[t] := by
      rw [Array.getD_eq_getD_getElem?, Array.getElem?_append_left htv, hva]; rfl
    rw [this, hd]
    exact hv t _ _ hd hva
  · have hd : ds[t]? = none := List.getElem?_eq_none (by omega)
    have : (vs ++ Array.replicate (N - vs.size) undef).getD t undef = undef := by
      rw [Array.getD_eq_getD_getElem?, Array.getElem?_append_right (by omega), Array.getElem?_replicate]
      split <;> rfl
    rw [this, hd]
    exact .pure (.raw _)

/-- **A FUNCTION KEEPS THE CONTRACT THAT ITS TEXT, ON DATA, COMES TO.** -/
theorem fn_sound (hm : P.follows .mixedOrders = true) {f : FuncId} {fn : Func} {O : Orac} {tab : List (Nat × List (Nat × Nat))} {ds : List D} {d : D} (hf : P.funcs[f]? = some fn)
    (hname : (fn.name == "runtime.NumGoroutine") = false) (hlen : ds.length ≤ fn.ntmps) (hO : Ok P O) (h : fnD P O tab fn ds d) : CallsTo P f ds d := by
  obtain ⟨c, hb, hok, hc⟩ := h
  obtain ⟨hN, hok⟩ : fn.ntmps ≤ dfS ∧ codeOk1 tab fn.ntmps c = true := by simpa [codeOk, dfS] using hok
  intro w S vs hS hglo hl hv
  refine .inl ⟨Go.MuLone.run_callFunc_enter hf hname hb vs w, callsIn_wide.1 (callsIn_of_wp_marks (F := Fence.wide) (n := 0) hf hb trivial ?_)⟩
  obtain ⟨k1, k2⟩ := args_frame (w := w) (ρ := ⟨fun _ _ => none, fun _ => none⟩) (S := fun b => S b) (N := fn.ntmps) hl hlen (fun i x v hx hv' => .pure (hv i x v hx hv'))
  have h0 : Sim ⟨w, S, w.heap.size, fun _ => False, fun _ => False, fn.ntmps, ⟨fun _ _ => none, fun _ => none⟩, w.heap.size, 0, fun _ _ => True, 0⟩ ⟨fun _ _ => none, fun _ => none⟩ (argsF 0 ds) (fun _ => .none) { tmps := vs ++ Array.replicate (fn.ntmps - vs.size) undef, defers := [] } w :=
    ⟨.refl _ _, hS, Nat.le_refl _, fun _ h => h.elim, fun _ h => h.elim, k1, .nil (.inl rfl), hN, Nat.le_refl _, fun t => (k2 t).mono (fun _ _ => rfl) (fun b hb => ⟨hS b hb, .inl hb, fun t ht => by simp [Bx.none] at ht⟩) (fun _ _ _ h => h), .pure (hglo.mono (fun _ _ => rfl) (fun b hb => ⟨hS b hb, .inl hb, fun t ht => by simp [Bx.none] at ht⟩)), fun t ht => absurd rfl ht.1, fun t t' p p' ht => by simp [Bx.none] at ht, (fun t e p hp => by cases hp), (fun t e p hp => by cases hp), (fun t e hp => by cases hp), (fun t e hp => by cases hp), fun _ _ _ _ _ => trivial, trivial, fun _ _ _ => trivial, (fun t e hp => by cases hp), ⟨fun t ht => by simp [Bx.none] at ht, fun t t' p p' ht => by simp [Bx.none] at ht⟩⟩
  refine code_sound hm c none 0 ⟨O, tab, 0, fn.ntmps, 0, none, false, false⟩ _ _ _ _ _ _ _ w ⟨hO, Nat.le_refl _, Nat.le_refl _, (fun _ _ _ hk => by cases hk), (fun hf => by cases hf), fun hf => by have : (0 : Nat) = 3 := hf; omega⟩ (fun l hl => by cases hl) hok h0 hc fun e e' σ' bx' a' w' ρ' hx hq h' => ?_
  have fin : (bindD (resL P σ' bx' fn.results.toList) fun rs => bindD (outD bx' (tupD rs)) fun r => Weak r d) → LeavesInM Fence.wide 0 P fn a'.tmps (fun e w' => ∃ v, e = .returned v ∧ Post w S d v w') a'.defers .returning w' := by
    intro hq
    cases hr : resL P σ' bx' fn.results.toList with
    | none => rw [hr] at hq; exact hq.elim
    | some rs =>
      rw [hr] at hq
      simp only [bindD] at hq
      cases ho : outD bx' (tupD rs) with
      | none => rw [ho] at hq; exact hq.elim
      | some x =>
        rw [ho] at hq
        refine leave_sound rfl rfl rfl a'.defers a' ρ' w' rfl h' hr fun ρ2 w2 v g1 _ g3 => ⟨v, rfl, ?_, ?_⟩
        · refine Rep.weak hq (outD_sound g1 _ _ v ⟨fun b hb => ?_, fun t _ hk p hp => ?_⟩ g3 ho)
          · rcases hb.2.1 with h1 | h1
            · exact .inl h1
            · exact .inr ⟨h1, hb.1⟩
          · obtain ⟨p', hp', _, _, hpb, hh⟩ := g1.box t hk
            rw [hp] at hp'; injection hp' with hp'; subst hp'
            exact .inr ⟨hpb.1, hh.lt⟩
        · exact ⟨g1.fr.os, g1.fr.tape, g1.fr.output, g1.fr.size, fun k hk => g1.fr.block k hk (fun hm => hm.elim id id)⟩
  rcases hx.cases with ⟨rfl, rfl⟩ | ⟨rfl, rfl⟩ | ⟨_, rfl, rfl⟩ | ⟨_, rfl, rfl⟩ | ⟨_, _, rfl, rfl, _⟩
  · exact fin hq
  · exact fin hq
  all_goals exact hq.elim

/-- The same of a function that has its caller's variables at hand. -/
theorem fnB_sound (hm : P.follows .mixedOrders = true) {f : FuncId} {fn : Func} {O : Orac} {tab : List (Nat × List (Nat × Nat))} {base : Nat} {ds : List D} {bx : Bxs} {Q Qp : D → Bxs → Prop} (hf : P.funcs[f]? = some fn)
    (hname : (fn.name == "runtime.NumGoroutine") = false) (hlen : ds.length ≤ fn.ntmps) (hO : Ok P O) (h : fnB P O tab fn base ds bx Q Qp) : CallsB P f base ds bx Q Qp := by
  obtain ⟨c, hb, hok, hc⟩ := h
  obtain ⟨hN, hok⟩ : fn.ntmps ≤ dfS ∧ codeOk1 tab fn.ntmps c = true := by simpa [codeOk, dfS] using hok
  intro X ρ σ a w vs hS xlo hl hv
  refine .inl ⟨Go.MuLone.run_callFunc_enter hf hname hb vs w, callsIn_wide.1 (callsIn_of_wp_marks (F := Fence.wide) (n := 0) hf hb trivial ?_)⟩
  obtain ⟨k1, k2⟩ := args_frame (N := fn.ntmps) hl hlen hv
  have h0 := hS.sub (E := fun _ => False) (N := fn.ntmps) (ml := w.heap.size) (md := 0) (a' := { tmps := vs ++ Array.replicate (fn.ntmps - vs.size) undef, defers := [] }) hN (fun _ h => h.elim) k1 (.nil (.inl rfl)) (Nat.le_refl _) k2
  refine code_sound hm c none 0 ⟨O, tab, base, base + fn.ntmps, 0, none, true, false⟩ _ _ _ _ _ _ _ w ⟨hO, Nat.le_refl _, Nat.zero_le _, (fun _ _ _ hk => by cases hk), (fun hf => by cases hf), fun hf => by have : (0 : Nat) = 3 := hf; omega⟩ (fun l hl => by cases hl) hok h0 hc fun e e' σ' bx' a' w' ρ' hx hq h' => ?_
  have fin : (bindD (resL P σ' bx' fn.results.toList) fun rs => Q (tupD rs) bx') → LeavesInM Fence.wide 0 P fn a'.tmps (fun e w' => (∃ v, e = .returned v ∧ ∃ d bx' ρ', Q d bx' ∧ Sim X ρ' σ bx' a w' ∧ Rep w' (Stab X ρ' bx' w') ρ' d v) ∨ ∃ v, e = .panicked [pe v] ∧ ∃ d bx' ρ', Qp d bx' ∧ Sim X ρ' σ bx' a w' ∧ Rep w' (Stab X ρ' bx' w') ρ' d v) a'.defers .returning w' := by
    intro hq
    cases hr : resL P σ' bx' fn.results.toList with
    | none => rw [hr] at hq; exact hq.elim
    | some rs =>
      rw [hr] at hq
      exact leave_sound rfl rfl rfl a'.defers a' ρ' w' rfl h' hr fun ρ2 w2 v g1 _ g3 => .inl ⟨v, rfl, tupD rs, bx', ρ2, hq, hS.back rfl rfl g1 (fun _ h => h.elim) (fun _ h => h.elim) (fun _ h => h.elim) (hS.y0 xlo _ _), g3⟩
  rcases hx.cases with ⟨rfl, rfl⟩ | ⟨rfl, rfl⟩ | ⟨_, rfl, rfl⟩ | ⟨_, rfl, rfl⟩ | ⟨d, v, rfl, rfl, hv⟩
  · exact fin hq
  · exact fin hq
  · exact hq.elim
  · exact hq.elim
  · exact leave_pan rfl rfl rfl a'.defers a' ρ' w' rfl h' hv fun ρ2 w2 g1 g3 => .inr ⟨v, rfl, d, bx', ρ2, hq, hS.back rfl rfl g1 (fun _ h => h.elim) (fun _ h => h.elim) (fun _ h => h.elim) (hS.y0 xlo _ _), g3⟩

end Go.V

namespace Go.V
open Go.RowKit
set_option linter.unusedVariables false

variable {P : Program} {X : Ctx} {ρ : Rho} {σ : Env} {bx : Bxs} {a : Act} {w : World}

/-- What holds of the count, the others' variables and the record while items are yielded. -/
def Proto (gs l : Nat) (rc : Loop) (items : List (List D)) (J : Nat → Bxs → Prop) (Jx : Code → Bxs → Prop) (c : Bxs) (h : Nat → Option Obj) : Prop :=
  (c gs).k = 0 ∧ (((c gs).sz ≤ items.length ∧ h l = some (.loop rc) ∧ J (c gs).sz (cutB gs c)) ∨
    ((c gs).sz = items.length + 1 ∧ ∃ jump, h l = some (.loop { rc with state := .done, pending := some jump }) ∧ Jx jump (cutB gs c)))

/-- The activation's constants, with what it leaves alone. -/
def Ctx.withY (X : Ctx) (lo : Nat) (Y : Bxs → (Nat → Option Obj) → Prop) : Ctx := { X with lo := lo, Y := Y }

theorem Sim.withY (h : Sim X ρ σ bx a w) {lo : Nat} {Y : Bxs → (Nat → Option Obj) → Prop} (yc : ∀ c h h', Y c h → (∀ b o, h b = some o → h' b = some o) → Y c h') (inv : Y (cutB lo bx) ρ.hold) (y0 : lo = 0 → ∀ c h, Y c h) : Sim (X.withY lo Y) ρ σ bx a w :=
  ⟨h.fr, h.s0, h.nb, h.mb, h.ec, h.size, h.marks, h.nle, h.mkb, h.tmps, h.glo, h.box, h.inj, h.eps, h.r0, h.hold, h.holds0, yc, inv, y0, h.h0lt, h.maps.of (fun _ h => ⟨h, rfl, rfl⟩) (fun _ _ _ h => h) (fun _ _ _ _ _ h => h) (fun _ h => h)⟩

theorem Sim.noY {lo : Nat} {Y : Bxs → (Nat → Option Obj) → Prop} (h : Sim (X.withY lo Y) ρ σ bx a w) (xlo : X.lo = 0) (xY : ∀ c h, X.Y c h) : Sim X ρ σ bx a w :=
  ⟨h.fr, h.s0, h.nb, h.mb, h.ec, h.size, h.marks, h.nle, h.mkb, h.tmps, h.glo, h.box, h.inj, h.eps, h.r0, h.hold, h.holds0, fun _ _ _ _ _ => xY _ _, xY _ _, fun _ c h => xY c h, h.h0lt, h.maps.of (fun _ h => ⟨h, rfl, rfl⟩) (fun _ _ _ h => h) (fun _ _ _ _ _ h => h) (fun _ h => h)⟩

theorem cutB_cutB {m n : Nat} (h : m ≤ n) (bx : Bxs) : cutB m (cutB n bx) = cutB m bx := by
  funext s
  unfold cutB
  by_cases h1 : s < m
  · have : s < n := by omega
    simp [h1, this]
  · simp [h1]

set_option maxHeartbeats 1000000 in
theorem fnI_sound (hm : P.follows .mixedOrders = true) {f : FuncId} {fn : Func} {O : Orac} {tab : List (Nat × List (Nat × Nat))} {caps : List D} {items : List (List D)} (hf : P.funcs[f]? = some fn)
    (hname : (fn.name == "runtime.NumGoroutine") = false) (hlen : caps.length + 1 ≤ fn.ntmps) (hO : Ok P O) (h : fnI P O tab fn caps items) : IterTo P f caps items (fn.ntmps + 1) := by
  obtain ⟨c, hb, hok, hres, hc⟩ := h
  obtain ⟨hN, hok⟩ : fn.ntmps ≤ dfS ∧ codeOk1 tab fn.ntmps c = true := by simpa [codeOk, dfS] using hok
  intro X ρ σ bx a w gs' gs rc vs J Jx
  intro hS xlo hl hwl hr0 hvl hv hJ hround
  -- the count is laid
  have hS1 : Sim X ρ σ (upd bx gs { bx gs with k := 0, sz := 0 }) a w := hS.less fun s => by
    by_cases e : s = gs
    · subst e; exact .inr ⟨by omega, by simp [upd], by simp [upd], by simp [upd, lv0], by simp [upd]⟩
    · exact .inl (by simp [upd, e])
  have hcut : cutB gs (upd bx gs { bx gs with k := 0, sz := 0 }) = cutB gs bx := cutB_congr fun s hs => by
    have : s ≠ gs := by omega
    simp [upd, this]
  have hst : ∀ b, Stab X ρ bx w b → Stab X ρ (upd bx gs { bx gs with k := 0, sz := 0 }) w b := fun b hb' => ⟨hb'.1, hb'.2.1, fun t ht p hp => by
    by_cases e : t = gs
    · subst e; simp [upd] at ht
    · simp only [upd, e, if_false] at ht hp; exact hb'.2.2 t ht p hp⟩
  generalize hbx : upd bx gs { bx gs with k := 0, sz := 0 } = bx1 at hS1 hcut hst
  have hg1 : (bx1 gs).k = 0 ∧ (bx1 gs).sz = 0 := by rw [← hbx]; simp [upd]
  obtain ⟨k1, k2⟩ := args_frame (w := w) (ρ := ρ) (S := Stab X ρ bx1 w) (ds := .fn (.yield gs') [] :: caps) (vs := #[Value.func (.yield gs') #[] #[]] ++ vs) (N := fn.ntmps) (by simp [hvl]; omega) (by simpa using hlen) (fun i x v hx hv' => by
    cases i with
    | zero =>
      simp only [List.getElem?_cons_zero, Option.some.injEq] at hx
      subst hx
      have hv2 : v = Value.func (.yield gs') #[] #[] := by
        rw [Array.getElem?_append_left (by simp)] at hv'
        injection hv' with hv'
        exact hv'.symm
      subst hv2
      exact .fn rfl (by simp)
    | succ i =>
      simp only [List.getElem?_cons_succ] at hx
      rw [Array.getElem?_append_right (by simp)] at hv'
      have hv2 : vs[i]? = some v := by simpa using hv'
      exact .pure ((hv i x v hx hv2).monoS hst))
  have hlw := (hS.hold gs' _ hl).1
  have hE : ∀ b, b = gs' → ∀ o, w.heap[b]? = some o → Obj.isC o = false := by
    rintro b rfl o ho
    rw [hlw] at ho; injection ho with ho; subst ho; rfl
  have hsub := hS1.sub (E := fun b => b = gs') (N := fn.ntmps) (ml := w.heap.size) (md := 0) (a' := { tmps := (#[Value.func (.yield gs') #[] #[]] ++ vs) ++ Array.replicate (fn.ntmps - (#[Value.func (.yield gs') #[] #[]] ++ vs).size) undef, defers := [] }) hN hE k1 (.nil (.inl rfl)) (Nat.le_refl _) k2
  have pc : ∀ (c : Bxs) (h h' : Nat → Option Obj), Proto gs gs' rc items J Jx c h → (∀ b o, h b = some o → h' b = some o) → Proto gs gs' rc items J Jx c h' := by
    rintro c h h' ⟨g0, g1 | ⟨g1, jump, g2, g3⟩⟩ hh
    · exact ⟨g0, .inl ⟨g1.1, hh _ _ g1.2.1, g1.2.2⟩⟩
    · exact ⟨g0, .inr ⟨g1, jump, hh _ _ g2, g3⟩⟩
  have cutgs : ∀ bx : Bxs, cutB (gs + 1) bx gs = bx gs := fun bx => by simp [cutB]
  have hW := hsub.withY (lo := gs + 1) (Y := Proto gs gs' rc items J Jx) pc ⟨by rw [cutgs]; exact hg1.1, .inl ⟨by rw [cutgs, hg1.2]; omega, hl, by rw [cutgs, hg1.2, cutB_cutB (by omega), hcut]; exact hJ⟩⟩ (fun h0 => by omega)
  generalize hYd : X.sub ρ bx1 w (fun b => b = gs') fn.ntmps w.heap.size 0 = Y at hsub hW
  have hY0 : Y.lo = 0 ∧ (∀ c h, Y.Y c h) ∧ Y.S0 = X.S0 ∧ Y.n0 = X.n0 ∧ Y.E gs' ∧ Y.ml = Y.w0.heap.size ∧ Y.N = fn.ntmps ∧ Y.md = 0 := by rw [← hYd]; exact ⟨rfl, fun _ _ => trivial, rfl, rfl, .inl rfl, rfl, rfl, rfl⟩
  obtain ⟨ylo, yY, yS, yn, yE, yml, yN, ymd⟩ := hY0
  -- the frame that waits, found again
  have back : ∀ (ρ' : Rho) (σ' : Env) (bx' : Bxs) (a' : Act) (w' : World), Sim Y ρ' σ' bx' a' w' → Sim X ρ' σ bx' a w' := by
    intro ρ' σ' bx' a' w' hs
    rw [← hYd] at hs
    exact hS1.back rfl rfl hs (fun b hb => by subst hb; exact .inr hwl) (fun b hb => by subst hb; rw [hl]; simp) (fun b hb => by subst hb; exact .inl hr0) (hS.y0 xlo _ _)
  have good : Good P ⟨O, tab, gs + 1, gs + 1 + fn.ntmps, gs + 1, some (items, gs, gs'), false, false⟩ (Y.withY (gs + 1) (Proto gs gs' rc items J Jx)) := by
    refine ⟨hO, Nat.le_refl _, Nat.le_refl _, fun it2 g2 l2 hy ρ1 σi bxi ai wi us ds hsi hi hus hrep => ?_, (fun hf => by cases hf), fun hf => by have : Y.md = 3 := hf; omega⟩
    simp only [Option.some.injEq, Prod.mk.injEq] at hy
    obtain ⟨rfl, rfl, rfl⟩ := hy
    have hlt := (List.getElem?_eq_some_iff.1 hi).1
    have hinv : Proto gs gs' rc items J Jx (cutB (gs + 1) bxi) ρ1.hold := hsi.inv
    obtain ⟨g0, g1⟩ := hinv
    rw [cutgs] at g0 g1
    rcases g1 with ⟨g1, g2, g3⟩ | ⟨g1, _⟩
    · rw [cutB_cutB (by omega)] at g3
      have hsY := hsi.noY ylo yY
      obtain ⟨f2, tm, as, bd, hy, hR⟩ := hround (bxi gs).sz ds ρ1 bxi wi us hi (back _ _ _ _ _ hsY) g2 g3 hus (fun i x v hx hv' => by
        have := hrep i x v hx hv'
        have e : Stab (Y.withY (gs + 1) (Proto gs gs' rc items J Jx)) ρ1 bxi wi = Stab X ρ1 bxi wi := by funext b; simp only [Stab, Ctx.withY, yS, yn]
        rw [e] at this; exact this)
      refine ⟨f2, tm, as, bd, hy, fun m => (hR m).mono ?_⟩
      rintro e w2 ⟨ρ2, bx2, b, rfl, q1, q2, q3, q4⟩
      refine ⟨ρ2, bx2, b, rfl, ?_⟩
      have hgs : bx2 gs = bxi gs := q1 gs (Nat.le_refl _) (by omega)
      have hmix : mixB (gs + 1) (gs + 1 + fn.ntmps) bxi bx2 = bx2 := by
        funext s
        unfold mixB
        by_cases hs : gs + 1 ≤ s ∧ s < gs + 1 + fn.ntmps
        · rw [if_pos hs]; exact (q1 s (by omega) (by omega)).symm
        · rw [if_neg hs]
      show Sim _ ρ2 σi (upd (mixB (gs + 1) (gs + 1 + fn.ntmps) bxi bx2) gs _) ai w2
      rw [hmix]
      have h3 := q2 Y σi ai yS yn yE hsY (yY _ _)
      have h4 : Sim Y ρ2 σi (upd bx2 gs { bxi gs with sz := if b = true then (bxi gs).sz + 1 else items.length + 1 }) ai w2 := h3.less fun s => by
        by_cases e : s = gs
        · subst e; exact .inr ⟨by omega, by simp [upd, g0], by simp [upd, hgs], by simp [upd, g0, lv0], by simp [upd, g0]⟩
        · exact .inl (by simp [upd, e])
      have hcut2 : ∀ b', cutB gs (upd bx2 gs b') = cutB gs bx2 := fun b' => cutB_congr fun s hs => by
        have : s ≠ gs := by omega
        simp [upd, this]
      refine h4.withY pc ?_ (fun h0 => by omega)
      refine ⟨by rw [cutgs]; simp [upd, g0], ?_⟩
      rw [cutgs, cutB_cutB (by omega), hcut2]
      simp only [upd, if_true]
      rcases q4 with ⟨rfl, q5, q6⟩ | ⟨rfl, jump, q5, q6⟩
      · exact .inl ⟨by simp; omega, q5, by simpa using q6⟩
      · exact .inr ⟨by simp, jump, q5, q6⟩
    · omega
  refine ⟨Go.MuLone.run_callFunc_enter hf hname hb _ w, callsIn_wide.1 (callsIn_of_wp_marks (F := Fence.wide) (n := 0) hf hb trivial ?_)⟩
  refine code_sound hm c none 0 ⟨O, tab, gs + 1, gs + 1 + fn.ntmps, gs + 1, some (items, gs, gs'), false, false⟩ (Y.withY (gs + 1) (Proto gs gs' rc items J Jx)) _ _ _ _ _ _ w good (fun l hl => by cases hl) (by show codeOk1 tab Y.N c = true; rw [yN]; exact hok) hW (hc gs gs' bx1 hg1.1 hg1.2) fun e e' σ' bx' a' w' ρ' hx hq h' => ?_
  have fin : items.length ≤ (bx' gs).sz → LeavesInM Fence.wide 0 P fn a'.tmps (fun e w' => ∃ v ρ' bx', e = .returned v ∧ Sim X ρ' σ bx' a w' ∧
      ((ρ'.hold gs' = some (.loop rc) ∧ J items.length (cutB gs bx')) ∨ ∃ jump, ρ'.hold gs' = some (.loop { rc with state := .done, pending := some jump }) ∧ Jx jump (cutB gs bx'))) a'.defers .returning w' := by
    intro hq
    have hinv : Proto gs gs' rc items J Jx (cutB (gs + 1) bx') ρ'.hold := h'.inv
    obtain ⟨g0, g1⟩ := hinv
    rw [cutgs, cutB_cutB (by omega)] at g1
    have hsY := h'.noY ylo yY
    refine leave_sound ylo yml ymd a'.defers a' ρ' w' rfl hsY (rs := []) (by rw [hres]; rfl) fun ρ2 w2 v s1 s2 _ => ⟨v, ρ2, bx', rfl, back _ _ _ _ _ s1, ?_⟩
    rcases g1 with ⟨g1, g2, g3⟩ | ⟨g1, jump, g2, g3⟩
    · have e : (bx' gs).sz = items.length := by omega
      rw [e] at g3
      exact .inl ⟨s2 _ _ g2 (by simp), g3⟩
    · exact .inr ⟨jump, s2 _ _ g2 (by simp), g3⟩
  rcases hx.cases with ⟨rfl, rfl⟩ | ⟨rfl, rfl⟩ | ⟨_, rfl, rfl⟩ | ⟨_, rfl, rfl⟩ | ⟨_, _, rfl, rfl, _⟩
  · exact fin hq
  · exact fin hq
  all_goals exact hq.elim

/-- The contracts that are proved. -/
def orac (P : Program) : Orac := ⟨CallsTo P, CallsB P, IterTo P⟩
theorem orac_ok (P : Program) : Ok P (orac P) := ⟨fun _ _ _ h => h, fun _ _ _ _ _ _ h => h, fun _ _ _ _ h => h⟩

theorem fn_calls (hm : P.follows .mixedOrders = true) {f : FuncId} {fn : Func} {tab : List (Nat × List (Nat × Nat))} {ds : List D} {d : D} (h : fnD P (orac P) tab fn ds d) (hf : P.funcs[f]? = some fn)
    (hname : (fn.name == "runtime.NumGoroutine") = false) (hlen : decide (ds.length ≤ fn.ntmps) = true) : CallsTo P f ds d := fn_sound hm hf hname (of_decide_eq_true hlen) (orac_ok P) h
theorem fnB_calls (hm : P.follows .mixedOrders = true) {f : FuncId} {fn : Func} {tab : List (Nat × List (Nat × Nat))} {base : Nat} {ds : List D} {bx : Bxs} {Q Qp : D → Bxs → Prop} (h : fnB P (orac P) tab fn base ds bx Q Qp) (hf : P.funcs[f]? = some fn)
    (hname : (fn.name == "runtime.NumGoroutine") = false) (hlen : decide (ds.length ≤ fn.ntmps) = true) : CallsB P f base ds bx Q Qp := fnB_sound hm hf hname (of_decide_eq_true hlen) (orac_ok P) h
theorem fnI_calls (hm : P.follows .mixedOrders = true) {f : FuncId} {fn : Func} {tab : List (Nat × List (Nat × Nat))} {caps : List D} {items : List (List D)} (h : fnI P (orac P) tab fn caps items) (hf : P.funcs[f]? = some fn)
    (hname : (fn.name == "runtime.NumGoroutine") = false) (hlen : decide (caps.length + 1 ≤ fn.ntmps) = true) : IterTo P f caps items (fn.ntmps + 1) := fnI_sound hm hf hname (of_decide_eq_true hlen) (orac_ok P) h

end Go.V
