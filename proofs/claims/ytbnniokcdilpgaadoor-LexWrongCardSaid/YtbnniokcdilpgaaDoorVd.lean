/-
  The two levels held together: an activation's temporaries and world, and the data that they stand for.
-/
import Derived.Test.YtbnniokcdilpgaaDoorVc
namespace Go.V
open Go.RowKit

/-- Of what was there nothing has turned but blocks of M. -/
structure Fr (M : Nat → Prop) (w w' : World) : Prop where
  os : w'.os = w.os
  tape : w'.tape = w.tape
  output : w'.output = w.output
  size : w.heap.size ≤ w'.heap.size
  block : ∀ k, k < w.heap.size → ¬ M k → w'.heap[k]? = w.heap[k]?

theorem Fr.refl (M : Nat → Prop) (w : World) : Fr M w w := ⟨rfl, rfl, rfl, Nat.le_refl _, fun _ _ _ => rfl⟩
theorem Fr.step {M M' : Nat → Prop} {a b c : World} (h : Fr M a b) (k : Fr M' b c) (hM : ∀ n, n < a.heap.size → M' n → M n) : Fr M a c :=
  ⟨k.os.trans h.os, k.tape.trans h.tape, k.output.trans h.output, Nat.le_trans h.size k.size, fun i hi hm => (k.block i (Nat.lt_of_lt_of_le hi h.size) (fun hm' => hm (hM i hi hm'))).trans (h.block i hi hm)⟩
theorem Fr.below {w w' : World} (h : Fr (fun _ => False) w w') : Below w.heap.size w w' := ⟨h.os, h.tape, h.output, h.size, fun k hk => h.block k hk id⟩
theorem Fr.of_below {M : Nat → Prop} {w w' : World} (h : Below w.heap.size w w') : Fr M w w' := ⟨h.os, h.tape, h.output, h.size, fun k hk _ => h.block k hk⟩
theorem Fr.alloc (M : Nat → Prop) (w : World) (o : Obj) : Fr M w (w.alloc o) := .of_below ((Below.refl _ _).alloc (Nat.le_refl _) o)
theorem Fr.of_grown {w w' : World} {row : Option Nat} (h : w.grownBy w' row) : Fr (fun b => some b = row) w w' := ⟨h.os, h.tape, h.output, h.size, fun k hk hm => h.block k hk hm⟩

/-- What is constant in an activation: the world at its start; the root call's arguments' stable blocks and size of the world; the blocks of the live boxes that are lent to it (M); blocks without cells that may turn (E); its number of temporaries; where all lay at its start; of the slots below lo, that it leaves alone, and of the blocks without cells: Y; md: 0 it defers nothing, 1 it is a round, 2 it may defer. -/
structure Ctx where
  w0 : World
  S0 : Nat → Prop
  n0 : Nat
  M : Nat → Prop
  E : Nat → Prop
  N : Nat
  r0 : Rho
  ml : Nat
  lo : Nat
  Y : Bxs → (Nat → Option Obj) → Prop
  md : Nat

theorem cutB_congr {n : Nat} {bx bx' : Bxs} (h : ∀ s, s < n → bx' s = bx s) : cutB n bx' = cutB n bx := by
  funext s
  unfold cutB
  by_cases hs : s < n
  · simp [hs, h s hs]
  · simp [hs]

/-- A mark among the deferred calls: a range over a function has been entered. -/
def markOf (r : Nat) : Deferred := { target := .collected r, args := #[] }

/-- Blocks that nobody writes any more. -/
def Stab (X : Ctx) (ρ : Rho) (bx : Bxs) (w : World) (b : Nat) : Prop :=
  b < w.heap.size ∧ (X.S0 b ∨ X.n0 ≤ b) ∧ ∀ t, (bx t).k = 1 → ∀ p, ρ t (bx t).ep = some p → p.b ≠ b

/-- The record of the deferred calls. -/
def recD : D → List D
  | .any l => l
  | _ => []

/-- Deferred calls: marks, each of a block of its own that holds no call, and calls of functions, as the record has them. -/
inductive Defs (w : World) (S : Nat → Prop) (ρ : Rho) (m : Nat) : List D → List Deferred → Prop where
  | nil : Defs w S ρ m [] []
  | mark {l : List D} {r : Nat} {ds : List Deferred} (h : ρ.hold r = some (.deferred (some []))) (hm : m ≤ r) (hn : markOf r ∉ ds) (t : Defs w S ρ m l ds) : Defs w S ρ m l (markOf r :: ds)
  | call {f : FuncId} {caps args l : List D} {vc va : Array Value} {ds : List Deferred} (hc : vc.size = caps.length) (hcr : ∀ (i : Nat) d v, caps[i]? = some d → vc[i]? = some v → Rep w S ρ d v)
      (ha : va.size = args.length) (har : ∀ (i : Nat) d v, args[i]? = some d → va[i]? = some v → Rep w S ρ d v) (t : Defs w S ρ m l ds) : Defs w S ρ m (.tup (.fn (.func f) caps :: args) :: l) ({ target := .fn (.func f) vc, args := va } :: ds)

/-- The deferred calls of an activation. -/
def Mk (w : World) (S : Nat → Prop) (ρ : Rho) (md ml : Nat) (d : D) (ds : List Deferred) : Prop := md = 1 ∨ (Defs w S ρ ml (if md = 0 then [] else recD d) ds ∧ (md = 3 → ds = []))

theorem Defs.monoC {w w' : World} {S S' : Nat → Prop} {ρ ρ' : Rho} {m : Nat} {l : List D} {ds : List Deferred} (h : Defs w S ρ m l ds) (hw : ∀ b, S b → SameC w w' b) (hS : ∀ b, S b → S' b) (hρ : ∀ t e p, ρ t e = some p → ρ' t e = some p)
    (hh : ∀ r, markOf r ∈ ds → ρ.hold r = some (.deferred (some [])) → ρ'.hold r = some (.deferred (some []))) : Defs w' S' ρ' m l ds := by
  induction h with
  | nil => exact .nil
  | mark h hm hn _ ih => exact .mark (hh _ (List.mem_cons_self ..) h) hm hn (ih fun r hr => hh r (List.mem_cons_of_mem _ hr))
  | call hc hcr ha har _ ih => exact .call hc (fun i d v hd hv => (hcr i d v hd hv).monoC hw hS hρ) ha (fun i d v hd hv => (har i d v hd hv).monoC hw hS hρ) (ih fun r hr => hh r (List.mem_cons_of_mem _ hr))
theorem Mk.monoC {w w' : World} {S S' : Nat → Prop} {ρ ρ' : Rho} {md m : Nat} {l : D} {ds : List Deferred} (h : Mk w S ρ md m l ds) (hw : ∀ b, S b → SameC w w' b) (hS : ∀ b, S b → S' b) (hρ : ∀ t e p, ρ t e = some p → ρ' t e = some p)
    (hh : ∀ r, markOf r ∈ ds → ρ.hold r = some (.deferred (some [])) → ρ'.hold r = some (.deferred (some []))) : Mk w' S' ρ' md m l ds := h.imp id fun h => ⟨h.1.monoC hw hS hρ hh, h.2⟩
theorem Mk.mono {w w' : World} {S S' : Nat → Prop} {ρ ρ' : Rho} {md m : Nat} {l : D} {ds : List Deferred} (h : Mk w S ρ md m l ds) (hw : ∀ b, S b → w'.heap[b]? = w.heap[b]?) (hS : ∀ b, S b → S' b) (hρ : ∀ t e p, ρ t e = some p → ρ' t e = some p)
    (hh : ∀ r, ρ.hold r = some (.deferred (some [])) → ρ'.hold r = some (.deferred (some []))) : Mk w' S' ρ' md m l ds := h.monoC (fun b hb => .of_eq (hw b hb)) hS hρ fun r _ => hh r
theorem Mk.nil {w : World} {S : Nat → Prop} {ρ : Rho} {md m : Nat} {l : D} (h : md = 0 ∨ md = 1 ∨ recD l = []) : Mk w S ρ md m l [] := by
  rcases h with h | h | h
  · exact .inr ⟨by rw [if_pos h]; exact .nil, fun _ => rfl⟩
  · exact .inl h
  · exact .inr ⟨by rw [h, ite_self]; exact .nil, fun _ => rfl⟩

structure Sim (X : Ctx) (ρ : Rho) (σ : Env) (bx : Bxs) (a : Act) (w : World) : Prop where
  fr : Fr (fun b => X.M b ∨ X.E b) X.w0 w
  s0 : ∀ b, X.S0 b → b < X.n0
  nb : X.n0 ≤ X.w0.heap.size
  mb : ∀ b, X.M b → X.n0 ≤ b
  ec : ∀ b, X.E b → ∀ o, X.w0.heap[b]? = some o → Obj.isC o = false
  size : a.tmps.size = X.N
  marks : Mk w (Stab X ρ bx w) ρ X.md X.ml (σ dfS) a.defers
  nle : X.N ≤ dfS
  mkb : X.ml ≤ X.w0.heap.size
  tmps : ∀ t, Rep w (Stab X ρ bx w) ρ (σ t) (a.tmps.getD t undef)
  glo : Rep w (Stab X ρ bx w) ρ .glo undef
  box : ∀ t, (bx t).k ≠ 0 → ∃ p, ρ t (bx t).ep = some p ∧ p.sz = (bx t).sz ∧ p.ty = (bx t).ty ∧ (X.n0 ≤ p.b ∧ ((bx t).k = 1 → X.w0.heap.size ≤ p.b ∨ X.M p.b)) ∧ Holds w (Stab X ρ bx w) ρ p (bx t).es
  inj : ∀ t t' p p', (bx t).k = 1 → (bx t').k ≠ 0 → t ≠ t' → ρ t (bx t).ep = some p → ρ t' (bx t').ep = some p' → p.b ≠ p'.b
  eps : ∀ t e p, ρ t e = some p → e ≤ (bx t).ep
  r0 : ∀ t e p, X.r0 t e = some p → ρ t e = some p
  hold : ∀ b o, ρ.hold b = some o → w.heap[b]? = some o ∧ Obj.isC o = false
  holds0 : ∀ b o, X.r0.hold b = some o → ¬ X.E b → ρ.hold b = some o
  yc : ∀ c h h', X.Y c h → (∀ b o, h b = some o → h' b = some o) → X.Y c h'
  inv : X.Y (cutB X.lo bx) ρ.hold
  y0 : X.lo = 0 → ∀ c h, X.Y c h
  h0lt : ∀ b o, X.r0.hold b = some o → b < X.w0.heap.size

variable {X : Ctx} {ρ : Rho} {σ : Env} {bx : Bxs} {a : Act} {w : World}

theorem Holds.isC {S : Nat → Prop} {p : Place} {es : List D} (h : Holds w S ρ p es) : ∃ o, w.heap[p.b]? = some o ∧ Obj.isC o = true := by
  obtain ⟨⟨cur, hc, _⟩, _⟩ := h
  exact ⟨_, hc, rfl⟩

theorem Holds.lt {S : Nat → Prop} {p : Place} {es : List D} (h : Holds w S ρ p es) : p.b < w.heap.size := by
  obtain ⟨⟨cur, hc, _⟩, _⟩ := h
  exact (Array.getElem?_eq_some_iff.1 hc).1

/-- The world grows: nothing that was there has turned. -/
theorem Sim.ext {w' : World} (h : Sim X ρ σ bx a w) (hb : Below w.heap.size w w') : Sim X ρ σ bx a w' := by
  have hS : ∀ b, Stab X ρ bx w b → Stab X ρ bx w' b := fun b hb' => ⟨Nat.lt_of_lt_of_le hb'.1 hb.size, hb'.2⟩
  have hw : ∀ b, Stab X ρ bx w b → w'.heap[b]? = w.heap[b]? := fun b hb' => hb.block b hb'.1
  exact ⟨h.fr.step (Fr.of_below (M := fun _ => False) hb) (fun _ _ h => h.elim), h.s0, h.nb, h.mb, h.ec, h.size, h.marks.mono hw hS (fun _ _ _ h => h) (fun _ h => h), h.nle, h.mkb, fun t => (h.tmps t).mono hw hS (fun _ _ _ h => h), h.glo.mono hw hS (fun _ _ _ h => h),
    fun t ht => let ⟨p, h1, h2, h3, h4, h5⟩ := h.box t ht; ⟨p, h1, h2, h3, h4, h5.mono (hb.block _ h5.lt) hw hS (fun _ _ _ h => h)⟩, h.inj, h.eps, h.r0,
    fun b o ho => ⟨(hb.block b (Array.getElem?_eq_some_iff.1 (h.hold b o ho).1).1).trans (h.hold b o ho).1, (h.hold b o ho).2⟩, h.holds0, h.yc, h.inv, h.y0, h.h0lt⟩

theorem Sim.put {dst : Option Tmp} {d : D} {v : Value} (h : Sim X ρ σ bx a w) (hd : ∀ t, dst = some t → t < X.N) (hr : Rep w (Stab X ρ bx w) ρ d v) : Sim X ρ (put σ dst d) bx (a.put dst v) w := by
  cases dst with
  | none => exact h
  | some t =>
    have ht := hd t rfl
    have hdf : dfS ≠ t := by
      intro e
      exact absurd (hd t rfl) (by rw [← e]; exact Nat.not_lt.2 h.nle)
    refine ⟨h.fr, h.s0, h.nb, h.mb, h.ec, by simp [Act.put, h.size], by simpa [Act.put, V.put, upd, hdf] using h.marks, h.nle, h.mkb, fun x => ?_, h.glo, h.box, h.inj, h.eps, h.r0, h.hold, h.holds0, h.yc, h.inv, h.y0, h.h0lt⟩
    simp only [V.put, upd, Act.put]
    by_cases hx : x = t
    · subst hx
      simp only [if_true]
      have : (a.tmps.setIfInBounds x v).getD x undef = v := by
        simp [Array.getD, h.size, ht]
      rw [this]; exact hr
    · simp only [hx, if_false]
      have : (a.tmps.setIfInBounds t v).getD x undef = a.tmps.getD x undef := by
        simp only [Array.getD_eq_getD_getElem?, Array.getElem?_setIfInBounds_ne (Ne.symm hx)]
      rw [this]; exact h.tmps x

theorem Sim.ev (h : Sim X ρ σ bx a w) (x : Operand) : Rep w (Stab X ρ bx w) ρ (ev σ x) (a.eval x) := by
  cases x with
  | tmp t => exact h.tmps t
  | const v => exact .pure (rep_ofV v)
  | global g =>
    show Rep w (Stab X ρ bx w) ρ (evG g (glob g)) (.pointer (some ⟨g, 0, none⟩))
    cases hg : glob g with
    | none => exact .pure (.raw _)
    | some d =>
      have h := h.glo.toP rfl
      cases h with
      | glo _ h _ => exact .pure (h g d hg)
  | func f => exact .pure (.fn rfl (by simp))

/-- A new variable: block g, of slot t: either laid by this step, or that of slot t0, which is given up. -/
theorem Sim.own {w' : World} {t : Nat} {p : Place} {es : List D} {bx1 : Bxs} (h : Sim X ρ σ bx a w)
    (hlo : X.lo ≤ t) (h1 : ∀ s, bx1 s = bx s ∨ ((bx1 s).k = 0 ∧ (bx1 s).ep = (bx s).ep ∧ X.lo ≤ s)) {Old : Nat → Prop} (hg : Fr Old w w')
    (hO : ∀ b, Old b → ∃ t0 p0, (bx t0).k = 1 ∧ ρ t0 (bx t0).ep = some p0 ∧ p0.b = b ∧ (t0 = t ∨ (bx1 t0).k = 0)) (hp : w.heap.size ≤ p.b ∨ Old p.b)
    (hh : ∀ S' ρ', (∀ b, Stab X ρ bx w b → S' b) → (∀ s e q, ρ s e = some q → ρ' s e = some q) → Holds w' S' ρ' p es) :
    Sim X ⟨fun s e => if s = t ∧ e = (bx t).ep + 1 then some p else ρ s e, ρ.hold⟩ σ (upd bx1 t ⟨(bx t).ep + 1, 1, p.sz, p.ty, es⟩) a w' := by
  have hnO : ∀ b, Stab X ρ bx w b → ¬ Old b := by
    intro b hb e
    obtain ⟨t0, p0, hk, hr, hpb, _⟩ := hO b e
    exact hb.2.2 t0 hk p0 hr hpb
  have hne : ∀ b, Stab X ρ bx w b → b ≠ p.b := by
    intro b hb e
    rcases hp with hp | hp
    · have := hb.1; omega
    · exact hnO b hb (e ▸ hp)
  have hρ : ∀ s e q, ρ s e = some q → (if s = t ∧ e = (bx t).ep + 1 then some p else ρ s e) = some q := by
    intro s e q hq
    rw [if_neg]
    · exact hq
    · rintro ⟨rfl, rfl⟩
      have := h.eps _ _ _ hq
      omega
  have hw : ∀ b, Stab X ρ bx w b → w'.heap[b]? = w.heap[b]? := fun b hb => hg.block b hb.1 (hnO b hb)
  have live : ∀ s, s ≠ t → (upd bx1 t ⟨(bx t).ep + 1, 1, p.sz, p.ty, es⟩ s).k ≠ 0 → upd bx1 t ⟨(bx t).ep + 1, 1, p.sz, p.ty, es⟩ s = bx s := by
    intro s hs hk
    simp only [upd, hs, if_false] at hk ⊢
    rcases h1 s with e | ⟨e, _⟩
    · exact e
    · exact absurd e hk
  have hS : ∀ b, Stab X ρ bx w b → Stab X ⟨fun s e => if s = t ∧ e = (bx t).ep + 1 then some p else ρ s e, ρ.hold⟩ (upd bx1 t ⟨(bx t).ep + 1, 1, p.sz, p.ty, es⟩) w' b := by
    intro b hb
    refine ⟨Nat.lt_of_lt_of_le hb.1 hg.size, hb.2.1, fun s hs q hq => ?_⟩
    by_cases hst : s = t
    · subst hst
      simp only [upd, if_true, and_self] at hq
      injection hq with hq
      subst hq
      exact (hne b hb).symm
    · have hl := live s hst (by rw [hs]; decide)
      rw [hl] at hs hq
      simp only [hst, false_and, if_false] at hq
      exact hb.2.2 s hs q hq
  have hOM : ∀ b, Old b → X.w0.heap.size ≤ b ∨ X.M b := by
    intro b hb
    obtain ⟨t0, p0, hk, hr, hpb, _⟩ := hO b hb
    obtain ⟨p1, hr1, _, _, hb, _⟩ := h.box t0 (by rw [hk]; decide)
    rw [hr] at hr1; injection hr1 with hr1; subst hr1
    rw [hpb] at hb
    exact hb.2 hk
  have hOC : ∀ b o, Old b → w.heap[b]? = some o → Obj.isC o = true := by
    intro b o hb ho
    obtain ⟨t0, p0, hk, hr, hpb, _⟩ := hO b hb
    obtain ⟨p1, hr1, _, _, _, hh⟩ := h.box t0 (by rw [hk]; decide)
    rw [hr] at hr1; injection hr1 with hr1; subst hr1
    obtain ⟨o', ho', hc⟩ := hh.isC
    rw [hpb, ho] at ho'; injection ho' with ho'; subst ho'
    exact hc
  have hpb : X.w0.heap.size ≤ p.b ∨ X.M p.b := by
    rcases hp with hp | hp
    · exact .inl (Nat.le_trans h.fr.size hp)
    · exact hOM _ hp
  have otherO : ∀ s q, s ≠ t → (bx s).k ≠ 0 → upd bx1 t ⟨(bx t).ep + 1, 1, p.sz, p.ty, es⟩ s = bx s → ρ s (bx s).ep = some q → ¬ Old q.b := by
    intro s q hst hk hl hq e
    obtain ⟨t0, p0, hk0, hr0, hpb0, h0⟩ := hO _ e
    by_cases hs0 : s = t0
    · subst hs0
      rcases h0 with h0 | h0
      · exact hst h0
      · simp only [upd, hst, if_false] at hl
        rw [hl] at h0
        exact hk h0
    · exact h.inj t0 s p0 q hk0 hk (Ne.symm hs0) hr0 hq hpb0
  have other : ∀ s q, s ≠ t → (bx s).k ≠ 0 → upd bx1 t ⟨(bx t).ep + 1, 1, p.sz, p.ty, es⟩ s = bx s → ρ s (bx s).ep = some q → q.b ≠ p.b := by
    intro s q hst hk hl hq e
    rcases hp with hp | hp
    · obtain ⟨q', hq', _, _, _, hh'⟩ := h.box s hk
      rw [hq] at hq'; injection hq' with hq'; subst hq'
      have := hh'.lt; omega
    · exact otherO s q hst hk hl hq (e ▸ hp)
  refine ⟨h.fr.step hg (fun n hn hm => ?_), h.s0, h.nb, h.mb, h.ec, h.size, h.marks.mono hw hS hρ (fun _ h => h), h.nle, h.mkb, fun x => (h.tmps x).mono hw hS hρ, h.glo.mono hw hS hρ, fun s hs => ?_, fun s s' q q' hs hs' hss hq hq' => ?_, fun s e q hq => ?_, fun s e q hq => hρ s e q (h.r0 s e q hq), fun b o ho => ?_, h.holds0, h.yc, ?_, h.y0, h.h0lt⟩
  · rcases hOM n hm with hpb | hpb
    · omega
    · exact .inl hpb
  · by_cases hst : s = t
    · subst hst
      simp only [upd, if_true]
      exact ⟨p, by simp, rfl, rfl, ⟨hpb.elim (fun h' => Nat.le_trans h.nb h') (h.mb _), fun _ => hpb⟩, hh _ _ hS hρ⟩
    · have hl := live s hst hs
      rw [hl] at hs ⊢
      obtain ⟨q, hq, h2, h3, h4, h5⟩ := h.box s hs
      refine ⟨q, by simp only [hst, false_and, if_false]; exact hq, h2, h3, h4, h5.mono (hg.block _ h5.lt (otherO s q hst hs hl hq)) hw hS hρ⟩
  · by_cases hst : s = t
    · subst hst
      simp only [upd, if_true, and_self] at hq
      injection hq with hq
      subst hq
      have hl := live s' (Ne.symm hss) hs'
      rw [hl] at hs' hq'
      simp only [Ne.symm hss, false_and, if_false] at hq'
      exact (other s' q' (Ne.symm hss) hs' hl hq').symm
    · have hl := live s hst (by rw [hs]; decide)
      rw [hl] at hs hq
      simp only [hst, false_and, if_false] at hq
      by_cases hst' : s' = t
      · subst hst'
        simp only [upd, if_true, and_self] at hq'
        injection hq' with hq'
        subst hq'
        exact other s q hst (by rw [hs]; decide) hl hq
      · have hl' := live s' hst' hs'
        rw [hl'] at hs' hq'
        simp only [hst', false_and, if_false] at hq'
        exact h.inj s s' q q' hs hs' hss hq hq'
  · by_cases hst : s = t
    · subst hst
      simp only [upd, if_true]
      by_cases he : e = (bx s).ep + 1
      · omega
      · simp only [he, and_false, if_false] at hq
        have := h.eps _ _ _ hq
        omega
    · simp only [hst, false_and, if_false] at hq
      have := h.eps _ _ _ hq
      simp only [upd, hst, if_false]
      rcases h1 s with e1 | ⟨_, e1, _⟩
      · rw [e1]; exact this
      · rw [e1]; exact this
  · obtain ⟨g1, g2⟩ := h.hold b o ho
    refine ⟨(hg.block b (Array.getElem?_eq_some_iff.1 g1).1 (fun hb => ?_)).trans g1, g2⟩
    have := hOC b o hb g1
    rw [g2] at this; cases this
  · rw [cutB_congr (bx := bx) (fun s hs => ?_)]
    · exact h.inv
    · have : s ≠ t := by omega
      simp only [upd, this, if_false]
      rcases h1 s with e1 | ⟨_, _, e1⟩
      · exact e1
      · omega

/-- A store into a variable of one's own. -/
theorem Sim.stored {w' : World} {t : Nat} {p : Place} {es : List D} (h : Sim X ρ σ bx a w) (hlo : X.lo ≤ t) (hk : (bx t).k = 1) (hr : ρ t (bx t).ep = some p) (hg : Fr (fun b => b = p.b) w w')
    (hh : Holds w' (Stab X ρ bx w) ρ p es) : Sim X ρ σ (upd bx t { bx t with es := es }) a w' := by
  have hk' : ∀ s, (upd bx t { bx t with es := es } s).k = (bx s).k := fun s => by by_cases hs : s = t <;> simp [upd, hs]
  have he' : ∀ s, (upd bx t { bx t with es := es } s).ep = (bx s).ep := fun s => by by_cases hs : s = t <;> simp [upd, hs]
  have hne : ∀ b, Stab X ρ bx w b → b ≠ p.b := fun b hb e => hb.2.2 t hk p hr e.symm
  have hw : ∀ b, Stab X ρ bx w b → w'.heap[b]? = w.heap[b]? := fun b hb => hg.block b hb.1 (hne b hb)
  have hS : ∀ b, Stab X ρ bx w b → Stab X ρ (upd bx t { bx t with es := es }) w' b := fun b hb => ⟨Nat.lt_of_lt_of_le hb.1 hg.size, hb.2.1, fun s hs q hq => by
    rw [hk'] at hs; rw [he'] at hq; exact hb.2.2 s hs q hq⟩
  obtain ⟨p0, hr0, hz0, ht0, hb0, hh0⟩ := h.box t (by rw [hk]; decide)
  rw [hr] at hr0; injection hr0 with hr0; subst hr0
  refine ⟨h.fr.step hg (fun n hn hm => ?_), h.s0, h.nb, h.mb, h.ec, h.size, h.marks.mono hw hS (fun _ _ _ h => h) (fun _ h => h), h.nle, h.mkb, fun x => (h.tmps x).mono hw hS (fun _ _ _ h => h), h.glo.mono hw hS (fun _ _ _ h => h), fun s hs => ?_, fun s s' q q' hs hs' hss hq hq' => ?_, fun s e q hq => by rw [he']; exact h.eps s e q hq, h.r0, fun b o ho => ?_, h.holds0, h.yc, ?_, h.y0, h.h0lt⟩
  · subst hm
    rcases hb0.2 hk with hb0 | hb0
    · omega
    · exact .inl hb0
  · by_cases hst : s = t
    · subst hst
      simp only [upd, if_true]
      exact ⟨p, hr, hz0, ht0, ⟨hb0.1, hb0.2⟩, hh.mono rfl (fun _ _ => rfl) hS (fun _ _ _ h => h)⟩
    · rw [hk'] at hs
      obtain ⟨q, hq, h2, h3, h4, h5⟩ := h.box s hs
      simp only [upd, hst, if_false]
      exact ⟨q, hq, h2, h3, h4, h5.mono (hg.block _ h5.lt (h.inj t s p q hk hs (Ne.symm hst) hr hq).symm) hw hS (fun _ _ _ h => h)⟩
  · rw [hk'] at hs hs'; rw [he'] at hq hq'
    exact h.inj s s' q q' hs hs' hss hq hq'
  · obtain ⟨g1, g2⟩ := h.hold b o ho
    refine ⟨(hg.block b (Array.getElem?_eq_some_iff.1 g1).1 (fun hb => ?_)).trans g1, g2⟩
    obtain ⟨o', ho', hc⟩ := hh0.isC
    rw [← hb, g1] at ho'; injection ho' with ho'; subst ho'
    rw [g2] at hc; cases hc
  · rw [cutB_congr (bx := bx) (fun s hs => ?_)]
    · exact h.inv
    · have : s ≠ t := by omega
      simp [upd, this]

/-- Own variables are given up, or not written any more: nothing turns in the world. -/
theorem Sim.less {bx' : Bxs} (h : Sim X ρ σ bx a w) (hl : ∀ s, (bx' s) = bx s ∨ (X.lo ≤ s ∧ (bx' s).k ≠ 1 ∧ (bx' s).ep = (bx s).ep ∧ ((bx' s).k ≠ 0 → (bx s).k ≠ 0 ∧ (bx' s).sz = (bx s).sz ∧ (bx' s).ty = (bx s).ty ∧ (bx' s).es = (bx s).es))) : Sim X ρ σ bx' a w := by
  have he : ∀ s, (bx' s).ep = (bx s).ep := fun s => by rcases hl s with e | e; · rw [e]
                                                       · exact e.2.2.1
  have h1 : ∀ s, (bx' s).k = 1 → (bx s).k = 1 := fun s hs => by rcases hl s with e | e; · rw [e] at hs; exact hs
                                                                · exact absurd hs e.2.1
  have h0 : ∀ s, (bx' s).k ≠ 0 → (bx s).k ≠ 0 ∧ (bx' s).sz = (bx s).sz ∧ (bx' s).ty = (bx s).ty ∧ (bx' s).es = (bx s).es := fun s hs => by
    rcases hl s with e | e
    · rw [e] at hs ⊢; exact ⟨hs, rfl, rfl, rfl⟩
    · exact e.2.2.2 hs
  have hS : ∀ b, Stab X ρ bx w b → Stab X ρ bx' w b := fun b hb => ⟨hb.1, hb.2.1, fun s hs q hq => by rw [he] at hq; exact hb.2.2 s (h1 s hs) q hq⟩
  refine ⟨h.fr, h.s0, h.nb, h.mb, h.ec, h.size, h.marks.mono (fun _ _ => rfl) hS (fun _ _ _ h => h) (fun _ h => h), h.nle, h.mkb, fun x => (h.tmps x).mono (fun _ _ => rfl) hS (fun _ _ _ h => h), h.glo.mono (fun _ _ => rfl) hS (fun _ _ _ h => h), fun s hs => ?_, fun s s' q q' hs hs' hss hq hq' => ?_, fun s e q hq => by rw [he]; exact h.eps s e q hq, h.r0, h.hold, h.holds0, h.yc, ?_, h.y0, h.h0lt⟩
  · obtain ⟨g1, g2, g3, g4⟩ := h0 s hs
    obtain ⟨q, hq, k2, k3, k4, k5⟩ := h.box s g1
    exact ⟨q, by rw [he]; exact hq, by rw [g2]; exact k2, by rw [g3]; exact k3, ⟨k4.1, fun hk => k4.2 (h1 s hk)⟩, by rw [g4]; exact k5.mono rfl (fun _ _ => rfl) hS (fun _ _ _ h => h)⟩
  · rw [he] at hq hq'
    exact h.inj s s' q q' (h1 s hs) (h0 s' hs').1 hss hq hq'
  · rw [cutB_congr (bx := bx) (fun s hs => ?_)]
    · exact h.inv
    · rcases hl s with e1 | ⟨e1, _⟩
      · exact e1
      · omega

/-- An activation (a callee, a round) that runs from here on with the boxes shared. -/
def Ctx.sub (X : Ctx) (ρ : Rho) (bx : Bxs) (w : World) (E : Nat → Prop) (N ml md : Nat) : Ctx :=
  { w0 := w, S0 := X.S0, n0 := X.n0, M := fun b => ∃ t p, (bx t).k = 1 ∧ ρ t (bx t).ep = some p ∧ p.b = b, E := E, N := N, r0 := ρ, ml := ml, lo := 0, Y := fun _ _ => True, md := md }

theorem Stab_sub (X : Ctx) (ρ ρ' : Rho) (bx bx' : Bxs) (w w' : World) (E : Nat → Prop) (N ml md : Nat) : Stab (X.sub ρ bx w E N ml md) ρ' bx' w' = Stab X ρ' bx' w' := rfl

theorem Sim.sub (h : Sim X ρ σ bx a w) {E : Nat → Prop} {N ml md : Nat} {σ' : Env} {a' : Act} (hN : N ≤ dfS) (hE : ∀ b, E b → ∀ o, w.heap[b]? = some o → Obj.isC o = false) (hs : a'.tmps.size = N) (hm : Mk w (Stab X ρ bx w) ρ md ml (σ' dfS) a'.defers) (hmk : ml ≤ w.heap.size)
    (ht : ∀ t, Rep w (Stab X ρ bx w) ρ (σ' t) (a'.tmps.getD t undef)) : Sim (X.sub ρ bx w E N ml md) ρ σ' bx a' w := by
  refine ⟨.refl _ _, h.s0, Nat.le_trans h.nb h.fr.size, ?_, hE, hs, hm, hN, hmk, ht, h.glo, fun t hk => ?_, h.inj, h.eps, fun _ _ _ h => h, h.hold, fun _ _ h _ => h, fun _ _ _ _ _ => trivial, trivial, fun _ _ _ => trivial, fun b o ho => (Array.getElem?_eq_some_iff.1 (h.hold b o ho).1).1⟩
  · rintro b ⟨t, p, hk, hp, rfl⟩
    obtain ⟨p', hp', _, _, hb, _⟩ := h.box t (by rw [hk]; decide)
    rw [hp] at hp'; injection hp' with hp'; subst hp'
    exact hb.1
  · obtain ⟨p, hp, h2, h3, hb, hh⟩ := h.box t hk
    exact ⟨p, hp, h2, h3, ⟨hb.1, fun hk1 => .inr ⟨t, p, hk1, hp, rfl⟩⟩, hh⟩

/-- Behind it, an activation that waited goes on. -/
theorem Sim.back {X' : Ctx} {ρ2 : Rho} {σ' : Env} {bx2 : Bxs} {a' : Act} {w2 : World} {E : Nat → Prop} {N ml md : Nat} (h : Sim X' ρ σ bx a w) (hS : X'.S0 = X.S0) (hn : X'.n0 = X.n0) (k : Sim (X.sub ρ bx w E N ml md) ρ2 σ' bx2 a' w2)
    (hE : ∀ b, E b → X'.E b ∨ X'.w0.heap.size ≤ b) (hd : ∀ b, E b → ρ.hold b ≠ some (.deferred (some []))) (h0 : ∀ b, E b → X'.r0.hold b = none ∨ X'.E b) (hY : X'.Y (cutB X'.lo bx2) ρ2.hold) : Sim X' ρ2 σ bx2 a w2 := by
  have hst : ∀ ρ' bx' w', Stab X' ρ' bx' w' = Stab (X.sub ρ bx w E N ml md) ρ' bx' w' := fun ρ' bx' w' => by
    funext b; simp only [Stab, Ctx.sub, hS, hn]
  have hlive : ∀ b, Stab X' ρ bx w b → ¬ (X.sub ρ bx w E N ml md).M b := by
    rintro b hb ⟨t, p, hk, hp, rfl⟩
    exact hb.2.2 t hk p hp rfl
  have hw : ∀ b, Stab X' ρ bx w b → SameC w w2 b := by
    intro b hb o ho hc
    refine (k.fr.block b hb.1 (fun hm => ?_)).trans ho
    rcases hm with hm | hm
    · exact hlive b hb hm
    · have := k.ec b hm o ho
      rw [hc] at this; cases this
  have hSt : ∀ b, Stab X' ρ bx w b → Stab X' ρ2 bx2 w2 b := by
    intro b hb
    refine ⟨Nat.lt_of_lt_of_le hb.1 k.fr.size, hb.2.1, fun t ht p hp e => ?_⟩
    obtain ⟨p', hp', _, _, hpb, _⟩ := k.box t (by rw [ht]; decide)
    rw [hp] at hp'; injection hp' with hp'; subst hp'
    rcases hpb.2 ht with h1 | h1
    · have := hb.1; simp only [Ctx.sub] at h1; omega
    · exact hlive b hb (e ▸ h1)
  refine ⟨h.fr.step k.fr (fun n hnl hm => ?_), h.s0, h.nb, h.mb, h.ec, h.size, h.marks.monoC hw hSt k.r0 (fun r _ hr => k.holds0 r _ hr (fun he => hd r he hr)), h.nle, h.mkb, fun t => (h.tmps t).monoC hw hSt k.r0, h.glo.monoC hw hSt k.r0, fun t hk => ?_, k.inj, k.eps, fun t e p hp => k.r0 t e p (h.r0 t e p hp), k.hold, fun b o ho hnE => ?_, h.yc, hY, h.y0, h.h0lt⟩
  · rcases hm with ⟨t, p, hk, hp, rfl⟩ | hm
    · obtain ⟨p', hp', _, _, hpb, _⟩ := h.box t (by rw [hk]; decide)
      rw [hp] at hp'; injection hp' with hp'; subst hp'
      rcases hpb.2 hk with h1 | h1
      · omega
      · exact .inl h1
    · rcases hE n hm with h1 | h1
      · exact .inr h1
      · omega
  · obtain ⟨p, hp, h2, h3, hpb, hh⟩ := k.box t hk
    refine ⟨p, hp, h2, h3, ⟨by rw [hn]; exact hpb.1, fun hk1 => ?_⟩, by rw [hst]; exact hh⟩
    rcases hpb.2 hk1 with h1 | ⟨s, q, hs, hq, e⟩
    · exact .inl (Nat.le_trans h.fr.size h1)
    · obtain ⟨q', hq', _, _, hqb, _⟩ := h.box s (by rw [hs]; decide)
      rw [hq] at hq'; injection hq' with hq'; subst hq'
      rw [← e]; exact hqb.2 hs
  · refine k.holds0 b o (h.holds0 b o ho hnE) (fun he => ?_)
    rcases h0 b he with h1 | h1
    · rw [ho] at h1; cases h1
    · exact hnE h1

/-- A block without cells turns, of those that may. -/
theorem Sim.setHold {b : Nat} {o o' : Obj} (h : Sim X ρ σ bx a w) (hb : ρ.hold b = some o) (hE : X.E b ∨ X.w0.heap.size ≤ b) (h0 : X.r0.hold b = none ∨ X.E b) (hd : o ≠ .deferred (some [])) (ho : Obj.isC o' = false) {w' : World} (hw : Fr (fun k => k = b) w w') (hw' : w'.heap[b]? = some o') (hY : X.Y (cutB X.lo bx) (fun k => if k = b then some o' else ρ.hold k)) :
    Sim X ⟨ρ.at_, fun k => if k = b then some o' else ρ.hold k⟩ σ bx a w' := by
  obtain ⟨g1, g2⟩ := h.hold b o hb
  have hsame : ∀ k, SameC w w' k := by
    intro k o1 ho1 hc
    refine (hw.block k (Array.getElem?_eq_some_iff.1 ho1).1 (fun e => ?_)).trans ho1
    subst e
    rw [g1] at ho1; injection ho1 with ho1; subst ho1
    rw [g2] at hc; cases hc
  have hS : ∀ k, Stab X ρ bx w k → Stab X ⟨ρ.at_, fun k => if k = b then some o' else ρ.hold k⟩ bx w' k := fun k hk => ⟨Nat.lt_of_lt_of_le hk.1 hw.size, hk.2.1, hk.2.2⟩
  refine ⟨h.fr.step hw (fun n hn hm => ?_), h.s0, h.nb, h.mb, h.ec, h.size, h.marks.monoC (fun k _ => hsame k) hS (fun _ _ _ h => h) (fun r _ hr => ?_), h.nle, h.mkb, fun t => (h.tmps t).monoC (fun k _ => hsame k) hS (fun _ _ _ h => h), h.glo.monoC (fun k _ => hsame k) hS (fun _ _ _ h => h), fun t hk => ?_, h.inj, h.eps, h.r0, fun k o1 ho1 => ?_, fun k o1 ho1 hnE => ?_, h.yc, hY, h.y0, h.h0lt⟩
  · subst hm
    rcases hE with h1 | h1
    · exact .inr h1
    · omega
  · show (if r = b then some o' else ρ.hold r) = _
    rw [if_neg]
    · exact hr
    · intro e; subst e; rw [hb] at hr; injection hr with hr; exact hd hr
  · obtain ⟨p, hp, h2, h3, h4, h5⟩ := h.box t hk
    exact ⟨p, hp, h2, h3, h4, h5.monoC (hsame _) (fun k _ => hsame k) hS (fun _ _ _ h => h)⟩
  · by_cases e : k = b
    · subst e
      simp only [if_true, Option.some.injEq] at ho1
      subst ho1
      exact ⟨hw', ho⟩
    · simp only [e, if_false] at ho1
      obtain ⟨k1, k2⟩ := h.hold k o1 ho1
      exact ⟨(hw.block k (Array.getElem?_eq_some_iff.1 k1).1 e).trans k1, k2⟩
  · show (if k = b then some o' else ρ.hold k) = _
    by_cases e : k = b
    · subst e
      rcases h0 with h1 | h1
      · rw [ho1] at h1; cases h1
      · exact absurd h1 hnE
    · rw [if_neg e]; exact h.holds0 k o1 ho1 hnE

/-- A new block without cells. -/
theorem Sim.newHold {o : Obj} (h : Sim X ρ σ bx a w) (ho : Obj.isC o = false) : Sim X ⟨ρ.at_, fun k => if k = w.heap.size then some o else ρ.hold k⟩ σ bx a (w.alloc o) := by
  have hx := h.ext ((Below.refl w.heap.size w).alloc (Nat.le_refl _) o)
  have hlt : ∀ k o1, ρ.hold k = some o1 → k ≠ w.heap.size := fun k o1 h1 e => by
    have := (Array.getElem?_eq_some_iff.1 (h.hold k o1 h1).1).1
    omega
  have hsame : ∀ k o1, ρ.hold k = some o1 → (if k = w.heap.size then some o else ρ.hold k) = some o1 := fun k o1 h1 => by rw [if_neg (hlt k o1 h1)]; exact h1
  refine ⟨hx.fr, hx.s0, hx.nb, hx.mb, hx.ec, hx.size, hx.marks.mono (fun _ _ => rfl) (fun _ h => h) (fun _ _ _ h => h) (fun r hr => hsame r _ hr), hx.nle, hx.mkb, fun t => (hx.tmps t).mono (fun _ _ => rfl) (fun _ h => h) (fun _ _ _ h => h), hx.glo.mono (fun _ _ => rfl) (fun _ h => h) (fun _ _ _ h => h), fun t hk => ?_, hx.inj, hx.eps, hx.r0, fun k o1 ho1 => ?_, fun k o1 ho1 hnE => hsame k o1 (h.holds0 k o1 ho1 hnE), h.yc, h.yc _ _ _ h.inv hsame, h.y0, h.h0lt⟩
  · obtain ⟨p, hp, h2, h3, h4, h5⟩ := hx.box t hk
    exact ⟨p, hp, h2, h3, h4, h5.mono rfl (fun _ _ => rfl) (fun _ h => h) (fun _ _ _ h => h)⟩
  · by_cases e : k = w.heap.size
    · subst e
      simp only [if_true, Option.some.injEq] at ho1
      subst ho1
      exact ⟨heap_alloc_new w o, ho⟩
    · simp only [e, if_false] at ho1
      exact hx.hold k o1 ho1

/-- Another frame in the same place. -/
theorem Sim.switch {σ' : Env} {a' : Act} (h : Sim X ρ σ bx a w) (hs : a'.tmps.size = X.N) (hm : Mk w (Stab X ρ bx w) ρ X.md X.ml (σ' dfS) a'.defers) (ht : ∀ t, Rep w (Stab X ρ bx w) ρ (σ' t) (a'.tmps.getD t undef)) : Sim X ρ σ' bx a' w :=
  { h with size := hs, marks := hm, tmps := ht }

theorem Defs.mem {S : Nat → Prop} {m : Nat} {l : List D} {ds : List Deferred} (h : Defs w S ρ m l ds) : ∀ r, markOf r ∈ ds → ρ.hold r = some (.deferred (some [])) := by
  induction h with
  | nil => intro r hr; simp at hr
  | @mark l r0 ds h0 hm hn _ ih =>
    intro r hr
    rcases List.mem_cons.1 hr with e | hr
    · have : r = r0 := by simp only [markOf, Deferred.mk.injEq, Target.collected.injEq] at e; exact e.1
      subst this; exact h0
    · exact ih r hr
  | call _ _ _ _ _ ih =>
    intro r hr
    rcases List.mem_cons.1 hr with e | hr
    · simp [markOf] at e
    · exact ih r hr

/-- A mark is taken. -/
theorem Sim.take2 {r : Nat} {ds : List Deferred} (h : Sim X ρ σ bx a w) (hd : a.defers = markOf r :: ds) (hmk : X.ml = X.w0.heap.size) (hmd : X.md ≠ 1) {w' : World} (hw : Fr (fun k => k = r) w w') (hw' : w'.heap[r]? = some (.deferred none)) (hlo : X.lo = 0) :
    ∃ ρ', Sim X ρ' σ bx { a with defers := ds } w' ∧ (∀ b o, ρ.hold b = some o → o ≠ .deferred (some []) → ρ'.hold b = some o) ∧ ∀ d v, Rep w (Stab X ρ bx w) ρ d v → Rep w' (Stab X ρ' bx w') ρ' d v := by
  obtain ⟨l, hl, hm⟩ : ∃ l, (l = if X.md = 0 then [] else recD (σ dfS)) ∧ Defs w (Stab X ρ bx w) ρ X.ml l (markOf r :: ds) := by
    have hm := h.marks
    rw [hd] at hm
    exact ⟨_, rfl, (hm.resolve_left hmd).1⟩
  have hm3 : X.md ≠ 3 := by
    intro h3
    have := (h.marks.resolve_left hmd).2 h3
    rw [hd] at this; cases this
  have hh := hm.mem r (List.mem_cons_self ..)
  obtain ⟨hge, hn, hm2⟩ : X.ml ≤ r ∧ markOf r ∉ ds ∧ Defs w (Stab X ρ bx w) ρ X.ml l ds := by
    generalize hx : markOf r :: ds = dd at hm
    cases hm with
    | nil => cases hx
    | @mark _ q _ h1 h2 h3 h4 =>
      injection hx with e1 e2
      have : r = q := by simp only [markOf, Deferred.mk.injEq, Target.collected.injEq] at e1; exact e1.1
      subst this; subst e2
      exact ⟨h2, h3, h4⟩
    | call => injection hx with e1 e2; simp [markOf] at e1
  obtain ⟨g1, g2⟩ := h.hold r _ hh
  have hsame : ∀ k, SameC w w' k := by
    intro k o1 ho1 hc
    refine (hw.block k (Array.getElem?_eq_some_iff.1 ho1).1 (fun e => ?_)).trans ho1
    subst e
    rw [g1] at ho1; injection ho1 with ho1; subst ho1
    rw [g2] at hc; cases hc
  have hS : ∀ k, Stab X ρ bx w k → Stab X ⟨ρ.at_, fun k => if k = r then some (.deferred none) else ρ.hold k⟩ bx w' k := fun k hk => ⟨Nat.lt_of_lt_of_le hk.1 hw.size, hk.2.1, hk.2.2⟩
  have hmarks : Mk w' (Stab X ⟨ρ.at_, fun k => if k = r then some (.deferred none) else ρ.hold k⟩ bx w') ⟨ρ.at_, fun k => if k = r then some (.deferred none) else ρ.hold k⟩ X.md X.ml (σ dfS) ds := by
    refine .inr ⟨?_, fun h3 => absurd h3 hm3⟩
    rw [← hl]
    refine hm2.monoC (fun k _ => hsame k) hS (fun _ _ _ h => h) fun q hq hq0 => ?_
    show (if q = r then some (.deferred none) else ρ.hold q) = _
    rw [if_neg]
    · exact hq0
    · rintro rfl; exact hn hq
  refine ⟨⟨ρ.at_, fun k => if k = r then some (.deferred none) else ρ.hold k⟩, ⟨h.fr.step hw (fun n hn hm => ?_), h.s0, h.nb, h.mb, h.ec, h.size, hmarks, h.nle, h.mkb, fun t => (h.tmps t).monoC (fun k _ => hsame k) hS (fun _ _ _ h => h), h.glo.monoC (fun k _ => hsame k) hS (fun _ _ _ h => h), fun t hk => ?_, h.inj, h.eps, h.r0, fun k o1 ho1 => ?_, fun k o1 ho1 hnE => ?_, h.yc, h.y0 hlo _ _, h.y0, h.h0lt⟩, fun b o ho hno => ?_, fun d v hr => hr.monoC (fun k _ => hsame k) hS (fun _ _ _ h => h)⟩
  · subst hm; omega
  · obtain ⟨p, hp, h2, h3, h4, h5⟩ := h.box t hk
    exact ⟨p, hp, h2, h3, h4, h5.monoC (hsame _) (fun k _ => hsame k) hS (fun _ _ _ h => h)⟩
  · by_cases e : k = r
    · subst e
      simp only [if_true, Option.some.injEq] at ho1
      subst ho1
      exact ⟨hw', rfl⟩
    · simp only [e, if_false] at ho1
      obtain ⟨k1, k2⟩ := h.hold k o1 ho1
      exact ⟨(hw.block k (Array.getElem?_eq_some_iff.1 k1).1 e).trans k1, k2⟩
  · show (if k = r then some (.deferred none) else ρ.hold k) = _
    rw [if_neg]
    · exact h.holds0 k o1 ho1 hnE
    · intro e; subst e
      have := h.h0lt k o1 ho1
      omega
  · show (if b = r then some (.deferred none) else ρ.hold b) = _
    rw [if_neg]
    · exact ho
    · intro e; subst e
      rw [hh] at ho; injection ho with ho; exact hno ho.symm

theorem Sim.take {r : Nat} {ds : List Deferred} (h : Sim X ρ σ bx a w) (hd : a.defers = markOf r :: ds) (hmk : X.ml = X.w0.heap.size) (hmd : X.md ≠ 1) {w' : World} (hw : Fr (fun k => k = r) w w') (hw' : w'.heap[r]? = some (.deferred none)) (hlo : X.lo = 0) :
    ∃ ρ', Sim X ρ' σ bx { a with defers := ds } w' ∧ ∀ b o, ρ.hold b = some o → o ≠ .deferred (some []) → ρ'.hold b = some o :=
  let ⟨ρ', h1, h2, _⟩ := h.take2 hd hmk hmd hw hw' hlo
  ⟨ρ', h1, h2⟩

end Go.V
