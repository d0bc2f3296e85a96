/-
  A variable that a call has left gets another name: so that what was made under the callee's slots lasts under the caller's.
-/
import Derived.Test.YtbnniokcdilpgaaDoorVx
namespace Go.V
open Go.RowKit
set_option linter.unusedVariables false
set_option linter.unusedSimpArgs false

mutual
/-- s, e is called s', e' -/
def renD (s e s' e' : Nat) : D → D
  | .loc t k i j => if t = s ∧ k = e then .loc s' e' i j else .loc t k i j
  | .osl t k sz o n => if t = s ∧ k = e then .osl s' e' sz o n else .osl t k sz o n
  | .agg ds => .agg (renL s e s' e' ds)
  | .tup ds => .tup (renL s e s' e' ds)
  | .fn f ds => .fn f (renL s e s' e' ds)
  | .ifc t d => .ifc t (renD s e s' e' d)
  | d => d
def renL (s e s' e' : Nat) : List D → List D
  | [] => []
  | d :: ds => renD s e s' e' d :: renL s e s' e' ds
end
section
variable (s e s' e' : Nat)
theorem renL_map : ∀ ds : List D, renL s e s' e' ds = ds.map (renD s e s' e')
  | [] => by simp [renL]
  | d :: ds => by simp [renL, renL_map ds]
theorem ren_one (d : D) : (renD s e s' e' d).one = d.one := by
  cases d <;> simp only [renD] <;> (try split) <;> rfl
theorem ren_cells (d : D) : (renD s e s' e' d).cells = d.cells.map (renD s e s' e') := by
  cases d with
  | agg ds => simp only [renD, D.cells, renL_map]
  | loc t k i j => simp only [D.cells, List.map_cons, List.map_nil]; by_cases h : t = s ∧ k = e <;> simp [renD, h]
  | osl t k sz o n => simp only [D.cells, List.map_cons, List.map_nil]; by_cases h : t = s ∧ k = e <;> simp [renD, h]
  | _ => simp [renD, D.cells]
end
variable {P : Program} {X : Ctx} {ρ ρ' : Rho} {σ : Env} {bx : Bxs} {a : Act} {w : World} {s e s' e' : Nat} {S : Nat → Prop} {d : D} {v : Value}
theorem PRep.ren (h : PRep w S d v) : renD s e s' e' d = d := by
  have hL : ∀ (ds : List D) (vs : Array Value), vs.size = ds.length → (∀ (i : Nat) d v, ds[i]? = some d → vs[i]? = some v → renD s e s' e' d = d) → renL s e s' e' ds = ds := by
    intro ds vs hl h
    rw [renL_map]
    refine List.ext_getElem? fun i => ?_
    rw [List.getElem?_map]
    cases hd : ds[i]? with
    | none => rfl
    | some d =>
      have hi : i < vs.size := by have := (List.getElem?_eq_some_iff.1 hd).1; omega
      rw [Option.map_some, h i d vs[i] hd (Array.getElem?_eq_getElem hi)]
  induction h with
  | agg hl _ ih => simp only [renD, hL _ _ hl ih]
  | tup hl _ ih => simp only [renD, hL _ _ hl ih]
  | fn hl _ ih => simp only [renD, hL _ _ hl ih]
  | ifc _ ih => simp only [renD, ih]
  | _ => simp only [renD]
theorem Rep.ren (h : Rep w S ρ d v) (h1 : ∀ t k p, ρ t k = some p → ρ' t k = some p) (h2 : ∀ p, ρ s e = some p → ρ' s' e' = some p) : Rep w S ρ' (renD s e s' e' d) v := by
  have hL : ∀ (ds : List D) (vs : Array Value), vs.size = ds.length → (∀ (i : Nat) d v, ds[i]? = some d → vs[i]? = some v → Rep w S ρ' (renD s e s' e' d) v) → vs.size = (renL s e s' e' ds).length ∧ ∀ (i : Nat) d v, (renL s e s' e' ds)[i]? = some d → vs[i]? = some v → Rep w S ρ' d v := by
    intro ds vs hl h
    rw [renL_map]
    refine ⟨by simpa using hl, fun i d v hd hv => ?_⟩
    rw [List.getElem?_map, Option.map_eq_some_iff] at hd
    obtain ⟨d0, hd0, rfl⟩ := hd
    exact h i d0 v hd0 hv
  induction h with
  | pure h => rw [h.ren]; exact .pure h
  | @loc t k i j q p hp hq =>
    simp only [renD]
    split
    · rename_i hc; obtain ⟨rfl, rfl⟩ := hc; exact .loc (h2 _ hp) hq
    · exact .loc (h1 _ _ _ hp) hq
  | @osl t k sz o n off cap p hp hsz h0 hoff hn hcap =>
    simp only [renD]
    split
    · rename_i hc; obtain ⟨rfl, rfl⟩ := hc; exact .osl (h2 _ hp) hsz h0 hoff hn hcap
    · exact .osl (h1 _ _ _ hp) hsz h0 hoff hn hcap
  | agg hl _ ih => simp only [renD]; exact .agg (hL _ _ hl ih).1 (hL _ _ hl ih).2
  | tup hl _ ih => simp only [renD]; exact .tup (hL _ _ hl ih).1 (hL _ _ hl ih).2
  | fn hl _ ih => simp only [renD]; exact .fn (hL _ _ hl ih).1 (hL _ _ hl ih).2
  | ifc _ ih => simp only [renD]; exact .ifc ih

/-- The variables behind it: s' in s's place; what the chosen ones hold is named anew. -/
def renB (s s' : Nat) (sel : Nat → Bool) (bx : Bxs) : Bxs := fun t =>
  if t = s' then ⟨(bx s').ep + 1, 1, (bx s).sz, (bx s).ty, (bx s).es⟩ else if t = s then { bx s with k := 0 }
  else if sel t then { bx t with es := (bx t).es.map (renD s (bx s).ep s' ((bx s').ep + 1)) } else bx t

theorem Holds.ren {p : Place} {es : List D} (h : Holds w S ρ p es) (h1 : ∀ t k p, ρ t k = some p → ρ' t k = some p) (h2 : ∀ p, ρ s e = some p → ρ' s' e' = some p) : Holds w S ρ' p (es.map (renD s e s' e')) := by
  obtain ⟨⟨cur, hc, hs, us, hu⟩, hl, hm, hz⟩ := h
  refine ⟨⟨cur, hc, hs, us, fun i d j c hi hj => ?_⟩, by simpa using hl, hm, fun i d hi => ?_⟩
  · rw [List.getElem?_map, Option.map_eq_some_iff] at hi
    obtain ⟨d0, hi, rfl⟩ := hi
    rw [ren_cells, List.getElem?_map, Option.map_eq_some_iff] at hj
    obtain ⟨c0, hj, rfl⟩ := hj
    obtain ⟨g1, g2, g3⟩ := hu i d0 j c0 hi hj
    exact ⟨g1, g2.ren h1 h2, g3⟩
  · rw [List.getElem?_map, Option.map_eq_some_iff] at hi
    obtain ⟨d0, hi, rfl⟩ := hi
    rw [ren_cells, List.length_map]
    exact hz i d0 hi

theorem Sim.rename (h : Sim X ρ σ bx a w) (hlo : X.lo = 0) (hne : s ≠ s') (hk : (bx s).k = 1) (hk' : (bx s').k = 0) (sel : Nat → Bool) :
    ∃ ρ', Sim X ρ' σ (renB s s' sel bx) a w ∧ (∀ d v, Rep w (Stab X ρ bx w) ρ d v → Rep w (Stab X ρ' (renB s s' sel bx) w) ρ' d v) := by
  have hρ : ∀ t k p, ρ t k = some p → (if t = s' ∧ k = (bx s').ep + 1 then ρ s (bx s).ep else ρ t k) = some p := by
    intro t k p hp
    rw [if_neg]
    · exact hp
    · rintro ⟨rfl, rfl⟩
      have := h.eps _ _ _ hp
      omega
  have hR : ∀ p, ρ s (bx s).ep = some p → (if s' = s' ∧ (bx s').ep + 1 = (bx s').ep + 1 then ρ s (bx s).ep else ρ s' ((bx s').ep + 1)) = some p := fun p hp => by simpa using hp
  have live : ∀ t, t ≠ s' → (renB s s' sel bx t).k ≠ 0 → t ≠ s ∧ (renB s s' sel bx t).k = (bx t).k ∧ (renB s s' sel bx t).ep = (bx t).ep ∧ (renB s s' sel bx t).sz = (bx t).sz ∧ (renB s s' sel bx t).ty = (bx t).ty := by
    intro t ht hk
    unfold renB at hk ⊢
    simp only [ht, if_false] at hk ⊢
    by_cases hs : t = s
    · subst hs; simp at hk
    · simp only [hs, if_false] at hk ⊢
      split <;> exact ⟨hs, rfl, rfl, rfl, rfl⟩
  have at' : renB s s' sel bx s' = ⟨(bx s').ep + 1, 1, (bx s).sz, (bx s).ty, (bx s).es⟩ := by simp [renB]
  refine ⟨⟨fun t k => if t = s' ∧ k = (bx s').ep + 1 then ρ s (bx s).ep else ρ t k, ρ.hold⟩, ?_⟩
  have hS : ∀ b, Stab X ρ bx w b → Stab X ⟨fun t k => if t = s' ∧ k = (bx s').ep + 1 then ρ s (bx s).ep else ρ t k, ρ.hold⟩ (renB s s' sel bx) w b := by
    intro b hb
    refine ⟨hb.1, hb.2.1, fun t ht p hp => ?_⟩
    by_cases hts : t = s'
    · subst hts
      rw [at'] at hp
      simp only [and_self, if_true] at hp
      exact hb.2.2 s hk p hp
    · obtain ⟨_, g1, g2, _⟩ := live t hts (by rw [ht]; decide)
      rw [g1] at ht
      rw [g2] at hp
      simp only [hts, false_and, if_false] at hp
      exact hb.2.2 t ht p hp
  have hD : ∀ d v, Rep w (Stab X ρ bx w) ρ d v → Rep w (Stab X ⟨fun t k => if t = s' ∧ k = (bx s').ep + 1 then ρ s (bx s).ep else ρ t k, ρ.hold⟩ (renB s s' sel bx) w) ⟨fun t k => if t = s' ∧ k = (bx s').ep + 1 then ρ s (bx s).ep else ρ t k, ρ.hold⟩ d v :=
    fun d v hr => hr.mono (fun _ _ => rfl) hS hρ
  refine ⟨⟨h.fr, h.s0, h.nb, h.mb, h.ec, h.size, h.marks.mono (fun _ _ => rfl) hS hρ (fun _ h => h), h.nle, h.mkb, fun t => hD _ _ (h.tmps t), hD _ _ h.glo, fun t ht => ?_, fun t t' p p' ht ht' htt hp hp' => ?_, fun t k p hp => ?_, fun t k p hp => hρ t k p (h.r0 t k p hp), h.hold, h.holds0, h.yc, h.y0 hlo _ _, h.y0, h.h0lt⟩, hD⟩
  · by_cases hts : t = s'
    · subst hts
      obtain ⟨p, hp, h2, h3, h4, h5⟩ := h.box s (by rw [hk]; decide)
      rw [at']
      exact ⟨p, by simpa using hp, h2, h3, ⟨h4.1, fun _ => h4.2 hk⟩, h5.mono rfl (fun _ _ => rfl) hS hρ⟩
    · obtain ⟨g0, g1, g2, g3, g4⟩ := live t hts ht
      obtain ⟨p, hp, h2, h3, h4, h5⟩ := h.box t (by rw [← g1]; exact ht)
      refine ⟨p, ?_, h2.trans g3.symm, h3.trans g4.symm, ⟨h4.1, fun hk1 => h4.2 (g1 ▸ hk1)⟩, ?_⟩
      · rw [g2]; simp only [hts, false_and, if_false]; exact hp
      · have h6 := h5.mono (w' := w) rfl (fun _ _ => rfl) hS (ρ' := ρ) (fun _ _ _ h => h)
        unfold renB
        simp only [hts, g0, if_false]
        split
        · exact h6.ren hρ hR
        · exact h6.mono rfl (fun _ _ => rfl) (fun _ h => h) hρ
  · by_cases hts : t = s'
    · subst hts
      obtain ⟨g0, g1, g2, _⟩ := live t' (Ne.symm htt) ht'
      rw [at'] at hp
      rw [g2] at hp'
      simp only [and_self, if_true] at hp
      simp only [Ne.symm htt, false_and, if_false] at hp'
      exact h.inj s t' p p' hk (by rw [← g1]; exact ht') (Ne.symm g0) hp hp'
    · obtain ⟨g0, g1, g2, _⟩ := live t hts (by rw [ht]; decide)
      rw [g2] at hp
      simp only [hts, false_and, if_false] at hp
      by_cases hts' : t' = s'
      · subst hts'
        rw [at'] at hp'
        simp only [and_self, if_true] at hp'
        exact h.inj t s p p' (by rw [← g1]; exact ht) (by rw [hk]; decide) g0 hp hp'
      · obtain ⟨k0, k1, k2, _⟩ := live t' hts' ht'
        rw [k2] at hp'
        simp only [hts', false_and, if_false] at hp'
        exact h.inj t t' p p' (by rw [← g1]; exact ht) (by rw [← k1]; exact ht') htt hp hp'
  · by_cases hts : t = s'
    · subst hts
      rw [at']
      simp only [true_and] at hp
      split at hp
      · rename_i hk0; rw [hk0]; exact Nat.le_refl _
      · have := h.eps _ _ _ hp; simp only; omega
    · simp only [hts, false_and, if_false] at hp
      have := h.eps _ _ _ hp
      unfold renB
      simp only [hts, if_false]
      split
      · rename_i hs; subst hs; exact this
      · split <;> exact this

/-- The contract's end, and one variable named anew. -/
theorem CallsB.ren {f : FuncId} {base : Nat} {ds : List D} {Q Q' Qp : D → Bxs → Prop} (h : CallsB P f base ds bx Q Qp)
    (hq : ∀ d bx', Q d bx' → Q' d bx' ∨ ∃ s s' sel, s ≠ s' ∧ (bx' s).k = 1 ∧ (bx' s').k = 0 ∧ Q' d (renB s s' sel bx')) : CallsB P f base ds bx Q' Qp := by
  intro X ρ σ a w vs hS hlo hl hv
  have fin : ∀ v w', (∃ d bx' ρ', Q d bx' ∧ Sim X ρ' σ bx' a w' ∧ Rep w' (Stab X ρ' bx' w') ρ' d v) → ∃ d bx' ρ', Q' d bx' ∧ Sim X ρ' σ bx' a w' ∧ Rep w' (Stab X ρ' bx' w') ρ' d v := by
    rintro v w' ⟨d, bx', ρ', h1, h2, h3⟩
    rcases hq d bx' h1 with h1 | ⟨s, s', sel, k1, k2, k3, k4⟩
    · exact ⟨d, bx', ρ', h1, h2, h3⟩
    · obtain ⟨ρ2, g1, g2⟩ := h2.rename hlo k1 k2 k3 sel
      exact ⟨d, _, ρ2, k4, g1, g2 d v h3⟩
  exact (h X ρ σ a w vs hS hlo hl hv).mono fin fun _ _ h => h
theorem CallsB.mono {f : FuncId} {base : Nat} {ds : List D} {Q Q' Qp Qp' : D → Bxs → Prop} (h : CallsB P f base ds bx Q Qp) (hq : ∀ d bx', Q d bx' → Q' d bx') (hp : ∀ d bx', Qp d bx' → Qp' d bx') : CallsB P f base ds bx Q' Qp' :=
  fun X ρ σ a w vs hS hlo hl hv => (h X ρ σ a w vs hS hlo hl hv).mono (fun v w' ⟨d, bx', ρ', h1, h2⟩ => ⟨d, bx', ρ', hq _ _ h1, h2⟩) (fun v w' ⟨d, bx', ρ', h1, h2⟩ => ⟨d, bx', ρ', hp _ _ h1, h2⟩)

theorem upd_ne {α : Type} {σ : Nat → α} {t : Nat} {v : α} {x : Nat} (h : x ≠ t) : upd σ t v x = σ x := by simp [upd, h]
theorem cutB_lt {n s : Nat} (h : s < n) : cutB n bx s = bx s := by simp [cutB, h]
theorem OwnV.cut {ts : List Nat} {el esz n : Nat} {x : D} {xs : List D} (h : OwnV bx ts el esz x xs) (hn : ∀ t, t ∈ ts → t < n) : OwnV (cutB n bx) ts el esz x xs := h.of fun t ht => cutB_lt (hn t ht)
theorem OwnV.uncut {ts : List Nat} {el esz n : Nat} {x : D} {xs : List D} (h : OwnV (cutB n bx) ts el esz x xs) (hn : ∀ t, t ∈ ts → t < n) : OwnV bx ts el esz x xs := h.of fun t ht => (cutB_lt (hn t ht)).symm
theorem OwnV.facts {ts : List Nat} {el esz : Nat} {x : D} {xs : List D} (h : OwnV bx ts el esz x xs) : x.cells = [x] ∧ x.one = true ∧ ∀ c, setD x 0 [c] = some c := by
  rcases h with ⟨rfl, rfl⟩ | ⟨t, e, _, rfl, hb⟩ <;> exact ⟨rfl, rfl, fun c => by simp [setD, D.cells]⟩
/-- x is nil, or a slice of one's own in the slot s -/
def OwnS (bx : Bxs) (s el esz : Nat) (x : D) (xs : List D) : Prop :=
  (x = .nilsl ∧ xs = [] ∧ (bx s).k = 0) ∨ ∃ e, x = .osl s e esz 0 xs.length ∧ bx s = ⟨e, 1, esz, el, xs⟩
theorem OwnS.nil {s el esz : Nat} (h : (bx s).k = 0) : OwnS bx s el esz .nilsl [] := .inl ⟨rfl, rfl, h⟩
theorem OwnS.toV {s el esz : Nat} {x : D} {xs : List D} (h : OwnS bx s el esz x xs) : OwnV bx [s] el esz x xs := by
  rcases h with ⟨h1, h2, _⟩ | ⟨e, h1, h2⟩
  · exact .inl ⟨h1, h2⟩
  · exact .inr ⟨s, e, by simp, h1, h2⟩
theorem OwnS.of {bx' : Bxs} {s el esz : Nat} {x : D} {xs : List D} (h : OwnS bx s el esz x xs) (hb : bx' s = bx s) : OwnS bx' s el esz x xs := by
  unfold OwnS; rw [hb]; exact h

/-- append onto a slice of one's own in another slot -/
theorem append_S {lo : Nat} {T : TypeId → TI} {e esz b size d s0 : Nat} {ag ag' : Bool} {z : List D} {x : D} {xs ys : List D} {K2 : D × Bxs → Prop} (hx : OwnS bx s0 e esz x xs) (hne : ys ≠ []) (hz : (T e).zero.length = esz)
    (h1 : (xs.length + ys.length) * b ≤ 140737488355328) (h2 : 0 < esz) (h3 : 0 < b) (hlo : lo ≤ s0) (hd : s0 ≠ d)
    (hk : ∀ (e' : Nat) (bx' : Bxs), bx' d = ⟨e', 1, esz, e, xs ++ ys⟩ → (bx' s0).k = 0 → (∀ s, s ≠ d → s ≠ s0 → bx' s = bx s) → K2 (.osl d e' esz 0 (xs ++ ys).length, bx')) :
    bindD (appendD lo T ⟨.slice e esz b ag, size, ag', z⟩ (some d) bx x ys) K2 := by
  rcases hx with ⟨rfl, rfl, hk0⟩ | ⟨e', rfl, hb⟩
  · simp only [appendD, hne, if_false, hz, if_true, appX]
    rw [if_pos ⟨by simpa using h1, h2, h3⟩, bindD_some]
    have := hk ((bx d).ep + 1) (upd bx d ⟨(bx d).ep + 1, 1, esz, e, ys⟩) (by simp [upd]) (by simp [upd, hd, hk0]) (fun s hs _ => by simp [upd, hs])
    simpa using this
  · simp only [appendD, hne, if_false, hz, if_true, appX, appO, hb]
    rw [if_pos ⟨hlo, trivial, trivial, trivial, trivial, trivial, trivial, Nat.le_refl _, h1, h2, h3⟩, bindD_some]
    have := hk ((bx d).ep + 1) (upd (upd bx s0 ⟨e', 0, esz, e, xs⟩) d ⟨(bx d).ep + 1, 1, esz, e, xs ++ ys⟩) (by simp [upd]) (by simp [upd, hd]) (fun s hs hst => by simp [upd, hs, hst])
    simpa using this
/-- What a slice of one's own comes to. -/
theorem OwnV.out {ts : List Nat} {el esz : Nat} {x : D} {xs : List D} (h : OwnV bx ts el esz x xs) (hp : D.pureL xs = true) : ∃ r, outD bx x = some r ∧ Weak r (.sl esz xs) := by
  rcases h with ⟨rfl, rfl⟩ | ⟨t, e, _, rfl, hb⟩
  · exact ⟨_, outD_nilsl, .nil _⟩
  · exact ⟨_, by rw [outD_osl, hb]; exact outB_all _ _ _ _ _ _ (by decide) rfl hp, .refl _⟩
/-- The contract of what says more holds of what says less of its arguments. -/
theorem CallsTo.weak {f : FuncId} {ds ds' : List D} {d : D} (h : CallsTo P f ds d) (hl : ds'.length = ds.length) (hw : ∀ (i : Nat) x x', ds'[i]? = some x → ds[i]? = some x' → Weak x x') : CallsTo P f ds' d := by
  intro w S vs hS hg hn hv
  refine h w S vs hS hg (hn.trans hl) fun i x v hx hv' => ?_
  have hi : i < ds'.length := by rw [hl]; exact (List.getElem?_eq_some_iff.1 hx).1
  exact Rep.weak (hw i _ x (List.getElem?_eq_getElem hi) hx) (hv i _ v (List.getElem?_eq_getElem hi) hv')
theorem CallsTo.weak1 {f : FuncId} {x x' : D} {d : D} (h : CallsTo P f [x'] d) (hw : Weak x x') : CallsTo P f [x] d := by
  refine h.weak rfl fun i a b ha hb => ?_
  match i with
  | 0 => simp at ha hb; subst ha; subst hb; exact hw
  | i + 1 => simp at ha
theorem CallsTo.weak2 {f : FuncId} {x x' y y' : D} {d : D} (h : CallsTo P f [x', y'] d) (hw : Weak x x') (hw2 : Weak y y') : CallsTo P f [x, y] d := by
  refine h.weak rfl fun i a b ha hb => ?_
  match i with
  | 0 => simp at ha hb; subst ha; subst hb; exact hw
  | 1 => simp at ha hb; subst ha; subst hb; exact hw2
  | i + 2 => simp at ha
/-- append of any number onto a slice of one's own whose variable is the step's own slot -/
theorem append_all {lo : Nat} {T : TypeId → TI} {e esz b size d : Nat} {ag ag' : Bool} {z : List D} {x : D} {xs ys : List D} {K2 : D × Bxs → Prop} (hx : OwnV bx [d] e esz x xs) (hz : (T e).zero.length = esz)
    (h1 : (xs.length + ys.length) * b ≤ 140737488355328) (h2 : 0 < esz) (h3 : 0 < b) (hlo : lo ≤ d)
    (hk : ∀ x' bx', OwnV bx' [d] e esz x' (xs ++ ys) → (∀ s, s ≠ d → bx' s = bx s) → K2 (x', bx')) :
    bindD (appendD lo T ⟨.slice e esz b ag, size, ag', z⟩ (some d) bx x ys) K2 := by
  by_cases hy : ys = []
  · subst hy
    exact append_none hx (hk _ _ (by simpa using hx) fun _ _ => rfl)
  · refine append_own hx hy hz h1 h2 h3 (fun t ht => by simp at ht; subst ht; exact hlo) fun e' bx' hb hf => hk _ _ ?_ fun s hs => hf s hs (by simpa using hs)
    exact OwnV.mk (by simp) hb
theorem weak_tup2 {a b a' b' : D} (h1 : Weak a a') (h2 : Weak b b') : Weak (.tup [a, b]) (.tup [a', b']) := by
  refine .tup rfl fun i x x' hx hx' => ?_
  match i with
  | 0 => simp at hx hx'; subst hx; subst hx'; exact h1
  | 1 => simp at hx hx'; subst hx; subst hx'; exact h2
  | i + 2 => simp at hx

end Go.V
