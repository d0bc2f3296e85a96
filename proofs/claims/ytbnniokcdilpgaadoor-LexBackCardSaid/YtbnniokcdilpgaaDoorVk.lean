/-
  Calls: the contract of a function on data, and how a call of it stands in for one step.
-/
import Derived.Test.YtbnniokcdilpgaaDoorVj
namespace Go.V
open Go.RowKit
set_option linter.unusedVariables false

/-- What a call leaves: the value that d tells of, in what was given and what is new; nothing of what was there has turned. -/
def Post (w : World) (S : Nat → Prop) (d : D) (v : Value) (w' : World) : Prop :=
  PRep w' (fun b => S b ∨ (w.heap.size ≤ b ∧ b < w'.heap.size)) d v ∧ Below w.heap.size w w'

/-- THE CONTRACT: f, called with data ds, comes to d. -/
def CallsTo (P : Program) (f : FuncId) (ds : List D) (d : D) : Prop :=
  ∀ (w : World) (S : Nat → Prop) (vs : Array Value), (∀ b, S b → b < w.heap.size) → PRep w S .glo undef → vs.size = ds.length → (∀ (i : Nat) x v, ds[i]? = some x → vs[i]? = some v → PRep w S x v) →
    ((callFunc f vs).run P w = .ok (.enter f vs) w ∧ Calls P f vs w (fun e w' => ∃ v, e = .returned v ∧ Post w S d v w')) ∨
    (∃ v w', (callFunc f vs).run P w = .ok (.value v) w' ∧ Post w S d v w')

variable {P : Program} {C : Calc} {X : Ctx} {ρ : Rho} {σ : Env} {bx : Bxs} {a : Act} {w : World}

theorem bareL_mem : ∀ (ds : List D), D.bareL ds = true → ∀ (i : Nat) d, ds[i]? = some d → d.bare = true
  | [], _, i, d, hd => by simp at hd
  | x :: xs, hp, i, d, hd => by
    simp only [D.bareL, Bool.and_eq_true] at hp
    cases i with
    | zero => simp at hd; subst hd; exact hp.1
    | succ i => exact bareL_mem xs hp.2 i d (by simpa using hd)

theorem pureL_mem (ds : List D) (hp : D.pureL ds = true) (i : Nat) (d : D) (hd : ds[i]? = some d) : d.pure = true := pure_mem ds hp d (List.mem_of_getElem? hd)

/-- A datum with no memory behind it stands for its value in any world. -/
theorem PRep.bare {w w' : World} {S S' : Nat → Prop} {d : D} {v : Value} (h : PRep w S d v) (hb : d.bare = true) : PRep w' S' d v := by
  induction h with
  | undef v => simp [D.bare] at hb
  | any ds v => exact .any ds v
  | glo => simp [D.bare] at hb
  | int k n => exact .int k n
  | bool b => exact .bool b
  | str l => exact .str l
  | raw x => exact .raw x
  | nilsl => exact .nilsl
  | agg hl _ ih => exact .agg hl fun i d v hd hv => ih i d v hd hv (bareL_mem _ (by simpa only [D.bare] using hb) i d hd)
  | tup hl _ ih => exact .tup hl fun i d v hd hv => ih i d v hd hv (bareL_mem _ (by simpa only [D.bare] using hb) i d hd)
  | sl => simp [D.bare] at hb
  | cref => simp [D.bare] at hb
  | fn hl _ ih => exact .fn hl fun i d v hd hv => ih i d v hd hv (bareL_mem _ (by simpa only [D.bare] using hb) i d hd)
  | ifc _ ih => exact .ifc (ih (by simpa only [D.bare] using hb))

mutual
/-- The slots that a datum names. -/
def names : D → List Nat
  | .loc t _ _ _ | .osl t _ _ _ _ => [t]
  | .agg ds | .tup ds | .fn _ ds => namesL ds
  | .ifc _ d => names d
  | _ => []
def namesL : List D → List Nat
  | [] => []
  | d :: ds => names d ++ namesL ds
end

/-- frozen -/
def frz (b : Bx) : Bx := { b with k := if b.k = 1 then 2 else b.k }
theorem frz_frz (b : Bx) : frz (frz b) = frz b := by
  unfold frz
  by_cases h : b.k = 1 <;> simp [h]

mutual
theorem frzD_at (bx : Bxs) (t : Nat) : ∀ d : D, frzD bx d t = if t ∈ names d then frz (bx t) else bx t
  | .loc s _ _ _ => by simp only [frzD, names, upd, List.mem_singleton]; split <;> simp_all [frz]
  | .osl s _ _ _ _ => by simp only [frzD, names, upd, List.mem_singleton]; split <;> simp_all [frz]
  | .agg ds => by simp only [frzD, names]; exact frzL_at bx t ds
  | .tup ds => by simp only [frzD, names]; exact frzL_at bx t ds
  | .fn f ds => by simp only [frzD, names]; exact frzL_at bx t ds
  | .ifc _ d => by simp only [frzD, names]; exact frzD_at bx t d
  | .undef => by simp [frzD, names]
  | .any _ => by simp [frzD, names]
  | .glo => by simp [frzD, names]
  | .int _ _ => by simp [frzD, names]
  | .bool _ => by simp [frzD, names]
  | .str _ => by simp [frzD, names]
  | .raw _ => by simp [frzD, names]
  | .nilsl => by simp [frzD, names]
  | .sl _ _ => by simp [frzD, names]
  | .cref _ _ => by simp [frzD, names]
theorem frzL_at (bx : Bxs) (t : Nat) : ∀ ds : List D, frzL bx ds t = if t ∈ namesL ds then frz (bx t) else bx t
  | [] => by simp [frzL, namesL]
  | d :: ds => by
    simp only [frzL, namesL, List.mem_append]
    rw [frzL_at (frzD bx d) t ds, frzD_at bx t d]
    by_cases h1 : t ∈ names d <;> by_cases h2 : t ∈ namesL ds <;> simp [h1, h2, frz_frz]
end

theorem PRep.monoS {S S' : Nat → Prop} {d : D} {v : Value} (h : PRep w S d v) (hS : ∀ b, S b → S' b) : PRep w S' d v := h.mono (fun _ _ => rfl) hS

theorem Rep.inv_ifc {S : Nat → Prop} {t : TypeId} {d : D} {v : Value} (h : Rep w S ρ (.ifc t d) v) : ∃ u, v = .iface t u ∧ Rep w S ρ d u := by
  cases h with
  | pure h => cases h with | ifc h => exact ⟨_, rfl, .pure h⟩
  | ifc h => exact ⟨_, rfl, h⟩

theorem consO_inv {x : Option D} {xs : Option (List D)} {r : List D} (h : consO x xs = some r) : ∃ y ys, x = some y ∧ xs = some ys ∧ r = y :: ys := by
  cases x <;> cases xs <;> simp [consO] at h
  exact ⟨_, _, rfl, rfl, h.symm⟩

/-- What S' must hold for the data d to be told of without names of own variables. -/
def Lends (X : Ctx) (ρ : Rho) (bx : Bxs) (w : World) (S' : Nat → Prop) (ns : List Nat) : Prop :=
  (∀ b, Stab X ρ bx w b → S' b) ∧ ∀ t ∈ ns, (bx t).k ≠ 0 → ∀ p, ρ t (bx t).ep = some p → S' p.b

theorem veil_cells (d : D) : d.veil.cells = d.cells.map D.veilC := by
  have key : ∀ c : D, c.cells = [c] → (D.veilC c).cells = [D.veilC c] := by
    intro c h
    unfold D.veilC
    split
    · exact h
    · rfl
  cases d with
  | agg ds => rfl
  | _ => exact key _ rfl

mutual
theorem outD_sound (h : Sim X ρ σ bx a w) {S' : Nat → Prop} : ∀ (d d' : D) (v : Value), Lends X ρ bx w S' (names d) → Rep w (Stab X ρ bx w) ρ d v → outD bx d = some d' → PRep w S' d' v
  | .loc t e i j, d', v, hS, hr, ho => by
    simp only [outD] at ho
    split at ho
    · rename_i hc
      obtain ⟨he, hk⟩ := hc
      split at ho
      · rename_i d hd
        split at ho
        · rename_i hp
          injection ho with ho; subst ho
          obtain ⟨p, hp1, rfl⟩ := hr.inv_loc
          obtain ⟨p', hp', hpz, hpt, hpb, hh⟩ := h.box t hk
          rw [he, hp1] at hp'; injection hp' with hp'; subst hp'
          obtain ⟨⟨cur, hcur, hcs, us, hus⟩, hlc, hmx, hsz⟩ := hh
          refine .cref (off := i * p.sz) (us := us i) (hS.2 t (by simp [names]) hk p (by rw [he]; exact hp1)) rfl (fun m c hm => ?_) (fun m c hm => (hus i d m c hd hm).2.2) (fun m c hm => ?_)
          · simp [World.cell?, hcur, (hus i d m c hd hm).1]
          · exact ((hus i d m c hd hm).2.1.toP (pure_cells hp c (List.mem_of_getElem? hm))).monoS hS.1
        · injection ho with ho; subst ho
          obtain ⟨p, hp1, rfl⟩ := hr.inv_loc
          obtain ⟨p', hp', hpz, hpt, hpb, hh⟩ := h.box t hk
          rw [he, hp1] at hp'; injection hp' with hp'; subst hp'
          obtain ⟨⟨cur, hcur, hcs, us, hus⟩, hlc, hmx, hsz⟩ := hh
          have hcell : ∀ (m : Nat) c', d.veil.cells[m]? = some c' → ∃ c, d.cells[m]? = some c ∧ c' = D.veilC c := fun m c' hm => by
            rw [veil_cells, List.getElem?_map, Option.map_eq_some_iff] at hm
            obtain ⟨c, h1, h2⟩ := hm
            exact ⟨c, h1, h2.symm⟩
          refine .cref (off := i * p.sz) (us := us i) (hS.2 t (by simp [names]) hk p (by rw [he]; exact hp1)) rfl (fun m c' hm => ?_) (fun m c' hm => ?_) (fun m c' hm => ?_)
          · obtain ⟨c, hc, _⟩ := hcell m c' hm
            simp [World.cell?, hcur, (hus i d m c hd hc).1]
          · obtain ⟨c, hc, _⟩ := hcell m c' hm
            exact (hus i d m c hd hc).2.2
          · obtain ⟨c, hc, rfl⟩ := hcell m c' hm
            unfold D.veilC
            split
            · rename_i hpc
              exact ((hus i d m c hd hc).2.1.toP hpc).monoS hS.1
            · exact .undef _
      · cases ho
    · cases ho
  | .osl t e sz o n, d', v, hS, hr, ho => by
    simp only [outD] at ho
    split at ho
    · rename_i hc
      obtain ⟨he, hk, hz, hle⟩ := hc
      split at ho
      · rename_i hp
        injection ho with ho; subst ho
        have hel : elemsD bx sz (.osl t e sz o n) = some (((bx t).es.drop o).take n) := by unfold elemsD; exact if_pos ⟨rfl, he, hk, hz, hle⟩
        obtain ⟨p, off, cap, hp1, hpz, h0, hoff, hn, hcap, hmax, rfl⟩ := hr.inv_osl
        obtain ⟨A, c, b, off', us, hv, hA, hyz, hys⟩ := elems_sound h hr hel
        injection hv with hv1 hv2 hv3
        have hpb : ((bx t).es.drop o).take n ≠ [] → b = p.b := fun hne => by
          have := hA hne
          rw [this] at hv1; injection hv1 with hv1; injection hv1 with hv1; exact hv1.symm
        refine .sl (b := b) (off := off') (us := us) hv2 (by omega) (by omega) (fun hne => ⟨hv1.trans (hA hne), ?_⟩) hyz (fun i d j c hi hj => (hys i d j c hi hj).1) (fun i d j c hi hj => (hys i d j c hi hj).2.2) (fun i d j c hi hj => ?_)
        · rw [hpb hne]; exact hS.2 t (by simp [names]) hk p (by rw [he]; exact hp1)
        · exact ((hys i d j c hi hj).2.1.toP (pure_cells (pure_mem _ hp d (List.mem_of_getElem? hi)) c (List.mem_of_getElem? hj))).monoS hS.1
      · cases ho
    · cases ho
  | .agg ds, d', v, hS, hr, ho => by
    simp only [outD, Option.map_eq_some_iff] at ho
    obtain ⟨ds', ho, rfl⟩ := ho
    obtain ⟨vs, rfl, hl, hv⟩ := hr.inv_agg
    obtain ⟨h1, h2⟩ := outL_sound h ds ds' vs.toList (by simpa [names] using hS) (by simpa using hl) (fun i d v hd hv' => hv i d v hd (by simpa using hv')) ho
    exact .agg (hl.trans h1.symm) (fun i d v hd hv' => h2 i d v hd (by simpa using hv'))
  | .tup ds, d', v, hS, hr, ho => by
    simp only [outD, Option.map_eq_some_iff] at ho
    obtain ⟨ds', ho, rfl⟩ := ho
    obtain ⟨vs, rfl, hl, hv⟩ := hr.inv_tup
    obtain ⟨h1, h2⟩ := outL_sound h ds ds' vs.toList (by simpa [names] using hS) (by simpa using hl) (fun i d v hd hv' => hv i d v hd (by simpa using hv')) ho
    exact .tup (hl.trans h1.symm) (fun i d v hd hv' => h2 i d v hd (by simpa using hv'))
  | .fn f ds, d', v, hS, hr, ho => by
    simp only [outD, Option.map_eq_some_iff] at ho
    obtain ⟨ds', ho, rfl⟩ := ho
    obtain ⟨vs, rfl, hl, hv⟩ := hr.inv_fn
    obtain ⟨h1, h2⟩ := outL_sound h ds ds' vs.toList (by simpa [names] using hS) (by simpa using hl) (fun i d v hd hv' => hv i d v hd (by simpa using hv')) ho
    exact .fn (hl.trans h1.symm) (fun i d v hd hv' => h2 i d v hd (by simpa using hv'))
  | .ifc t d, d', v, hS, hr, ho => by
    simp only [outD, Option.map_eq_some_iff] at ho
    obtain ⟨d'', ho, rfl⟩ := ho
    obtain ⟨u, rfl, hu⟩ := hr.inv_ifc
    exact .ifc (outD_sound h d d'' u (by simpa [names] using hS) hu ho)
  | .undef, d', v, hS, hr, ho => by simp only [outD, Option.some.injEq] at ho; subst ho; exact .undef v
  | .any l, d', v, hS, hr, ho => by simp only [outD, Option.some.injEq] at ho; subst ho; exact .any l v
  | .int k n, d', v, hS, hr, ho => by simp only [outD, Option.some.injEq] at ho; subst ho; exact (hr.toP rfl).monoS hS.1
  | .bool b, d', v, hS, hr, ho => by simp only [outD, Option.some.injEq] at ho; subst ho; exact (hr.toP rfl).monoS hS.1
  | .str s, d', v, hS, hr, ho => by simp only [outD, Option.some.injEq] at ho; subst ho; exact (hr.toP rfl).monoS hS.1
  | .raw x, d', v, hS, hr, ho => by simp only [outD, Option.some.injEq] at ho; subst ho; exact (hr.toP rfl).monoS hS.1
  | .glo, d', v, hS, hr, ho => by simp only [outD, Option.some.injEq] at ho; subst ho; exact (hr.toP rfl).monoS hS.1
  | .nilsl, d', v, hS, hr, ho => by simp only [outD, Option.some.injEq] at ho; subst ho; exact (hr.toP rfl).monoS hS.1
  | .sl sz es, d', v, hS, hr, ho => by simp only [outD, Option.some.injEq] at ho; subst ho; exact (hr.toP rfl).monoS hS.1
  | .cref d j, d', v, hS, hr, ho => by simp only [outD, Option.some.injEq] at ho; subst ho; exact (hr.toP rfl).monoS hS.1
theorem outL_sound (h : Sim X ρ σ bx a w) {S' : Nat → Prop} : ∀ (ds ds' : List D) (vs : List Value), Lends X ρ bx w S' (namesL ds) → vs.length = ds.length → (∀ (i : Nat) d v, ds[i]? = some d → vs[i]? = some v → Rep w (Stab X ρ bx w) ρ d v) → outL bx ds = some ds' →
    ds'.length = ds.length ∧ ∀ (i : Nat) d v, ds'[i]? = some d → vs[i]? = some v → PRep w S' d v
  | [], ds', vs, hS, hl, hv, ho => by
    simp only [outL, Option.some.injEq] at ho; subst ho
    exact ⟨rfl, fun i d v hd => by simp at hd⟩
  | d :: ds, ds', vs, hS, hl, hv, ho => by
    simp only [outL] at ho
    obtain ⟨y, ys, h1, h2, rfl⟩ := consO_inv ho
    cases vs with
    | nil => simp at hl
    | cons v vs =>
      simp only [namesL] at hS
      have hSd : Lends X ρ bx w S' (names d) := ⟨hS.1, fun t ht => hS.2 t (List.mem_append_left _ ht)⟩
      have hSl : Lends X ρ bx w S' (namesL ds) := ⟨hS.1, fun t ht => hS.2 t (List.mem_append_right _ ht)⟩
      obtain ⟨g1, g2⟩ := outL_sound h ds ys vs hSl (by simpa using hl) (fun i d' v' hd hv' => hv (i + 1) d' v' (by simpa using hd) (by simpa using hv')) h2
      refine ⟨by simp [g1], fun i d' v' hd hv' => ?_⟩
      cases i with
      | zero =>
        simp only [List.getElem?_cons_zero, Option.some.injEq] at hd hv'
        subst hd; subst hv'
        exact outD_sound h d y v hSd (hv 0 d v (by simp) (by simp)) h1
      | succ i => exact g2 i d' v' (by simpa using hd) (by simpa using hv')
end

theorem Sim.got {w' : World} (h : Sim X ρ σ bx a w) {d : D} {v : Value} (hp : Post w (Stab X ρ bx w) d v w') : Sim X ρ σ bx a w' ∧ Rep w' (Stab X ρ bx w') ρ d v := by
  refine ⟨h.ext hp.2, .pure (hp.1.monoS fun b hb => ?_)⟩
  rcases hb with hb | ⟨h1, h2⟩
  · exact ⟨Nat.lt_of_lt_of_le hb.1 hp.2.size, hb.2⟩
  · refine ⟨h2, .inr (Nat.le_trans (Nat.le_trans h.nb h.fr.size) h1), fun t hk p hp' => ?_⟩
    obtain ⟨p', hp'', _, _, _, hh⟩ := h.box t (by rw [hk]; decide)
    rw [hp'] at hp''; injection hp'' with hp''; subst hp''
    have := hh.lt
    omega

theorem frzL_lends (h : Sim X ρ σ bx a w) (ds : List D) : Lends X ρ bx w (Stab X ρ (frzL bx ds) w) (namesL ds) := by
  have hfk : ∀ t, (frzL bx ds t).k = 1 → (bx t).k = 1 ∧ t ∉ namesL ds ∧ (frzL bx ds t).ep = (bx t).ep := by
    intro t ht
    rw [frzL_at] at ht ⊢
    by_cases hn : t ∈ namesL ds
    · simp only [hn, if_true, frz] at ht ⊢
      split at ht <;> simp_all
    · simp only [hn, if_false] at ht ⊢
      exact ⟨ht, not_false, trivial⟩
  refine ⟨fun b hb => ⟨hb.1, hb.2.1, fun t ht p hp => ?_⟩, fun t ht hk p hp => ?_⟩
  · obtain ⟨h1, _, h3⟩ := hfk t ht
    rw [h3] at hp
    exact hb.2.2 t h1 p hp
  · obtain ⟨p', hp', _, _, hpb, hh⟩ := h.box t hk
    rw [hp] at hp'; injection hp' with hp'; subst hp'
    refine ⟨hh.lt, .inr hpb.1, fun s hs q hq => ?_⟩
    obtain ⟨h1, h2, h3⟩ := hfk s hs
    rw [h3] at hq
    exact h.inj s t q p h1 hk (fun e => h2 (e ▸ ht)) hq hp

theorem Sim.frozen (h : Sim X ρ σ bx a w) (hlo : X.lo = 0) (ds : List D) : Sim X ρ σ (frzL bx ds) a w := by
  refine h.less fun s => ?_
  rw [frzL_at]
  by_cases hn : s ∈ namesL ds
  · right
    simp only [hn, if_true, frz]
    refine ⟨by omega, ?_, ?_⟩
    · split <;> simp_all
    · refine ⟨trivial, fun hk => ⟨?_, trivial, trivial, trivial⟩⟩
      intro h0
      rw [h0] at hk
      simp at hk
  · left; simp only [hn, if_false]

theorem Calls.mono {f : FuncId} {args : Array Value} {R R' : Ending → World → Prop} (h : Calls P f args w R) (hr : ∀ e w', R e w' → R' e w') : Calls P f args w R' :=
  fun cs => let ⟨e, w', fr, r, rest⟩ := h cs; ⟨e, w', fr, hr _ _ r, rest⟩

/-- The two ways in which a call is carried out. -/
def Carried (P : Program) (f : FuncId) (vs : Array Value) (w : World) (G : Value → World → Prop) : Prop :=
  ((callFunc f vs).run P w = .ok (.enter f vs) w ∧ Calls P f vs w (fun e w' => ∃ v, e = .returned v ∧ G v w')) ∨
  (∃ v w', (callFunc f vs).run P w = .ok (.value v) w' ∧ G v w')

/-- A panic with a value. -/
def pe (v : Value) : PanicEntry := { v, recovered := false }

/-- The same where it may panic. -/
def CarriedP (P : Program) (f : FuncId) (vs : Array Value) (w : World) (G Gp : Value → World → Prop) : Prop :=
  ((callFunc f vs).run P w = .ok (.enter f vs) w ∧ Calls P f vs w (fun e w' => (∃ v, e = .returned v ∧ G v w') ∨ ∃ v, e = .panicked [pe v] ∧ Gp v w')) ∨
  (∃ v w', (callFunc f vs).run P w = .ok (.value v) w' ∧ G v w')

theorem Carried.toP {f : FuncId} {vs : Array Value} {G Gp : Value → World → Prop} (h : Carried P f vs w G) : CarriedP P f vs w G Gp := by
  rcases h with ⟨h1, h2⟩ | h
  · exact .inl ⟨h1, Calls.mono h2 fun e w' h => .inl h⟩
  · exact .inr h
theorem CarriedP.mono {f : FuncId} {vs : Array Value} {G Gp G' Gp' : Value → World → Prop} (h : CarriedP P f vs w G Gp) (h1 : ∀ v w', G v w' → G' v w') (h2 : ∀ v w', Gp v w' → Gp' v w') : CarriedP P f vs w G' Gp' := by
  rcases h with ⟨k1, k2⟩ | ⟨v, w', k1, k2⟩
  · refine .inl ⟨k1, Calls.mono k2 fun e w' h => ?_⟩
    rcases h with ⟨v, he, hg⟩ | ⟨v, he, hg⟩
    · exact .inl ⟨v, he, h1 _ _ hg⟩
    · exact .inr ⟨v, he, h2 _ _ hg⟩
  · exact .inr ⟨v, w', k1, h1 _ _ k2⟩

theorem CallsTo.carried {f : FuncId} {ds : List D} {d : D} (h : CallsTo P f ds d) {S : Nat → Prop} {vs : Array Value} {G : Value → World → Prop} (hS : ∀ b, S b → b < w.heap.size) (hg : PRep w S .glo undef) (hl : vs.size = ds.length)
    (hv : ∀ (i : Nat) x v, ds[i]? = some x → vs[i]? = some v → PRep w S x v) (hG : ∀ v w', Post w S d v w' → G v w') : Carried P f vs w G := by
  rcases h w S vs hS hg hl hv with ⟨h1, h2⟩ | ⟨v, w', h1, h2⟩
  · exact .inl ⟨h1, Calls.mono h2 fun e w' ⟨v, he, hp⟩ => ⟨v, he, hG v w' hp⟩⟩
  · exact .inr ⟨v, w', h1, hG v w' h2⟩

/-- The contract of a function that has its caller's variables at hand, its own in the slots from base on. -/
def CallsB (P : Program) (f : FuncId) (base : Nat) (ds : List D) (bx : Bxs) (Q Qp : D → Bxs → Prop) : Prop :=
  ∀ (X : Ctx) (ρ : Rho) (σ : Env) (a : Act) (w : World) (vs : Array Value), Sim X ρ σ bx a w → X.lo = 0 → vs.size = ds.length → (∀ (i : Nat) x v, ds[i]? = some x → vs[i]? = some v → Rep w (Stab X ρ bx w) ρ x v) →
    CarriedP P f vs w (fun v w' => ∃ d bx' ρ', Q d bx' ∧ Sim X ρ' σ bx' a w' ∧ Rep w' (Stab X ρ' bx' w') ρ' d v) (fun v w' => ∃ d bx' ρ', Qp d bx' ∧ Sim X ρ' σ bx' a w' ∧ Rep w' (Stab X ρ' bx' w') ρ' d v)

/-- How a round that yields is carried out: it leaves the slots from base to base + ext as they were; it goes on, or leaves a jump. -/
def RoundOk (P : Program) (X : Ctx) (l : Nat) (rc : Loop) (base ext : Nat) (items : List (List D)) (J : Nat → Bxs → Prop) (Jx : Code → Bxs → Prop) (σ : Env) (a : Act) : Prop :=
  ∀ (n : Nat) (it : List D) (ρ : Rho) (bx : Bxs) (w : World) (us : Array Value), items[n]? = some it → Sim X ρ σ bx a w → ρ.hold l = some (.loop rc) → J n (cutB base bx) → us.size = it.length →
    (∀ (i : Nat) x v, it[i]? = some x → us[i]? = some v → PRep w (Stab X ρ bx w) x v) →
    ∃ f tm as bd, (Instr.yield l us).run P w = .ok (.round l f tm as bd) w ∧ ∀ m, RoundIn Fence.wide m P l f tm as bd w fun e w2 => ∃ ρ2 bx2 b, e = .returned (.bool b) ∧ (∀ s, base ≤ s → s < base + ext → bx2 s = bx s) ∧
      (∀ (X1 : Ctx) (σ1 : Env) (a1 : Act), X1.S0 = X.S0 → X1.n0 = X.n0 → X1.E l → Sim X1 ρ σ1 bx a1 w → X1.Y (cutB X1.lo bx2) ρ2.hold → Sim X1 ρ2 σ1 bx2 a1 w2) ∧
      (∀ k o, k ≠ l → ρ.hold k = some o → ρ2.hold k = some o) ∧
      ((b = true ∧ ρ2.hold l = some (.loop rc) ∧ J (n + 1) (cutB base bx2)) ∨ (b = false ∧ ∃ jump, ρ2.hold l = some (.loop { rc with state := .done, pending := some jump }) ∧ Jx jump (cutB base bx2)))

/-- The contract of a function that is ranged over. -/
def IterTo (P : Program) (f : FuncId) (caps : List D) (items : List (List D)) (ext : Nat) : Prop :=
  ∀ (X : Ctx) (ρ : Rho) (σ : Env) (bx : Bxs) (a : Act) (w : World) (l base : Nat) (rc : Loop) (vs : Array Value) (J : Nat → Bxs → Prop) (Jx : Code → Bxs → Prop), Sim X ρ σ bx a w → X.lo = 0 → ρ.hold l = some (.loop rc) → (X.w0.heap.size ≤ l) → X.r0.hold l = none →
    vs.size = caps.length → (∀ (i : Nat) x v, caps[i]? = some x → vs[i]? = some v → PRep w (Stab X ρ bx w) x v) → J 0 (cutB base bx) → RoundOk P X l rc base ext items J Jx σ a →
    (callFunc f (#[.func (.yield l) #[] #[]] ++ vs)).run P w = .ok (.enter f (#[.func (.yield l) #[] #[]] ++ vs)) w ∧
    Calls P f (#[.func (.yield l) #[] #[]] ++ vs) w fun e w' => ∃ v ρ' bx', e = .returned v ∧ Sim X ρ' σ bx' a w' ∧
      ((ρ'.hold l = some (.loop rc) ∧ J items.length (cutB base bx')) ∨ ∃ jump, ρ'.hold l = some (.loop { rc with state := .done, pending := some jump }) ∧ Jx jump (cutB base bx'))

/-- The contracts are kept. -/
structure Ok (P : Program) (O : Orac) : Prop where
  to : ∀ f ds d, O.to f ds d → CallsTo P f ds d
  toB : ∀ f base ds bx Q Qp, O.toB f base ds bx Q Qp → CallsB P f base ds bx Q Qp
  it : ∀ f caps items ext, O.it f caps items ext → IterTo P f caps items ext

/-- A yield is carried out. -/
def YOk (P : Program) (C : Calc) (X : Ctx) : Prop := ∀ items gs l, C.yl = some (items, gs, l) → ∀ (ρ : Rho) (σ : Env) (bx : Bxs) (a : Act) (w : World) (us : Array Value) (ds : List D), Sim X ρ σ bx a w → items[(bx gs).sz]? = some ds → us.size = ds.length →
  (∀ (i : Nat) x v, ds[i]? = some x → us[i]? = some v → PRep w (Stab X ρ bx w) x v) →
    ∃ f tm as bd, (Instr.yield l us).run P w = .ok (.round l f tm as bd) w ∧ ∀ m, RoundIn Fence.wide m P l f tm as bd w fun e w2 => ∃ ρ2 bx1 b, e = .returned (.bool b) ∧
      Sim X ρ2 σ (upd (mixB C.lo C.nxt bx bx1) gs { bx gs with sz := if b then (bx gs).sz + 1 else items.length + 1 }) a w2

/-- What an activation rests on. -/
structure Good (P : Program) (C : Calc) (X : Ctx) : Prop where
  ok : Ok P C.o
  lo : X.lo ≤ C.lo
  base : X.lo ≤ C.base
  yok : YOk P C X
  df : C.df = true → X.md = 2
  it : X.md = 3 → ∀ f c i e, ¬ C.o.it f c i e

theorem callD_sound (h : Sim X ρ σ bx a w) (hG : Good P C X) {f : FuncId} {ds : List D} {vs : Array Value} (hl : vs.size = ds.length)
    (hv : ∀ (i : Nat) x v, ds[i]? = some x → vs[i]? = some v → Rep w (Stab X ρ bx w) ρ x v) {K : Cl → D → Bxs → Prop} (hc : callD C f ds bx K) :
    CarriedP P f vs w (fun v w' => ∃ c d bx' ρ', (∀ x, c ≠ .pan x) ∧ K c d bx' ∧ Sim X ρ' σ bx' a w' ∧ Rep w' (Stab X ρ' bx' w') ρ' d v) (fun v w' => ∃ d bx' ρ', K (.pan d) .undef bx' ∧ Sim X ρ' σ bx' a w' ∧ Rep w' (Stab X ρ' bx' w') ρ' d v) := by
  have hC := hG.ok.to
  rcases hc with ⟨d, hp, hto, hK⟩ | ⟨ds', d, ho, hto, hb, hK⟩ | ⟨ds', d, hlo, ho, hto, hK⟩ | ⟨Q, Qp, hlo, hto, hK, hKp⟩
  · exact ((hC f ds d hto).carried (S := Stab X ρ bx w) (fun b hb => hb.1) (h.glo.toP rfl) hl (fun i x v hx hv' => (hv i x v hx hv').toP (pureL_mem _ hp i x hx)) fun v w' hp => ⟨.n, d, bx, ρ, (by intro x; simp), hK, h.got hp⟩).toP
  · have hL : Lends X ρ bx w (fun b => b < w.heap.size) (namesL ds) := ⟨fun b hb => hb.1, fun t _ hk p hp => by
      obtain ⟨p', hp', _, _, _, hh⟩ := h.box t hk
      rw [hp] at hp'; injection hp' with hp'; subst hp'
      exact hh.lt⟩
    obtain ⟨g1, g2⟩ := outL_sound h ds ds' vs.toList hL (by simpa using hl) (fun i x v hx hv' => hv i x v hx (by simpa using hv')) ho
    exact ((hC f ds' d hto).carried (S := fun b => b < w.heap.size) (fun b hb => hb) ((h.glo.toP rfl).mono (fun _ _ => rfl) (fun b hb => hb.1)) (hl.trans g1.symm) (fun i x v hx hv' => g2 i x v hx (by simpa using hv')) fun v w' hp => ⟨.ra, d, bx, ρ, (by intro x; simp), hK, h.ext hp.2, .pure (hp.1.bare hb)⟩).toP
  · have hL := frzL_lends h ds
    obtain ⟨g1, g2⟩ := outL_sound h ds ds' vs.toList hL (by simpa using hl) (fun i x v hx hv' => hv i x v hx (by simpa using hv')) ho
    exact ((hC f ds' d hto).carried (S := Stab X ρ (frzL bx ds) w) (fun b hb => hb.1) ((h.frozen (by have := hG.lo; omega) ds).glo.toP rfl) (hl.trans g1.symm) (fun i x v hx hv' => g2 i x v hx (by simpa using hv')) fun v w' hp => ⟨.wa, d, frzL bx ds, ρ, (by intro x; simp), hK, (h.frozen (by have := hG.lo; omega) ds).got hp⟩).toP
  · refine (hG.ok.toB _ _ _ _ _ _ hto X ρ σ a w vs h (by have := hG.lo; omega) hl hv).mono ?_ ?_
    · rintro v w' ⟨d, bx', ρ', g1, g2⟩
      exact ⟨.wa, d, bx', ρ', (by intro x; simp), hK d bx' g1, g2⟩
    · rintro v w' ⟨d, bx', ρ', g1, g2⟩
      exact ⟨d, bx', ρ', hKp d bx' g1, g2⟩

end Go.V
