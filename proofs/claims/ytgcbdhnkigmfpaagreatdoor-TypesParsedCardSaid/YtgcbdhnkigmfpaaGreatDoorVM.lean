/-
  The operations on maps of the activation's own.
  One operation: what the data level says of it holds of the machine.
  What a step does hangs on what it looks at alone: so steps that come in no fixed order may be taken in any.
-/
import Derived.Test.YtgcbdhnkigmfpaaGreatDoorVB
import Derived.MapKept
import Derived.Maps.RangeRun
namespace Go.V
open Go.RowKit

variable {P : Program} {X : Ctx} {ρ : Rho} {σ : Env} {bx : Bxs} {a : Act} {w : World}
variable {dst : Option Tmp} {ty : TypeId} {pos : String} {af : Array Edge} {g : Option (Nat × Bool)}

/-- A new variable that is a map or a place in one. -/
theorem Sim.newM {o : Obj} {es : List D} (h : Sim X ρ σ bx a w) (hlo : X.lo = 0) (t sz : Nat) (T : TypeId) (ho : NObj ρ o es) :
    ∃ ρ', Sim X ρ' σ (upd bx t ⟨(bx t).ep + 1, 3, sz, T, es⟩) a (w.alloc o) ∧ ρ' t ((bx t).ep + 1) = some ⟨w.heap.size, 0, 0, 0⟩ := by
  have hx := h.newHold (o := o) ho.isC.1
  have hρ : ∀ s e q, ρ s e = some q → (if s = t ∧ e = (bx t).ep + 1 then some (Place.mk w.heap.size 0 0 0) else ρ s e) = some q := by
    intro s e q hq
    rw [if_neg]
    · exact hq
    · rintro ⟨rfl, rfl⟩
      have := h.eps _ _ _ hq
      omega
  have hne : ∀ s, s ≠ t → upd bx t ⟨(bx t).ep + 1, 3, sz, T, es⟩ s = bx s := fun s hs => by simp [upd, hs]
  have heq : upd bx t ⟨(bx t).ep + 1, 3, sz, T, es⟩ t = ⟨(bx t).ep + 1, 3, sz, T, es⟩ := by simp [upd]
  have live : ∀ s, (lv (upd bx t ⟨(bx t).ep + 1, 3, sz, T, es⟩ s).k) → s ≠ t := by
    intro s hk e
    subst e
    rw [heq] at hk
    exact hk.2 rfl
  have hS : ∀ b, Stab X ⟨ρ.at_, fun k => if k = w.heap.size then some o else ρ.hold k⟩ bx (w.alloc o) b → Stab X ⟨fun s e => if s = t ∧ e = (bx t).ep + 1 then some (Place.mk w.heap.size 0 0 0) else ρ s e, fun k => if k = w.heap.size then some o else ρ.hold k⟩ (upd bx t ⟨(bx t).ep + 1, 3, sz, T, es⟩) (w.alloc o) b := by
    intro b hb
    refine ⟨hb.1, hb.2.1, fun s hs q hq => ?_⟩
    have hst := live s (by rw [hs]; decide)
    rw [hne s hst] at hs hq
    simp only [hst, false_and, if_false] at hq
    exact hb.2.2 s hs q hq
  refine ⟨⟨fun s e => if s = t ∧ e = (bx t).ep + 1 then some (Place.mk w.heap.size 0 0 0) else ρ s e, fun k => if k = w.heap.size then some o else ρ.hold k⟩, ⟨hx.fr, hx.s0, hx.nb, hx.mb, hx.ec, hx.size, hx.marks.mono (fun _ _ => rfl) hS hρ (fun _ h => h), hx.nle, hx.mkb, fun s => (hx.tmps s).mono (fun _ _ => rfl) hS hρ, hx.glo.mono (fun _ _ => rfl) hS hρ, fun s hk => ?_, fun s s' p p' hk hk' hn hp hp' => ?_, fun s e p hp => ?_, fun s e p hp => hρ s e p (h.r0 s e p hp), hx.hold, hx.holds0, h.yc, h.y0 hlo _ _, h.y0, h.h0lt, ⟨fun s hs => ?_, fun s s' p p' hk hk' hn hp hp' => ?_⟩⟩, by simp⟩
  · have hst := live s hk
    rw [hne s hst] at hk ⊢
    obtain ⟨p, hp, h2, h3, h4, h5⟩ := hx.box s hk
    exact ⟨p, hρ _ _ _ hp, h2, h3, h4, h5.mono rfl (fun _ _ => rfl) hS hρ⟩
  · have h1 := live s (by rw [hk]; decide)
    have h2 := live s' hk'
    rw [hne s h1] at hk hp
    rw [hne s' h2] at hk' hp'
    simp only [h1, false_and, if_false] at hp
    simp only [h2, false_and, if_false] at hp'
    exact h.inj s s' p p' hk hk' hn hp hp'
  · by_cases hst : s = t
    · subst hst
      rw [heq]
      dsimp only at hp ⊢
      split at hp
      · rename_i he; omega
      · have := h.eps _ _ _ hp; omega
    · rw [hne s hst]
      simp only [hst, false_and, if_false] at hp
      exact h.eps _ _ _ hp
  · by_cases hst : s = t
    · subst hst
      rw [heq]
      refine ⟨⟨w.heap.size, 0, 0, 0⟩, o, by simp, by simp, .inr h.fr.size, ho.mono hρ⟩
    · rw [hne s hst] at hs ⊢
      obtain ⟨p, o1, g1, g2, g3, g4⟩ := hx.maps.has s hs
      exact ⟨p, o1, hρ _ _ _ g1, g2, g3, g4.mono hρ⟩
  · have old : ∀ s p, s ≠ t → (upd bx t ⟨(bx t).ep + 1, 3, sz, T, es⟩ s).k = 3 → (if s = t ∧ (upd bx t ⟨(bx t).ep + 1, 3, sz, T, es⟩ s).ep = (bx t).ep + 1 then some (Place.mk w.heap.size 0 0 0) else ρ s (upd bx t ⟨(bx t).ep + 1, 3, sz, T, es⟩ s).ep) = some p → (bx s).k = 3 ∧ ρ s (bx s).ep = some p ∧ p.b < w.heap.size := by
      intro s p hst hk hp
      rw [hne s hst] at hk hp
      simp only [hst, false_and, if_false] at hp
      obtain ⟨q, o1, g1, g2, _⟩ := h.maps.has s hk
      rw [hp] at g1; injection g1 with g1; subst g1
      exact ⟨hk, hp, (Array.getElem?_eq_some_iff.1 (h.hold _ _ g2).1).1⟩
    have new : ∀ p, (if t = t ∧ (upd bx t ⟨(bx t).ep + 1, 3, sz, T, es⟩ t).ep = (bx t).ep + 1 then some (Place.mk w.heap.size 0 0 0) else ρ t (upd bx t ⟨(bx t).ep + 1, 3, sz, T, es⟩ t).ep) = some p → p.b = w.heap.size := by
      intro p hp
      rw [heq] at hp
      simp only [and_self, if_true, Option.some.injEq] at hp
      rw [← hp]
    by_cases h1 : s = t
    · subst h1
      have e1 := new p hp
      obtain ⟨_, _, e2⟩ := old s' p' (Ne.symm hn) hk' hp'
      omega
    · obtain ⟨a1, a2, a3⟩ := old s p h1 hk hp
      by_cases h2 : s' = t
      · subst h2
        have e2 := new p' hp'
        omega
      · obtain ⟨b1, b2, b3⟩ := old s' p' h2 hk' hp'
        exact h.maps.inj s s' p p' a1 b1 hn a2 b2

/-- A map of the activation's own turns. -/
theorem Sim.setM {t : Nat} {p : Place} {o o' : Obj} {es' : List D} (h : Sim X ρ σ bx a w) (hlo : X.lo = 0) (hk : (bx t).k = 3) (hp : ρ t (bx t).ep = some p) (hb : ρ.hold p.b = some o) (ho : NObj ρ o' es')
    {w' : World} (hw : Fr (fun k => k = p.b) w w') (hw' : w'.heap[p.b]? = some o') :
    Sim X ⟨ρ.at_, fun k => if k = p.b then some o' else ρ.hold k⟩ σ (V.setM bx t es') a w' := by
  obtain ⟨q, o1, q1, q2, hE, q4⟩ := h.maps.has t hk
  rw [hp] at q1; injection q1 with q1; subst q1
  rw [hb] at q2; injection q2 with q2; subst q2
  have h0 : X.r0.hold p.b = none ∨ X.E p.b := by
    rcases hE with hE | hE
    · exact .inr hE
    · left
      cases hr : X.r0.hold p.b with
      | none => rfl
      | some o2 => have := h.h0lt _ _ hr; omega
  obtain ⟨g1, g2⟩ := h.hold p.b o hb
  have hsame : ∀ k, SameC w w' k := by
    intro k o1 ho1 hc
    refine (hw.block k (Array.getElem?_eq_some_iff.1 ho1).1 (fun e => ?_)).trans ho1
    subst e
    rw [g1] at ho1; injection ho1 with ho1; subst ho1
    rw [g2] at hc; cases hc
  have hkb : ∀ s, (V.setM bx t es' s).k = (bx s).k ∧ (V.setM bx t es' s).ep = (bx s).ep := fun s => by
    unfold V.setM
    by_cases hs : s = t
    · subst hs; simp [upd]
    · simp [upd, hs]
  have hnb : ∀ s, s ≠ t → V.setM bx t es' s = bx s := fun s hs => by simp [V.setM, upd, hs]
  have hlive : ∀ s, lv (bx s).k → s ≠ t := fun s hs e => by subst e; rw [hk] at hs; exact hs.2 rfl
  have hS : ∀ k, Stab X ρ bx w k → Stab X ⟨ρ.at_, fun k => if k = p.b then some o' else ρ.hold k⟩ (V.setM bx t es') w' k := fun k hk => ⟨Nat.lt_of_lt_of_le hk.1 hw.size, hk.2.1, fun s hs q hq => by
    rw [(hkb s).1] at hs
    rw [(hkb s).2] at hq
    exact hk.2.2 s hs q hq⟩
  refine ⟨h.fr.step hw (fun n hn hm => ?_), h.s0, h.nb, h.mb, h.ec, h.size, h.marks.monoC (fun k _ => hsame k) hS (fun _ _ _ h => h) (fun r _ hr => ?_), h.nle, h.mkb, fun t => (h.tmps t).monoC (fun k _ => hsame k) hS (fun _ _ _ h => h), h.glo.monoC (fun k _ => hsame k) hS (fun _ _ _ h => h), fun s hs => ?_, fun s s' q q' hs hs' hn hq hq' => ?_, fun s e q hq => ?_, h.r0, fun k o1 ho1 => ?_, fun k o1 ho1 hnE => ?_, h.yc, h.y0 hlo _ _, h.y0, h.h0lt, ⟨fun s hs => ?_, fun s s' q q' hs hs' hn hq hq' => ?_⟩⟩
  · subst hm
    rcases hE with h1 | h1
    · exact .inr h1
    · omega
  · show (if r = p.b then some o' else ρ.hold r) = _
    rw [if_neg]
    · exact hr
    · intro e; subst e; rw [hb] at hr; injection hr with hr; exact q4.isC.2 _ hr
  · rw [(hkb s).1] at hs
    rw [hnb s (hlive s hs)]
    obtain ⟨q, hq, h2, h3, h4, h5⟩ := h.box s hs
    exact ⟨q, hq, h2, h3, h4, h5.monoC (hsame _) (fun k _ => hsame k) hS (fun _ _ _ h => h)⟩
  · rw [(hkb s).1] at hs
    rw [(hkb s').1] at hs'
    rw [(hkb s).2] at hq
    rw [(hkb s').2] at hq'
    exact h.inj s s' q q' hs hs' hn hq hq'
  · rw [(hkb s).2]; exact h.eps s e q hq
  · by_cases e : k = p.b
    · subst e
      simp only [if_true, Option.some.injEq] at ho1
      subst ho1
      exact ⟨hw', ho.isC.1⟩
    · simp only [e, if_false] at ho1
      obtain ⟨k1, k2⟩ := h.hold k o1 ho1
      exact ⟨(hw.block k (Array.getElem?_eq_some_iff.1 k1).1 e).trans k1, k2⟩
  · show (if k = p.b then some o' else ρ.hold k) = _
    by_cases e : k = p.b
    · subst e
      rcases h0 with h1 | h1
      · rw [ho1] at h1; cases h1
      · exact absurd h1 hnE
    · rw [if_neg e]; exact h.holds0 k o1 ho1 hnE
  · rw [(hkb s).1] at hs
    rw [(hkb s).2]
    by_cases hst : s = t
    · subst hst
      refine ⟨p, o', hp, by simp, hE, ?_⟩
      have e : (V.setM bx s es' s).es = es' := by simp [V.setM, upd]
      rw [e]
      exact ho.mono (ρ' := ⟨ρ.at_, _⟩) (fun _ _ _ h => h)
    · obtain ⟨q, o2, k1, k2, k3, k4⟩ := h.maps.has s hs
      rw [hnb s hst]
      refine ⟨q, o2, k1, ?_, k3, k4.mono (ρ' := ⟨ρ.at_, _⟩) (fun _ _ _ h => h)⟩
      show (if q.b = p.b then some o' else ρ.hold q.b) = _
      rw [if_neg (h.maps.inj s t q p hs hk hst k1 hp)]
      exact k2
  · rw [(hkb s).1] at hs
    rw [(hkb s').1] at hs'
    rw [(hkb s).2] at hq
    rw [(hkb s').2] at hq'
    exact h.maps.inj s s' q q' hs hs' hn hq hq'

def putM (w : World) (b : Nat) (o : Obj) : World := { w with heap := w.heap.setIfInBounds b o }
theorem putM_same {w : World} {b : Nat} {o : Obj} (h : b < w.heap.size) : (putM w b o).heap[b]? = some o := by simp [putM, h]
theorem putM_fr (w : World) (b : Nat) (o : Obj) : Fr (fun k => k = b) w (putM w b o) := ⟨rfl, rfl, rfl, by simp [putM], fun k _ hk => by simp [putM, Ne.symm hk]⟩

/-! The entries -/
theorem Ents.len {ds : List D} {es : List MapEntry} (h : Ents ds es) : ds.length = es.length := by
  induction h with
  | nil => rfl
  | cons _ _ _ ih => simp [ih]
theorem Ents.snoc {ds : List D} {es : List MapEntry} {k v : D} {e : MapEntry} (h : Ents ds es) (hk : SRep k e.key) (hv : SRep v e.val) : Ents (ds ++ [.tup [k, v, .int .i64 (e.born : Int)]]) (es ++ [e]) := by
  induction h with
  | nil => exact .cons hk hv .nil
  | cons h1 h2 _ ih => exact .cons h1 h2 ih
theorem Ents.put {ds : List D} {es : List MapEntry} {k v : D} {kv vv : Value} (h : Ents ds es) (hk : SRep k kv) (hv : SRep v vv) (j : Nat) : Ents (ds.modify j (putE k v)) (es.modify j fun e => { e with key := kv, val := vv }) := by
  induction h generalizing j with
  | nil => simpa using Ents.nil
  | @cons k' v' e' _ _ h1 h2 t ih =>
    cases j with
    | zero => simpa [putE] using Ents.cons (e := { e' with key := kv, val := vv }) hk hv t
    | succ j => simpa using Ents.cons h1 h2 (ih j)
theorem Ents.erase {ds : List D} {es : List MapEntry} (h : Ents ds es) (j : Nat) : Ents (ds.eraseIdx j) (es.eraseIdx j) := by
  induction h generalizing j with
  | nil => simpa using Ents.nil
  | cons h1 h2 t ih =>
    cases j with
    | zero => simpa using t
    | succ j => simpa using Ents.cons h1 h2 (ih j)
theorem Ents.mem {ds : List D} {es : List MapEntry} (h : Ents ds es) : ∀ e ∈ es, ∃ k v, SRep k e.key ∧ SRep v e.val ∧ D.tup [k, v, .int .i64 (e.born : Int)] ∈ ds := by
  induction h with
  | nil => intro e he; cases he
  | cons h1 h2 t ih =>
    intro e he
    rcases List.mem_cons.1 he with rfl | he
    · exact ⟨_, _, h1, h2, List.mem_cons_self ..⟩
    · obtain ⟨k, v, g1, g2, g3⟩ := ih e he
      exact ⟨k, v, g1, g2, List.mem_cons_of_mem _ g3⟩
theorem Ents.mem2 {ds : List D} {es : List MapEntry} (h : Ents ds es) : ∀ d ∈ ds, ∃ e ∈ es, ∃ k v, d = .tup [k, v, .int .i64 (e.born : Int)] := by
  induction h with
  | nil => intro e he; cases he
  | cons h1 h2 t ih =>
    intro d hd
    rcases List.mem_cons.1 hd with rfl | hd
    · exact ⟨_, List.mem_cons_self .., _, _, rfl⟩
    · obtain ⟨e, he, k, v, g⟩ := ih d hd
      exact ⟨e, List.mem_cons_of_mem _ he, k, v, g⟩
theorem Ents.find {ds : List D} {es : List MapEntry} (h : Ents ds es) (n : Nat) {d : D} (hd : ds.find? (fun e => bornOf e == (n : Int)) = some d) : ∃ e k v, es.find? (fun e => e.born == n) = some e ∧ d = .tup [k, v, .int .i64 (e.born : Int)] ∧ SRep k e.key ∧ SRep v e.val := by
  induction h with
  | nil => simp at hd
  | @cons k v e ds es h1 h2 t ih =>
    simp only [List.find?_cons] at hd ⊢
    have e1 : (bornOf (.tup [k, v, .int .i64 (e.born : Int)]) == (n : Int)) = (e.born == n) := by
      show ((e.born : Int) == (n : Int)) = _
      rw [Bool.eq_iff_iff]
      simp only [beq_iff_eq]
      omega
    rw [e1] at hd
    split at hd
    · rename_i hb
      injection hd with hd
      exact ⟨e, k, v, rfl, hd.symm, h1, h2⟩
    · exact ih hd

/-! Keys -/
def descOf : TK → TypeDesc
  | .int k => .int k
  | .str => .string
  | _ => .bool
theorem keyOk_desc {t : TypeId} {k : D} {kv : Value} (h : keyOk (tiOf P t).k k = true) (hk : SRep k kv) : P.underlying t = some (descOf (tiOf P t).k) ∧ MapKept.IsKey (descOf (tiOf P t).k) kv := by
  unfold keyOk at h
  split at h
  · rename_i j k' n hj
    simp only [decide_eq_true_eq] at h
    subst h
    rw [hj]
    exact ⟨ti_int hj, by cases hk; rfl⟩
  · rename_i hj
    rw [hj]
    exact ⟨ti_str hj, by cases hk; trivial⟩
  · rename_i hj
    rw [hj]
    exact ⟨ti_bool hj, by cases hk; trivial⟩
  · cases h
theorem sameK_now {tk : TK} {k k' : D} {u u' : Value} {b : Bool} (h : sameK tk k k' = some b) (hk : SRep k u) (hk' : SRep k' u') : Instr.sameNow (descOf tk) u u' = some b ∧ (b = true → u' = u) := by
  unfold sameK at h
  split at h
  · split at h
    · rename_i he
      subst he
      injection h with h
      cases hk; cases hk'
      refine ⟨by simp [descOf, Instr.sameNow, h], fun hb => ?_⟩
      rw [hb] at h
      rw [eq_of_beq h]
    · cases h
  · injection h with h
    cases hk; cases hk'
    rename_i x y
    have e : ((⟨x.toArray⟩ : ByteArray) == ⟨y.toArray⟩) = (x == y) := by
      rw [Bool.eq_iff_iff, MapKept.bytes_beq, beq_iff_eq]
      constructor
      · intro h; injection h with h; simpa using h
      · rintro rfl; rfl
    refine ⟨by simp only [descOf, Instr.sameNow, e, h], fun hb => ?_⟩
    rw [hb] at h
    rw [eq_of_beq h]
  · injection h with h
    cases hk; cases hk'
    refine ⟨by simp [descOf, Instr.sameNow, h], fun hb => ?_⟩
    rw [hb] at h
    rw [eq_of_beq h]
  · cases h
theorem findM_now {tk : TK} {k : D} {kv : Value} (hk : SRep k kv) {ds : List D} {es : List MapEntry} (he : Ents ds es) : ∀ (i : Nat) r, findM tk k ds i = some r →
    (r = none ∧ Instr.findNow (descOf tk) kv es i = some none) ∨ ∃ j v e, r = some (i + j, v) ∧ Instr.findNow (descOf tk) kv es i = some (some (i + j, e.val)) ∧ SRep v e.val ∧ es[j]? = some e ∧ e.key = kv := by
  induction he with
  | nil => intro i r h; injection h with h; exact .inl ⟨h.symm, rfl⟩
  | @cons k' v e ds es h1 h2 t ih =>
    intro i r h
    unfold findM at h
    cases hs : sameK tk k k' with
    | none => rw [hs] at h; cases h
    | some b =>
      obtain ⟨g1, g2⟩ := sameK_now hs hk h1
      rw [hs] at h
      cases b with
      | true =>
        injection h with h
        exact .inr ⟨0, v, e, h.symm, by simp [Instr.findNow, g1], h2, rfl, g2 rfl⟩
      | false =>
        rcases ih (i + 1) r h with ⟨q1, q2⟩ | ⟨j, v', e', q1, q2, q3, q4, q5⟩
        · exact .inl ⟨q1, by simp [Instr.findNow, g1, q2]⟩
        · exact .inr ⟨j + 1, v', e', by rw [q1]; simp only [Option.some.injEq, Prod.mk.injEq, and_true]; omega, by simp only [Instr.findNow, g1, q2]; simp only [Option.some.injEq, Prod.mk.injEq, and_true]; omega, q3, by simpa using q4, q5⟩

theorem ti_map {t kt et : Nat} (h : (tiOf P t).k = .map kt et) : P.underlying t = some (.map kt et) := by
  simp only [tiOf] at h
  cases hu : P.underlying t with
  | none => simp [hu] at h
  | some d => cases d <;> simp [hu] at h ⊢; exact h

theorem Rep.inv_omap {S : Nat → Prop} {t e : Nat} {v : Value} (h : Rep w S ρ (.omap t e) v) : ∃ p, ρ t e = some p ∧ v = .map (some p.b) := by
  cases h with
  | pure h => cases h
  | omap hp => exact ⟨_, hp, rfl⟩

/-- A map at hand. -/
theorem mapAt_inv (h : Sim X ρ σ bx a w) {m : D} {vm : Value} {r : Nat × Int × List D} (hm : mapAt bx m = some r) (hv : Rep w (Stab X ρ bx w) ρ m vm) :
    ∃ p ents clock, (bx r.1).k = 3 ∧ ρ r.1 (bx r.1).ep = some p ∧ vm = .map (some p.b) ∧ ρ.hold p.b = some (.map ents clock) ∧ w.heap[p.b]? = some (.map ents clock) ∧ r.2.1 = (clock : Int) ∧ Ents r.2.2 ents.toList := by
  unfold mapAt at hm
  split at hm
  · rename_i t e
    split at hm
    · rename_i hc
      obtain ⟨he, hk⟩ := hc
      obtain ⟨p, o, g1, g2, g3, g4⟩ := h.maps.has t hk
      obtain ⟨q, k1, rfl⟩ := hv.inv_omap
      rw [← he, g1] at k1; injection k1 with k1; subst k1
      have gw := (h.hold _ _ g2).1
      generalize (bx t).es = es at hm g4
      unfold mapB1 at hm
      split at hm
      · injection hm with hm
        subst hm
        generalize hx : D.int .i64 _ :: _ = l at g4
        cases g4 with
        | @map ents clock es hE =>
          injection hx with h1 h2
          injection h1 with h1 h3
          subst h2; subst h3
          exact ⟨p, ents, clock, hk, g1, rfl, g2, gw, rfl, hE⟩
        | iter => injection hx with h1 h2; cases h1
      · cases hm
    · cases hm
  · cases hm

theorem iterAt_inv (h : Sim X ρ σ bx a w) {x : D} {vx : Value} {r : Nat × D × Int × Int × List D} (hm : iterAt bx x = some r) (hv : Rep w (Stab X ρ bx w) ρ x vx) :
    ∃ p pm since last seen, (bx r.1).k = 3 ∧ ρ r.1 (bx r.1).ep = some p ∧ vx = .pointer (some ⟨p.b, 0, none⟩) ∧ ρ.hold p.b = some (.mapIter (some pm) since seen last) ∧ w.heap[p.b]? = some (.mapIter (some pm) since seen last) ∧
      Rep w (Stab X ρ bx w) ρ r.2.1 (.map (some pm)) ∧ (∃ m k q, r.2.1 = .omap m k ∧ ρ m k = some q ∧ q.b = pm) ∧ r.2.2.1 = (since : Int) ∧ r.2.2.2.1 = (last : Int) ∧ r.2.2.2.2 = seen.toList.map fun n : Nat => D.int .i64 (n : Int) := by
  unfold iterAt at hm
  split at hm
  · rename_i t e
    split at hm
    · rename_i hc
      obtain ⟨he, hk⟩ := hc
      obtain ⟨p, o, g1, g2, g3, g4⟩ := h.maps.has t hk
      obtain ⟨q, k1, rfl⟩ := hv.inv_loc
      rw [← he, g1] at k1; injection k1 with k1; subst k1
      have gw := (h.hold _ _ g2).1
      generalize (bx t).es = es at hm g4
      unfold iterB1 at hm
      split at hm
      · injection hm with hm
        subst hm
        generalize hx : D.omap _ _ :: _ = l at g4
        cases g4 with
        | map => injection hx with h1 h2; cases h1
        | @iter m k pm since last seen hp =>
          injection hx with h1 h2
          injection h2 with h3 h4
          injection h4 with h5 h6
          injection h1 with a1 a2
          injection h3 with b1 b2
          injection h5 with c1 c2
          subst a1; subst a2; subst b2; subst c2; subst h6
          exact ⟨p, pm.b, since, last, seen, hk, g1, by simp, g2, gw, .omap hp, ⟨_, _, pm, rfl, hp, rfl⟩, rfl, rfl, rfl⟩
      · cases hm
    · cases hm
  · cases hm

theorem zero_sound {t : TypeId} {z : D} (hz : zeroV P t = some z) (w : World) (S : Nat → Prop) : ∃ v, (zeroValue t).run P w = .ok v w ∧ PRep w S z v := by
  unfold zeroV at hz
  cases hi : P.info? t with
  | none => simp [hi] at hz
  | some i =>
    cases h0 : i.zero with
    | none => simp [hi, h0] at hz
    | some v =>
      simp only [hi, h0, Option.bind_some, Option.map_some, Option.some.injEq] at hz
      subst hz
      exact ⟨v, by simp [zeroValue, typeInfo, hi, h0, go_sem], rep_ofV v⟩

/-- What a map holds. -/
theorem look_sound (h : Sim X ρ σ bx a w) {T : TypeId} {m k : Operand} {ok : Bool} {d : D} (hv : lookO P (tiOf P) (tiOf P T) bx (ev σ m) (ev σ k) ok = some d) : Yields P X ρ bx a w ⟨dst, .lookup T m k ok, ty, pos, af, g⟩ d := by
  have hm := h.ev m
  have hk := h.ev k
  generalize ev σ m = dm at hv hm
  generalize ev σ k = dk at hv hk
  unfold lookO at hv
  split at hv
  · rename_i kt et hT
    split at hv
    · rename_i hko
      simp only [Option.bind_eq_some_iff] at hv
      obtain ⟨r, hr, hv⟩ := hv
      obtain ⟨p, ents, clock, _, _, hvm, _, hw, _, hE⟩ := mapAt_inv h hr hm
      have hsk : SRep dk (a.eval k) := hk.simple (by
        unfold keyOk at hko
        split at hko <;> first | rfl | cases hko)
      obtain ⟨hu, hik⟩ := keyOk_desc hko hsk
      cases hf : findM (tiOf P kt).k dk r.2.2 0 with
      | none => rw [hf] at hv; cases hv
      | some q =>
        rw [hf] at hv
        have hmap := ti_map hT
        rcases findM_now hsk hE 0 q hf with ⟨rfl, hn⟩ | ⟨j, v, e, rfl, hn, hsv, hj, hkey⟩
        · simp only [valO, Option.map_eq_some_iff] at hv
          obtain ⟨z, hz, rfl⟩ := hv
          obtain ⟨zv, hzr, hzp⟩ := zero_sound hz w (Stab X ρ bx w)
          have hrun : (Instr.lookup T (a.eval m) (a.eval k) ok).run P w = .ok (if ok then .tuple #[zv, .bool false] else zv) w := by
            rw [hvm]
            simp only [Instr.lookup, Sem.run_bind, run_underlying hmap, Result.andThen, MapKept.run_getObj_map hw, Sem.run_pure, MapKept.run_checkKey hu hik, MapKept.run_findKey hu hn, hzr]
          refine yields_same (if ok then .tuple #[zv, .bool false] else zv) (by simp only [execOp, Sem.run_bind, hrun, Result.andThen_ok, Sem.run_pure]) ?_
          cases ok with
          | false => exact .pure hzp
          | true =>
            refine .pure (.tup rfl fun i d v hd hv => ?_)
            match i with
            | 0 => simp at hd hv; subst hd; subst hv; exact hzp
            | 1 => simp at hd hv; subst hd; subst hv; exact .bool false
            | i + 2 => simp at hd
        · simp only [valO, Option.some.injEq] at hv
          subst hv
          have hrun : (Instr.lookup T (a.eval m) (a.eval k) ok).run P w = .ok (if ok then .tuple #[e.val, .bool true] else e.val) w := by
            rw [hvm]
            simp only [Instr.lookup, Sem.run_bind, run_underlying hmap, Result.andThen, MapKept.run_getObj_map hw, Sem.run_pure, MapKept.run_checkKey hu hik, MapKept.run_findKey hu hn]
          refine yields_same (if ok then .tuple #[e.val, .bool true] else e.val) (by simp only [execOp, Sem.run_bind, hrun, Result.andThen_ok, Sem.run_pure]) ?_
          cases ok with
          | false => exact .pure hsv.rep
          | true =>
            refine .pure (.tup rfl fun i d v hd hv => ?_)
            match i with
            | 0 => simp at hd hv; subst hd; subst hv; exact hsv.rep
            | 1 => simp at hd hv; subst hd; subst hv; exact .bool true
            | i + 2 => simp at hd
    · cases hv
  · cases hv

theorem upd_sound (h : Sim X ρ σ bx a w) (hlo : X.lo = 0) {T : TypeId} {m k v : Operand} {bx' : Bxs} (hv : updO (tiOf P) (tiOf P T) bx (ev σ m) (ev σ k) (ev σ v) = some bx') :
    ∃ w' ρ', (execOp a.eval ⟨dst, .mapUpdate T m k v, ty, pos, af, g⟩).run P w = .ok .skip w' ∧ Sim X ρ' σ bx' a w' := by
  have hm := h.ev m
  have hk := h.ev k
  have hvv := h.ev v
  generalize ev σ m = dm at hv hm
  generalize ev σ k = dk at hv hk
  generalize ev σ v = dv at hv hvv
  unfold updO at hv
  split at hv
  · rename_i kt et hT
    split at hv
    · rename_i hko
      obtain ⟨hko, hsv⟩ := hko
      simp only [Option.bind_eq_some_iff, Option.map_eq_some_iff] at hv
      obtain ⟨r, hr, es', hes, rfl⟩ := hv
      obtain ⟨p, ents, clock, h3, hp, hvm, hho, hw, hcl, hE⟩ := mapAt_inv h hr hm
      have hsk : SRep dk (a.eval k) := hk.simple (by
        unfold keyOk at hko
        split at hko <;> first | rfl | cases hko)
      have hsv := hvv.simple hsv
      obtain ⟨hu, hik⟩ := keyOk_desc hko hsk
      have hmap := ti_map hT
      have hlt := (Array.getElem?_eq_some_iff.1 hw).1
      have fin : ∀ (ents' : Array MapEntry) (c' : Nat), Ents es'.tail ents'.toList → es' = .int .i64 (c' : Int) :: es'.tail → (Instr.mapUpdate T (a.eval m) (a.eval k) (a.eval v)).run P w = .ok () (putM w p.b (.map ents' c')) →
          ∃ w' ρ', (execOp a.eval ⟨dst, .mapUpdate T m k v, ty, pos, af, g⟩).run P w = .ok .skip w' ∧ Sim X ρ' σ (V.setM bx r.1 es') a w' := by
        intro ents' c' hE' he hrun
        refine ⟨putM w p.b (.map ents' c'), _, by simp only [execOp, Sem.run_bind, hrun, Result.andThen_ok, Sem.run_pure], h.setM hlo h3 hp hho (es' := es') ?_ (putM_fr w p.b _) (putM_same hlt)⟩
        rw [he]
        exact .map hE'
      unfold updM at hes
      cases hf : findM (tiOf P kt).k dk r.2.2 0 with
      | none => rw [hf] at hes; cases hes
      | some q =>
        rw [hf] at hes
        rcases findM_now hsk hE 0 q hf with ⟨rfl, hn⟩ | ⟨j, v0, e, rfl, hn, _, hj, hkey⟩
        · injection hes with hes
          subst hes
          refine fin (ents.push { key := a.eval k, val := a.eval v, born := clock }) (clock + 1) ?_ (by rw [hcl]; rfl) ?_
          · rw [hcl, Array.toList_push]
            exact hE.snoc (e := { key := a.eval k, val := a.eval v, born := clock }) hsk hsv
          · rw [hvm]
            simp only [Instr.mapUpdate, Sem.run_bind, run_underlying hmap, Result.andThen, MapKept.run_getObj_map hw, MapKept.run_checkKey hu hik, MapKept.run_findKey hu hn, MapKept.run_setObj_map _ hw]
            rfl
        · injection hes with hes
          subst hes
          rw [Nat.zero_add] at *
          have hj' : ents[j]? = some e := by simpa using hj
          refine fin (ents.modify j fun e => { e with key := a.eval k, val := a.eval v }) clock ?_ (by rw [hcl]; rfl) ?_
          · rw [Array.toList_modify]
            exact hE.put hsk hsv j
          · rw [hvm]
            simp only [Instr.mapUpdate, Sem.run_bind, run_underlying hmap, Result.andThen, MapKept.run_getObj_map hw, MapKept.run_checkKey hu hik, MapKept.run_findKey hu hn, hj', Option.map_some, Option.getD_some, hkey, MapKept.run_keyThatStays hik, MapKept.run_setObj_map _ hw]
            rfl
    · cases hv
  · cases hv

theorem del_sound (h : Sim X ρ σ bx a w) (hlo : X.lo = 0) {args : Array Operand} {ats : Array TypeId} {bx' : Bxs} (hv : delLO (tiOf P) ats.toList bx (args.toList.map (ev σ)) = some bx') :
    ∃ w' ρ', (execOp a.eval ⟨dst, .call { callee := .builtin .delete, args := args, argTypes := ats }, ty, pos, af, g⟩).run P w = .ok (.value (.tuple #[])) w' ∧ Sim X ρ' σ bx' a w' := by
  obtain ⟨ats⟩ := ats
  obtain ⟨args⟩ := args
  unfold delLO at hv
  dsimp only at hv
  split at hv
  case h_2 => cases hv
  rename_i T tl m' k' hxs
  match args, hxs with
  | [m, k], hxs =>
  simp only [List.map_cons, List.map_nil, List.cons.injEq, and_true] at hxs
  obtain ⟨rfl, rfl⟩ := hxs
  have hm := h.ev m
  have hk := h.ev k
  generalize ev σ m = dm at hv hm
  generalize ev σ k = dk at hv hk
  unfold delO at hv
  split at hv
  · rename_i kt et hT
    split at hv
    · rename_i hko
      simp only [Option.bind_eq_some_iff, Option.map_eq_some_iff] at hv
      obtain ⟨r, hr, es', hes, rfl⟩ := hv
      obtain ⟨p, ents, clock, h3, hp, hvm, hho, hw, hcl, hE⟩ := mapAt_inv h hr hm
      have hsk : SRep dk (a.eval k) := hk.simple (by
        unfold keyOk at hko
        split at hko <;> first | rfl | cases hko)
      obtain ⟨hu, hik⟩ := keyOk_desc hko hsk
      have hmap := ti_map hT
      have hlt := (Array.getElem?_eq_some_iff.1 hw).1
      have fin : ∀ (ents' : Array MapEntry), Ents es'.tail ents'.toList → es' = .int .i64 (clock : Int) :: es'.tail → (Builtin.delete_ (T :: tl).toArray ty #[a.eval m, a.eval k]).run P w = .ok (.tuple #[]) (putM w p.b (.map ents' clock)) →
          ∃ w' ρ', (execOp a.eval ⟨dst, .call { callee := .builtin .delete, args := [m, k].toArray, argTypes := (T :: tl).toArray }, ty, pos, af, g⟩).run P w = .ok (.value (.tuple #[])) w' ∧ Sim X ρ' σ (V.setM bx r.1 es') a w' := by
        intro ents' hE' he hrun
        refine ⟨putM w p.b (.map ents' clock), _, ?_, h.setM hlo h3 hp hho (es' := es') ?_ (putM_fr w p.b _) (putM_same hlt)⟩
        · simp only [execOp, resolve, invoke, builtin, Sem.run_bind, Sem.run_pure, Result.andThen_ok, hrun, List.map_toArray, List.map_cons, List.map_nil]
        · rw [he]
          exact .map hE'
      unfold delM at hes
      cases hf : findM (tiOf P kt).k dk r.2.2 0 with
      | none => rw [hf] at hes; cases hes
      | some q =>
        rw [hf] at hes
        rcases findM_now hsk hE 0 q hf with ⟨rfl, hn⟩ | ⟨j, v0, e, rfl, hn, _, hj, hkey⟩
        · injection hes with hes
          subst hes
          refine fin ents hE (by rw [hcl]; rfl) ?_
          rw [hvm]
          simp only [Builtin.delete_, Sem.run_bind, run_underlying hmap, Result.andThen, MapKept.run_getObj_map hw, MapKept.run_checkKey hu hik, MapKept.run_findKey hu hn, MapKept.run_setObj_map _ hw, List.getElem?_toArray, List.getElem?_cons_zero, List.getElem?_cons_succ, Sem.run_pure]
          rfl
        · injection hes with hes
          subst hes
          rw [Nat.zero_add] at *
          refine fin (ents.eraseIdxIfInBounds j) ?_ (by rw [hcl]; rfl) ?_
          · have hlt : j < ents.size := by have := (List.getElem?_eq_some_iff.1 hj).1; simpa using this
            simp only [Array.eraseIdxIfInBounds, hlt, dite_true, Array.toList_eraseIdx]
            exact hE.erase j
          · rw [hvm]
            simp only [Builtin.delete_, Sem.run_bind, run_underlying hmap, Result.andThen, MapKept.run_getObj_map hw, MapKept.run_checkKey hu hik, MapKept.run_findKey hu hn, MapKept.run_setObj_map _ hw, List.getElem?_toArray, List.getElem?_cons_zero, List.getElem?_cons_succ, Sem.run_pure]
            rfl
    · cases hv
  · cases hv

theorem lenM_sound (h : Sim X ρ σ bx a w) {args : Array Operand} {ats : Array TypeId} {d : D} (hk : ∃ T kt et, ats.toList = [T] ∧ (tiOf P T).k = .map kt et) (hv : lenO bx (args.toList.map (ev σ)) = some d) :
    ∃ v, (execOp a.eval ⟨dst, .call { callee := .builtin .len, args := args, argTypes := ats }, ty, pos, af, g⟩).run P w = .ok (.value v) w ∧ Rep w (Stab X ρ bx w) ρ d v := by
  obtain ⟨ats⟩ := ats
  obtain ⟨args⟩ := args
  obtain ⟨T, kt, et, rfl, hT⟩ := hk
  unfold lenO at hv
  dsimp only at hv
  split at hv
  case h_2 => cases hv
  rename_i m' hxs
  match args, hxs with
  | [m], hxs =>
  simp only [List.map_cons, List.map_nil, List.cons.injEq, and_true] at hxs
  subst hxs
  simp only [Option.map_eq_some_iff] at hv
  obtain ⟨r, hr, rfl⟩ := hv
  obtain ⟨p, ents, clock, h3, hp, hvm, hho, hw, hcl, hE⟩ := mapAt_inv h hr (h.ev m)
  refine ⟨.int .i64 (ents.size : Int), ?_, ?_⟩
  · have hmap := ti_map hT
    have hrun : (Builtin.len_ [T].toArray ty #[a.eval m]).run P w = .ok (.int .i64 (ents.size : Int)) w := by
      rw [hvm]
      simp only [Builtin.len_, Sem.run_bind, MapKept.run_getObj_map hw, run_underlying hmap, Result.andThen, List.getElem?_toArray, List.getElem?_cons_zero]
      rfl
    simp only [execOp, resolve, invoke, builtin, Sem.run_bind, Sem.run_pure, Result.andThen_ok, hrun, List.map_toArray, List.map_cons, List.map_nil]
  · rw [hE.len, Array.length_toList]
    exact .pure (.int _ _)

theorem makeMap_sound (h : Sim X ρ σ bx a w) (hlo : X.lo = 0) {T d s : Nat} (hd : d < X.N) :
    ∃ v w', (execOp a.eval ⟨some d, .makeMap T none, ty, pos, af, g⟩).run P w = .ok (.value v) w' ∧
      ∃ ρ', Sim X ρ' (upd σ d (.omap s ((bx s).ep + 1))) (upd bx s ⟨(bx s).ep + 1, 3, 0, T, [.int .i64 0]⟩) (a.put (some d) v) w' := by
  obtain ⟨ρ', h', hp⟩ := h.newM (o := .map #[] 0) (es := [.int .i64 0]) hlo s 0 T (.map (clock := 0) .nil)
  refine ⟨.map (some w.heap.size), w.alloc (.map #[] 0), ?_, ρ', h'.put (dst := some d) (fun t ht => by injection ht with ht; subst ht; exact hd) (.omap hp)⟩
  simp [execOp, Instr.makeMap, Result.andThen]

theorem range_sound2 (h : Sim X ρ σ bx a w) (hlo : X.lo = 0) {T d s : Nat} {x : Operand} (hd : d < X.N) {es : List D} (hv : rngO (tiOf P T) bx (ev σ x) = some es) :
    ∃ v w', (execOp a.eval ⟨some d, .range T x, ty, pos, af, g⟩).run P w = .ok (.value v) w' ∧
      ∃ ρ', Sim X ρ' (upd σ d (.loc s ((bx s).ep + 1) 0 0)) (upd bx s ⟨(bx s).ep + 1, 3, 0, 0, es⟩) (a.put (some d) v) w' := by
  have hx := h.ev x
  generalize ev σ x = dx at hv hx
  unfold rngO at hv
  split at hv
  · rename_i kt et hT
    simp only [Option.map_eq_some_iff] at hv
    obtain ⟨r, hr, rfl⟩ := hv
    obtain ⟨p, ents, clock, h3, hp, hvm, hho, hw, hcl, hE⟩ := mapAt_inv h hr hx
    have hdx : ∃ t e, dx = .omap t e := by
      unfold mapAt at hr
      split at hr
      · exact ⟨_, _, rfl⟩
      · cases hr
    obtain ⟨t, e, rfl⟩ := hdx
    obtain ⟨q, k1, k2⟩ := hx.inv_omap
    have hq : q.b = p.b := by rw [hvm] at k2; injection k2 with k2; injection k2 with k2; exact k2.symm
    obtain ⟨ρ', h', hp'⟩ := h.newM (o := .mapIter (some q.b) clock #[] clock) (es := [.omap t e, .int .i64 r.2.1, .int .i64 r.2.1]) hlo s 0 0 (by rw [hcl]; exact .iter (seen := #[]) k1)
    refine ⟨.pointer (some ⟨w.heap.size, 0, none⟩), w.alloc (.mapIter (some q.b) clock #[] clock), ?_, ρ', h'.put (dst := some d) (fun t ht => by injection ht with ht; subst ht; exact hd) (.loc hp' (by simp))⟩
    have hmap := ti_map hT
    have hrun : (Instr.range T (a.eval x)).run P w = .ok (.pointer (some ⟨w.heap.size, 0, none⟩)) (w.alloc (.mapIter (some q.b) clock #[] clock)) := by
      rw [hvm, hq]
      simp [Instr.range, MapKept.run_getObj_map hw, run_underlying hmap, Result.andThen]
    simp only [execOp, Sem.run_bind, hrun, Result.andThen_ok, Sem.run_pure]
  · cases hv

theorem run_getObj_iter {r : Nat} {m : Option Nat} {s l : Nat} {seen : Array Nat} (hb : w.heap[r]? = some (.mapIter m s seen l)) : (getObj r).run P w = .ok (.mapIter m s seen l) w := by
  simp [getObj, Sem.run, hb]

theorem entry_sound (h : Sim X ρ σ bx a w) {it : Operand} {d : D} (hv : entryO bx (ev σ it) = some d) :
    ∃ v, (execOp a.eval ⟨dst, .entry it, ty, pos, af, g⟩).run P w = .ok (.value v) w ∧ Rep w (Stab X ρ bx w) ρ d v := by
  have hx := h.ev it
  generalize ev σ it = dx at hv hx
  simp only [entryO, Option.bind_eq_some_iff] at hv
  obtain ⟨i, hi, r, hr, hv⟩ := hv
  obtain ⟨p, pm, since, last, seen, h3, hp, hvx, hho, hw, hrep, _, hs, hl, hse⟩ := iterAt_inv h hi hx
  obtain ⟨p2, ents, clock, m3, mp, mv, mho, mw, mcl, mE⟩ := mapAt_inv h hr hrep
  injection mv with mv
  injection mv with mv
  split at hv
  · rename_i hcl
    rw [mcl, hl] at hcl
    have hcl : clock = last := by omega
    subst hcl
    unfold entryO1 at hv
    rw [hse] at hv
    split at hv
    · rename_i s hgl
      rw [List.getLast?_map, Option.map_eq_some_iff] at hgl
      obtain ⟨n, hn, rfl⟩ := hgl
      have hback : seen.back? = some n := by rw [← Array.getLast?_toList]; exact hn
      split at hv
      · rename_i k v b hf
        injection hv with hv
        subst hv
        obtain ⟨e, k', v', g1, g2, g3, g4⟩ := mE.find n hf
        injection g2 with g2
        injection g2 with a1 a2
        injection a2 with a3 a4
        subst a1; subst a3
        refine ⟨.tuple #[e.key, e.val], ?_, ?_⟩
        · have hrun : (Instr.entry (a.eval it)).run P w = .ok (.tuple #[e.key, e.val]) w := by
            rw [hvx]
            subst mv
            simp only [Instr.entry, Sem.run_bind, run_getObj_iter hw, MapKept.run_getObj_map mw, Result.andThen, hback, bne_self_eq_false, Bool.false_eq_true, if_false]
            rw [← Array.find?_toList, g1]
            rfl
          simp only [execOp, Sem.run_bind, hrun, Result.andThen_ok, Sem.run_pure]
        · refine .pure (.tup rfl fun i d v hd hv => ?_)
          match i with
          | 0 => simp at hd hv; subst hd; subst hv; exact g3.rep
          | 1 => simp at hd hv; subst hd; subst hv; exact g4.rep
          | i + 2 => simp at hd
      · cases hv
    · cases hv
  · cases hv

theorem run_choose_map (n : Nat) (hn : 0 < n) (w : World) : ∃ (j : Nat) (w1 : World), j < n ∧ (w1 = w ∨ w1 = w.drew) ∧ (choose (Question.mapNext n)).run P w = .ok j w1 := by
  by_cases hf : n ≤ 1
  · exact ⟨0, w, by omega, Or.inl rfl, by simp [choose, Sem.run, Question.forced, hf]⟩
  · exact ⟨_, w.drew, Nat.mod_lt _ hn, Or.inr rfl, by
      simp only [choose, Sem.run, Question.forced, decide_eq_true_eq, hf, if_false, Question.cut]
      rfl⟩

theorem seen_contains (seen : Array Nat) (n : Nat) : ((seen.toList.map fun n : Nat => D.int .i64 (n : Int)).map intOf).contains (n : Int) = seen.contains n := by
  rw [Bool.eq_iff_iff]
  simp only [List.map_map, List.contains_iff_mem, List.mem_map, Function.comp_apply, intOf, Array.contains_iff_mem, ← Array.mem_toList_iff]
  constructor
  · rintro ⟨m, hm, he⟩
    have : m = n := by omega
    exact this ▸ hm
  · intro hm; exact ⟨n, hm, rfl⟩

theorem next_sound (h : Sim X ρ σ bx a w) (hlo : X.lo = 0) {it : Operand} {K : D → Bxs → Prop} (hn : nextD bx (ev σ it) K) :
    ∃ d bx' ρ' v w', (execOp a.eval ⟨dst, .next it false, ty, pos, af, g⟩).run P w = .ok (.value v) w' ∧ K d bx' ∧ Sim X ρ' σ bx' a w' ∧ Rep w' (Stab X ρ' bx' w') ρ' d v := by
  have hx := h.ev it
  generalize ev σ it = dx at hn hx
  unfold nextD at hn
  cases hi : iterAt bx dx with
  | none => rw [hi] at hn; exact hn.elim
  | some i =>
  rw [hi] at hn
  dsimp only [bindD] at hn
  cases hr : mapAt bx i.2.1 with
  | none => rw [hr] at hn; exact hn.elim
  | some r =>
  rw [hr] at hn
  dsimp only at hn
  obtain ⟨hne, hstep, hover⟩ := hn
  obtain ⟨p, pm, since, last, seen, h3, hp, hvx, hho, hw, hrep, ⟨mt, mk, mq, hm1, hm2, hm3⟩, hs, hl, hse⟩ := iterAt_inv h hi hx
  obtain ⟨p2, ents, clock, m3, mp, mv, mho, mw, mcl, mE⟩ := mapAt_inv h hr hrep
  injection mv with mv
  injection mv with mv
  subst mv
  rw [hl, hse] at hne
  rw [hs, hse] at hstep hover
  have hg : (!seen.isEmpty && !ents.isEmpty && ents.all (fun e => decide (e.born ≥ last))) = false := by
    rcases hne with hne | hne | ⟨e, he, hb⟩
    · have : seen = #[] := by
        rw [List.map_eq_nil_iff] at hne
        exact Array.toList_eq_nil_iff.1 hne
      subst this; rfl
    · have : ents = #[] := by
        have := mE.len
        rw [hne] at this
        simpa using this.symm
      subst this; simp
    · obtain ⟨e', he', k, v, rfl⟩ := mE.mem2 e he
      have hb : e'.born < last := by simp only [bornOf] at hb; omega
      have : ents.all (fun e => decide (e.born ≥ last)) = false := by
        rw [Bool.eq_false_iff]
        intro hall
        rw [Array.all_eq_true'] at hall
        have := hall e' (Array.mem_toList_iff.1 he')
        simp only [decide_eq_true_eq] at this
        omega
      rw [this, Bool.and_false]
  have hleft : ∀ e ∈ ents.toList, seen.contains e.born = false → ∃ k v, SRep k e.key ∧ SRep v e.val ∧ D.tup [k, v, .int .i64 (e.born : Int)] ∈ leftM (seen.toList.map fun n : Nat => D.int .i64 (n : Int)) r.2.2 := by
    intro e he hse
    obtain ⟨k, v, g1, g2, g3⟩ := mE.mem e he
    refine ⟨k, v, g1, g2, ?_⟩
    unfold leftM
    rw [List.mem_filter]
    refine ⟨g3, ?_⟩
    show (!(((seen.toList.map fun n : Nat => D.int .i64 (n : Int)).map intOf).contains (e.born : Int))) = true
    rw [seen_contains, hse]; rfl
  have hrun : ∃ c w1, (w1 = w ∨ w1 = w.drew) ∧ ((c = none ∧ (∀ e ∈ ents.toList, seen.contains e.born = false → since ≤ e.born) ∧ (Instr.next (a.eval it) false ty).run P w = .ok (.tuple #[.bool false]) w1) ∨
      ∃ e ∈ ents.toList, c = some e ∧ seen.contains e.born = false ∧ (Instr.next (a.eval it) false ty).run P w = .ok (.tuple #[.bool true, e.key, e.val]) (putM w1 p.b (.mapIter (some p2.b) since (seen.push e.born) clock))) := by
    rw [hvx]
    simp only [Instr.next, Sem.run_bind, run_getObj_iter hw, MapKept.run_getObj_map mw, Result.andThen, hg, Bool.false_eq_true, if_false]
    generalize hL : (ents.filter fun e => !seen.contains e.born) = L
    have memL : ∀ e ∈ L.toList, e ∈ ents.toList ∧ seen.contains e.born = false := by
      intro e he
      rw [← hL] at he
      simpa using he
    have memL2 : ∀ e ∈ ents.toList, seen.contains e.born = false → e ∈ L.toList := by
      intro e he hc
      rw [← hL]
      simpa using ⟨Array.mem_toList_iff.1 he, by simpa using hc⟩
    generalize hO : (L.filter fun e => decide (e.born < since)) = O
    generalize hN : (L.filter fun e => decide (e.born ≥ since)) = N'
    have hsz : 0 < ((if O.isEmpty = true then #[none] else #[]) ++ (O ++ N').map some : Array (Option MapEntry)).size := by
      by_cases hoe : O.isEmpty = true
      · simp only [hoe, if_true, Array.size_append, Array.size_map]
        simp
        omega
      · have : 0 < O.size := by
          rcases Nat.eq_zero_or_pos O.size with h0 | h0
          · exact absurd (by simpa [Array.isEmpty] using h0) hoe
          · exact h0
        simp only [Array.size_append, Array.size_map]
        omega
    obtain ⟨j, w1, hj, hw1, hch⟩ := run_choose_map (P := P) _ hsz w
    simp only [hch]
    have hget := Array.getElem?_eq_getElem hj
    generalize (((if O.isEmpty = true then #[none] else #[]) ++ (O ++ N').map some : Array (Option MapEntry))[j]) = c at hget
    have hmem : c ∈ ((if O.isEmpty = true then #[none] else #[]) ++ (O ++ N').map some : Array (Option MapEntry)) := Array.mem_of_getElem? hget
    rw [hget]
    refine ⟨c, w1, hw1, ?_⟩
    have hw1h : w1.heap = w.heap := by rcases hw1 with rfl | rfl <;> rfl
    cases c with
    | none =>
      refine .inl ⟨rfl, fun e he hc => ?_, rfl⟩
      have hoe : O.isEmpty = true := by
        rw [Array.mem_append] at hmem
        rcases hmem with hmem | hmem
        · by_cases hoe : O.isEmpty = true
          · exact hoe
          · simp [hoe] at hmem
        · simp at hmem
      rcases Nat.lt_or_ge e.born since with hlt | hge
      · exfalso
        have : e ∈ O.toList := by
          rw [← hO]
          simpa using ⟨by simpa using memL2 e he hc, hlt⟩
        have h0 : O = #[] := by simpa [Array.isEmpty] using hoe
        rw [h0] at this
        simp at this
      · exact hge
    | some e =>
      have he : e ∈ L.toList := by
        rw [Array.mem_append] at hmem
        rcases hmem with hmem | hmem
        · by_cases hoe : O.isEmpty = true <;> simp [hoe] at hmem
        · rw [← hO, ← hN] at hmem
          simp at hmem
          rcases hmem with hmem | hmem
          · simpa using hmem.1
          · simpa using hmem.1
      obtain ⟨g1, g2⟩ := memL e he
      refine .inr ⟨e, g1, rfl, g2, ?_⟩
      have hset : (setObj p.b (.mapIter (some p2.b) since (seen.push e.born) clock)).run P w1 = .ok () (putM w1 p.b (.mapIter (some p2.b) since (seen.push e.born) clock)) := by
        have : w1.heap[p.b]? = some (.mapIter (some p2.b) since seen last) := by rw [hw1h]; exact hw
        simp [setObj, Sem.run, this, putM]
      simp only [Sem.run_bind, hset, Result.andThen]
      rfl
  obtain ⟨c, w1, hw1, hrun⟩ := hrun
  have hb1 : Below w.heap.size w w1 := by
    rcases hw1 with rfl | rfl
    · exact Below.refl _ _
    · exact ⟨rfl, rfl, rfl, Nat.le_refl _, fun _ _ => rfl⟩
  have h1 := h.ext hb1
  rcases hrun with ⟨_, hall, hrun⟩ | ⟨e, he, _, hse', hrun⟩
  · refine ⟨_, _, ρ, _, w1, by simp only [execOp, Sem.run_bind, hrun, Result.andThen_ok, Sem.run_pure]; rfl, hover fun d hd => ?_, h1, .pure (.tup rfl fun i d v hd hv => ?_)⟩
    · unfold leftM at hd
      rw [List.mem_filter] at hd
      obtain ⟨hd, hc⟩ := hd
      obtain ⟨e, he, k, v, rfl⟩ := mE.mem2 d hd
      have hc2 : seen.contains e.born = false := by
        have : (!(((seen.toList.map fun n : Nat => D.int .i64 (n : Int)).map intOf).contains (e.born : Int))) = true := hc
        rw [seen_contains] at this
        simpa using this
      have := hall e he hc2
      simp only [bornOf]
      omega
    · match i with
      | 0 => simp at hd hv; subst hd; subst hv; exact .bool false
      | i + 1 => simp at hd
  · obtain ⟨k, v, g1, g2, g3⟩ := hleft e he hse'
    have hlt : p.b < w1.heap.size := Nat.lt_of_lt_of_le (Array.getElem?_eq_some_iff.1 hw).1 hb1.size
    have hNO : NObj ρ (.mapIter (some p2.b) since (seen.push e.born) clock) (i.2.1 :: .int .i64 (since : Int) :: .int .i64 r.2.1 :: ((seen.toList.map fun n : Nat => D.int .i64 (n : Int)) ++ [.int .i64 (e.born : Int)])) := by
      rw [hm1, ← hm3, mcl]
      have := NObj.iter (ρ := ρ) (p := mq) (since := since) (last := clock) (seen := seen.push e.born) hm2
      simpa using this
    have h2 := h1.setM hlo h3 hp hho hNO (putM_fr w1 p.b _) (putM_same hlt)
    refine ⟨_, _, _, _, _, by simp only [execOp, Sem.run_bind, hrun, Result.andThen_ok, Sem.run_pure]; rfl, hstep k v e.born g3, h2, .pure (.tup rfl fun i d v hd hv => ?_)⟩
    match i with
    | 0 => simp at hd hv; subst hd; subst hv; exact .bool true
    | 1 => simp at hd hv; subst hd; subst hv; exact g1.rep
    | 2 => simp at hd hv; subst hd; subst hv; exact g2.rep
    | i + 3 => simp at hd

end Go.V

namespace Go.V
open Go.RowKit

/-- The fence that bars nothing, in an activation or in a round. -/
abbrev Fw (r : Option Nat) : Fence := { Fence.wide with round := r }

variable {P : Program} {C : Calc} {X : Ctx} {ρ : Rho} {σ : Env} {bx : Bxs} {a : Act} {w : World} {r : Option Nat} {n : Nat}

theorem callsIn_fw {f : FuncId} {args : Array Value} {R : Ending → World → Prop} (h : Calls P f args w R) : CallsIn (Fw r) n P f args w R := callsIn_wide.2 h

section
variable {o : Oper} {next : Act → World → Prop} {Q : Exit → Act → World → Prop}

theorem up_value (hd : ∀ c, o.op ≠ .defer c) {v : Value} {w' : World} (hr : (execOp a.eval o).run P w = .ok (.value v) w') (hn : next (a.put o.dst v) w') : o.wpIn (Fw r) n P a w next Q := by
  refine ⟨fun _ _ => trivial, ?_⟩
  rw [Oper.semAt_eq _ _ _ hd, hr]
  exact hn

theorem up_skip (hd : ∀ c, o.op ≠ .defer c) {w' : World} (hr : (execOp a.eval o).run P w = .ok .skip w') (hn : next (a.put o.dst undef) w') : o.wpIn (Fw r) n P a w next Q := by
  refine ⟨fun _ _ => trivial, ?_⟩
  rw [Oper.semAt_eq _ _ _ hd, hr]
  exact hn

theorem up_call {c : Call} (ho : o.op = .call c) {f : FuncId} {vs : Array Value} (hr : (execOp a.eval o).run P w = (callFunc f vs).run P w) (hc : CarriedP P f vs w (fun v w' => next (a.put o.dst v) w') (fun v w' => Q (.panic [pe v]) a w')) : o.wpIn (Fw r) n P a w next Q := by
  refine ⟨fun _ _ => trivial, ?_⟩
  rw [Oper.semAt_eq _ _ _ (by rw [ho]; simp), hr]
  rcases hc with ⟨h1, h2⟩ | ⟨v, w', h1, h2⟩
  · rw [h1]
    refine ⟨fun h => by simp [Fence.wide] at h, callsIn_fw (Calls.mono h2 ?_)⟩
    rintro e w' (⟨v, rfl, hv⟩ | ⟨v, rfl, hv⟩)
    · exact hv
    · exact hv
  · rw [h1]
    exact h2

theorem up_panic (hd : ∀ c, o.op ≠ .defer c) {v : Value} {w' : World} (hr : (execOp a.eval o).run P w = .halt (.panic v) w') (hn : Q (.panic [pe v]) a w') : o.wpIn (Fw r) n P a w next Q := by
  refine ⟨fun _ _ => trivial, ?_⟩
  rw [Oper.semAt_eq _ _ _ hd, hr]
  exact hn
end

theorem slotR_np (d x : D) : slotR d ≠ .pan x := by unfold slotR; split <;> simp
theorem slotW_np (d x : D) : slotW d ≠ .pan x := by unfold slotW; split <;> simp
/-- The step's own slot, of which nothing is said. -/
theorem Sim.putU {dst : Option Tmp} (h : Sim X ρ σ bx a w) (hd : ∀ t, dst = some t → t < X.N) : Sim X ρ (V.put σ dst .undef) bx a w := by
  cases dst with
  | none => exact h
  | some t =>
    have hdf : dfS ≠ t := by
      intro e
      exact absurd (hd t rfl) (by rw [← e]; exact Nat.not_lt.2 h.nle)
    refine { h with marks := ?_, tmps := fun x => ?_ }
    · simpa [V.put, upd, hdf] using h.marks
    · simp only [V.put, upd]
      by_cases hx : x = t
      · simp only [hx, if_true]; exact Rep.pure (PRep.undef _)
      · simp only [hx, if_false]; exact h.tmps x

theorem step_val (h : Sim X ρ σ bx a w) {o : Oper} {cl : D → Cl} (hdst : ∀ t, o.dst = some t → t < X.N) {K : Cl → Env → Bxs → Prop} (hs : bindD (valD P σ bx o.op) fun v => K (cl v) (put σ o.dst v) bx) (hcl : ∀ d x, cl d ≠ .pan x)
    {next : Act → World → Prop} {Q : Exit → Act → World → Prop} (hK : ∀ c σ' bx' a' w' ρ', (∀ x, c ≠ .pan x) → K c σ' bx' → Sim X ρ' σ' bx' a' w' → next a' w') : o.wpIn (Fw r) n P a w next Q := by
  cases hv : valD P σ bx o.op with
  | none => rw [hv] at hs; exact hs.elim
  | some d =>
    rw [hv] at hs
    obtain ⟨v, w', hr, hb, hrep⟩ := val_sound h o hv
    refine up_value (fun c hc => by rw [hc] at hv; simp [valD] at hv) hr (hK _ _ _ _ _ _ (hcl d) hs ((h.ext hb).put hdst ?_))
    exact hrep

theorem slotM_np (d x : D) : slotM d ≠ .pan x := by unfold slotM; split <;> simp
/-- an operation on a map -/
theorem mapS_sound (h : Sim X ρ σ bx a w) (xlo : X.lo = 0) {dst : Option Tmp} {op : Op} {ty : TypeId} {pos : String} {af : Array Edge} {g : Option (Nat × Bool)} (hmo : mapOp P op = true) (hdst : ∀ t, dst = some t → t < X.N) {K : Cl → Env → Bxs → Prop} (hs : mapS P C dst op σ bx K)
    {next : Act → World → Prop} {Q : Exit → Act → World → Prop} (hK : ∀ c σ' bx' a' w' ρ', (∀ x, c ≠ .pan x) → K c σ' bx' → Sim X ρ' σ' bx' a' w' → next a' w') : (Oper.mk dst op ty pos af g).wpIn (Fw r) n P a w next Q := by
  unfold mapS at hs
  split at hs
  · rename_i T
    split at hs
    · rename_i d
      obtain ⟨v, w', hr, ρ', h'⟩ := makeMap_sound (T := T) (s := C.base + d) (ty := ty) (pos := pos) (af := af) (g := g) (P := P) h xlo (hdst d rfl)
      exact up_value (by simp) hr (hK _ _ _ _ _ _ (by intro x; simp) hs h')
    · exact hs.elim
  · rename_i T m k v
    cases hz : updO (tiOf P) (tiOf P T) bx (ev σ m) (ev σ k) (ev σ v) with
    | none => rw [hz] at hs; exact hs.elim
    | some bx' =>
      rw [hz] at hs
      obtain ⟨w', ρ', hr, h'⟩ := upd_sound (dst := dst) (ty := ty) (pos := pos) (af := af) (g := g) h xlo hz
      exact up_skip (by simp) hr (hK _ _ _ _ _ _ (by intro x; simp) hs (h'.put hdst (.pure (.raw _))))
  · rename_i T x
    split at hs
    · rename_i d
      cases hz : rngO (tiOf P T) bx (ev σ x) with
      | none => rw [hz] at hs; exact hs.elim
      | some es =>
        rw [hz] at hs
        obtain ⟨v, w', hr, ρ', h'⟩ := range_sound2 (s := C.base + d) (ty := ty) (pos := pos) (af := af) (g := g) h xlo (hdst d rfl) hz
        exact up_value (by simp) hr (hK _ _ _ _ _ _ (by intro x; simp) hs h')
    · exact hs.elim
  · rename_i it
    obtain ⟨d, bx', ρ', v, w', hr, hk, h', hrep⟩ := next_sound (dst := dst) (ty := ty) (pos := pos) (af := af) (g := g) (P := P) h xlo hs
    exact up_value (by simp) hr (hK _ _ _ _ _ _ (by intro x; simp) hk (h'.put hdst hrep))
  · rename_i it
    cases hz : entryO bx (ev σ it) with
    | none => rw [hz] at hs; exact hs.elim
    | some d =>
      rw [hz] at hs
      obtain ⟨v, hr, hrep⟩ := entry_sound (dst := dst) (ty := ty) (pos := pos) (af := af) (g := g) (P := P) h hz
      exact up_value (by simp) hr (hK _ _ _ _ _ _ (by intro x; simp) hs (h.put hdst hrep))
  · rename_i b args ats
    split at hs
    · cases hz : delLO (tiOf P) ats.toList bx (args.toList.map (ev σ)) with
      | none => rw [hz] at hs; exact hs.elim
      | some bx' =>
        rw [hz] at hs
        obtain ⟨w', ρ', hr, h'⟩ := del_sound (dst := dst) (ty := ty) (pos := pos) (af := af) (g := g) h xlo hz
        exact up_value (by simp) hr (hK _ _ _ _ _ _ (by intro x; simp) hs (h'.put hdst (.pure (.raw _))))
    · cases hz : lenO bx (args.toList.map (ev σ)) with
      | none => rw [hz] at hs; exact hs.elim
      | some d =>
        rw [hz] at hs
        have hk : ∃ T kt et, ats.toList = [T] ∧ (tiOf P T).k = .map kt et := by
          simp only [mapOp] at hmo
          split at hmo
          · rename_i T hT
            refine ⟨T, ?_⟩
            cases hk : (tiOf P T).k <;> rw [hk] at hmo <;> simp [TK.isMap] at hmo
            exact ⟨_, _, hT, rfl⟩
          · cases hmo
        obtain ⟨v, hr, hrep⟩ := lenM_sound (dst := dst) (ty := ty) (pos := pos) (af := af) (g := g) h hk hz
        exact up_value (by simp) hr (hK _ _ _ _ _ _ (by intro x; simp) hs (h.put hdst hrep))
    · exact hs.elim
  · exact hs.elim

/-- **ONE OPERATION.** -/
theorem step_sound (h : Sim X ρ σ bx a w) (hG : Good P C X) (hrd : ∀ l, r = some l → X.md = 1) {o : Oper} (hdst : ∀ t, o.dst = some t → t < X.N) {K : Cl → Env → Bxs → Prop} (hs : stepD P C o σ bx K)
    {next : Act → World → Prop} {Q : Exit → Act → World → Prop} (hK : ∀ c σ' bx' a' w' ρ', (∀ x, c ≠ .pan x) → K c σ' bx' → Sim X ρ' σ' bx' a' w' → next a' w')
    (hP : ∀ d σ' bx' a' w' ρ' v, K (.pan d) σ' bx' → Sim X ρ' σ' bx' a' w' → Rep w' (Stab X ρ' bx' w') ρ' d v → Q (.panic [pe v]) a' w') : o.wpIn (Fw r) n P a w next Q := by
  unfold stepD at hs
  obtain ⟨dst, op, ty, pos, af, g⟩ := o
  dsimp only at hs hdst
  split at hs
  · rename_i T
    split at hs
    · rename_i d
      cases hz : zeroD (tiOf P T) with
      | none => rw [hz] at hs; exact hs.elim
      | some z =>
        rw [hz] at hs
        obtain ⟨v, w', hr, ρ', h'⟩ := alloc_sound (ty := ty) (pos := pos) (af := af) (g := g) h (hdst d rfl) (Nat.le_trans hG.base (Nat.le_add_right C.base d)) hz
        exact up_value (by simp) hr (hK _ _ _ _ _ _ (by intro x; simp) hs h')
    · exact hs.elim
  · rename_i T x
    split at hs
    · rename_i d
      cases hz : boxD (tiOf P T) (ev σ x) with
      | none => rw [hz] at hs; exact hs.elim
      | some z =>
        rw [hz] at hs
        obtain ⟨v, w', hr, ρ', h'⟩ := box_sound (ty := ty) (pos := pos) (af := af) (g := g) h (hdst d rfl) (Nat.le_trans hG.base (Nat.le_add_right C.base d)) hz
        exact up_value (by simp) hr (hK _ _ _ _ _ _ (by intro x; simp) hs h')
    · exact hs.elim
  · rename_i T x y
    cases hz : storeD C.lo (tiOf P T) bx (ev σ x) (ev σ y) with
    | none => rw [hz] at hs; exact hs.elim
    | some bx' =>
      rw [hz] at hs
      obtain ⟨w', hr, ρ', h'⟩ := store_sound (ty := ty) (pos := pos) (af := af) (g := g) h hdst hG.lo hz
      exact up_skip (by simp) hr (hK _ _ _ _ _ _ (slotW_np _) hs h')
  · rename_i T x
    exact step_val (o := ⟨dst, .load T x, ty, pos, af, g⟩) (cl := fun _ => slotR (ev σ x)) h hdst hs (fun _ => slotR_np _) hK
  · rename_i args ats
    split at hs
    · obtain ⟨_, hs⟩ := hs
      cases hz : appQL C.lo (tiOf P) ats.toList (slotO C.base dst) bx (args.toList.map (ev σ)) with
      | none => rw [hz] at hs; exact hs.elim
      | some rr =>
        rw [hz] at hs
        obtain ⟨args⟩ := args
        obtain ⟨ats⟩ := ats
        dsimp only at hz
        unfold appQL at hz
        split at hz
        case h_2 => cases hz
        rename_i T T' d1 d2 hxs
        match args, hxs with
        | [x, y], hxs =>
        simp only [List.map_cons, List.map_nil, List.cons.injEq, and_true] at hxs
        obtain ⟨rfl, rfl⟩ := hxs
        obtain ⟨v, w', hr, ρ', h' | h'⟩ := append2_sound (ty := ty) (pos := pos) (af := af) (g := g) h hdst hG.lo hG.base hz
        · exact up_value (by simp) hr (hK _ _ _ _ _ _ (by intro x; simp) hs.1 h')
        · exact up_value (by simp) hr (hK _ _ _ _ _ _ (by intro x; simp) hs.2 h')
    · cases hz : appLD C.lo (tiOf P) ats.toList (slotO C.base dst) bx (args.toList.map (ev σ)) with
      | none => rw [hz] at hs; exact hs.elim
      | some rr =>
        rw [hz] at hs
        obtain ⟨args⟩ := args
        obtain ⟨ats⟩ := ats
        dsimp only at hz
        unfold appLD at hz
        split at hz
        case h_2 => cases hz
        rename_i T T' d1 d2 hxs
        match args, hxs with
        | [x, y], hxs =>
        simp only [List.map_cons, List.map_nil, List.cons.injEq, and_true] at hxs
        obtain ⟨rfl, rfl⟩ := hxs
        obtain ⟨v, w', hr, ρ', h'⟩ := append_sound (ty := ty) (pos := pos) (af := af) (g := g) h hdst hG.lo hG.base hz
        exact up_value (by simp) hr (hK _ _ _ _ _ _ (by intro x; simp) hs h')
  · rename_i fo args ats
    have hfo := h.ev fo
    generalize ev σ fo = df at hs hfo
    unfold callV at hs
    split at hs
    · rename_i f caps
      obtain ⟨vs, hval, hl, hv⟩ := hfo.inv_fn
      refine up_call (c := { callee := .value fo, args := args, argTypes := ats }) rfl (f := f) (vs := args.map a.eval ++ vs) (by simp [execOp, resolve, hval, Deferred.ofValue, invoke]) ?_
      have hc := callD_sound (vs := args.map a.eval ++ vs) h hG (by simp [hl]) (fun i x v hx hv' => by
        rw [Array.getElem?_append] at hv'
        rw [List.getElem?_append] at hx
        simp only [List.length_map, Array.length_toList, Array.size_map] at hx hv'
        split at hv'
        · rename_i hlt
          rw [if_pos hlt] at hx
          simp only [List.getElem?_map, Array.getElem?_toList, Array.getElem?_map, Option.map_eq_some_iff] at hx hv'
          obtain ⟨o1, h1, rfl⟩ := hx
          obtain ⟨o2, h2, rfl⟩ := hv'
          rw [h1] at h2; injection h2 with h2; subst h2
          exact h.ev o1
        · rename_i hlt
          rw [if_neg hlt] at hx
          exact hv _ _ _ hx hv') hs
      refine hc.mono ?_ ?_
      · rintro v w' ⟨c, d, bx', ρ', g0, g1, g2, g3⟩
        exact hK _ _ _ _ _ _ g0 g1 (g2.put hdst g3)
      · rintro v w' ⟨d, bx', ρ', g1, g2, g3⟩
        exact hP _ _ _ _ _ _ _ g1 (g2.putU hdst) g3
    · rename_i l
      obtain ⟨vs, hval, hl, _⟩ := hfo.inv_fn
      have hvs : vs = #[] := by simpa using hl
      subst hvs
      unfold yieldD at hs
      split at hs
      · rename_i items gs l' hyl
        obtain ⟨⟨rfl, hp, hi⟩, hK2⟩ := hs
        obtain ⟨f, tm, as, bd, hr, hround⟩ := hG.yok items gs l' hyl ρ σ bx a w (args.map a.eval) (args.toList.map (ev σ)) h hi (by simp) (fun i x v hx hv => by
          simp only [List.getElem?_map, Array.getElem?_toList, Array.getElem?_map, Option.map_eq_some_iff] at hx hv
          obtain ⟨o1, h1, rfl⟩ := hx
          obtain ⟨o2, h2, rfl⟩ := hv
          rw [h1] at h2; injection h2 with h2; subst h2
          exact (h.ev o1).toP (pureL_mem _ hp i _ (by simp only [List.getElem?_map, Array.getElem?_toList, h1, Option.map_some])))
        refine ⟨fun _ _ => trivial, ?_⟩
        rw [Oper.semAt_eq _ _ _ (by simp)]
        have hrun : (execOp a.eval ⟨dst, .call { callee := .value fo, args := args, argTypes := ats }, ty, pos, af, g⟩).run P w = .ok (.round l' f tm as bd) w := by
          simp only [execOp, resolve, hval, Deferred.ofValue, invoke, Sem.run_bind, Sem.run_pure, Result.andThen_ok, Array.empty_append]
          exact hr
        rw [hrun]
        refine ⟨fun h => by simp [Fence.wide] at h, ?_⟩
        refine RoundIn.mono (show RoundIn (Fw r) _ P l' f tm as bd w _ from hround _) ?_
        rintro e w2 ⟨ρ2, bx1, b, rfl, hS⟩
        cases b with
        | true => exact hK _ _ _ _ _ _ (by intro x; simp) (hK2 bx1).1 (hS.put hdst (.pure (.bool true)))
        | false => exact hK _ _ _ _ _ _ (by intro x; simp) (hK2 bx1).2 (hS.put hdst (.pure (.bool false)))
      · exact hs.elim
    · rename_i f caps
      obtain ⟨vs, hval, hl, hv⟩ := hfo.inv_bfn
      refine up_call (c := { callee := .value fo, args := args, argTypes := ats }) rfl (f := f) (vs := vs ++ args.map a.eval) (by simp [execOp, resolve, hval, Deferred.ofValue, invoke]) ?_
      have hc := callD_sound (vs := vs ++ args.map a.eval) h hG (by simp [hl]) (fun i x v hx hv' => by
        rw [Array.getElem?_append] at hv'
        rw [List.getElem?_append] at hx
        rw [hl] at hv'
        split at hv'
        · rename_i hlt
          rw [if_pos hlt] at hx
          exact hv _ _ _ hx hv'
        · rename_i hlt
          rw [if_neg hlt] at hx
          simp only [List.getElem?_map, Array.getElem?_toList, Array.getElem?_map, Option.map_eq_some_iff] at hx hv'
          obtain ⟨o1, h1, rfl⟩ := hx
          obtain ⟨o2, h2, rfl⟩ := hv'
          rw [h1] at h2; injection h2 with h2; subst h2
          exact h.ev o1) hs
      refine hc.mono ?_ ?_
      · rintro v w' ⟨c, d, bx', ρ', g0, g1, g2, g3⟩
        exact hK _ _ _ _ _ _ g0 g1 (g2.put hdst g3)
      · rintro v w' ⟨d, bx', ρ', g1, g2, g3⟩
        exact hP _ _ _ _ _ _ _ g1 (g2.putU hdst) g3
    · exact hs.elim
  · rename_i x
    obtain ⟨_, hs⟩ := hs
    unfold panV at hs
    have hx := h.ev x
    generalize ev σ x = dx at hs hx
    split at hs
    · obtain ⟨u, hu, _⟩ := hx.inv_ifc
      exact up_panic (v := a.eval x) (w' := w) (by simp) (by simp [execOp, hu, Instr.panic, goPanic, Sem.run]) (hP _ _ _ _ _ _ _ hs h hx)
    · exact hs.elim
  · rename_i fo args ats
    obtain ⟨hdf, hs⟩ := hs
    have hmd := hG.df hdf
    have hr0 : r = none := by
      cases r with
      | none => rfl
      | some l => have := hrd l rfl; omega
    subst hr0
    have hfo := h.ev fo
    split at hs
    · rename_i f caps hfc
      rw [hfc] at hfo
      obtain ⟨vs, hval, hl, hv⟩ := hfo.inv_fn
      refine ⟨fun _ _ => trivial, ?_⟩
      show Oper.uponIn (Fw none) n P _ a next Q ((Oper.semAt none a.eval _).run P w)
      rw [Oper.semAt_none]
      have hrun : (execOp a.eval ⟨dst, .defer { callee := .value fo, args := args, argTypes := ats }, ty, pos, af, g⟩).run P w = .ok (.defer { target := .fn (.func f) vs, args := args.map a.eval }) w := by
        simp [execOp, resolve, hval, Deferred.ofValue]
      rw [hrun]
      show next _ w
      refine hK _ _ _ _ _ _ (by intro x; simp) hs (Sim.put (ρ := ρ) (a := { a with defers := { target := .fn (.func f) vs, args := args.map a.eval } :: a.defers }) ?_ hdst (.pure (.raw _)))
      refine { h with marks := ?_, tmps := fun t => ?_ }
      · have hm := h.marks
        rcases hm with hm | hm
        · omega
        · refine .inr ?_
          refine ⟨?_, fun h3 => by omega⟩
          obtain ⟨hm, _⟩ := hm
          rw [if_neg (by omega)] at hm ⊢
          have e : recD (upd σ dfS (pushD (σ dfS) (.fn (.func f) caps) (args.toList.map (ev σ))) dfS) = .tup (.fn (.func f) caps :: args.toList.map (ev σ)) :: recD (σ dfS) := by
            rw [upd_same]
            cases σ dfS <;> rfl
          rw [e]
          refine .call hl hv (by simp) (fun i d v hd hv' => ?_) hm
          simp only [List.getElem?_map, Array.getElem?_toList, Array.getElem?_map, Option.map_eq_some_iff] at hd hv'
          obtain ⟨o1, h1, rfl⟩ := hd
          obtain ⟨o2, h2, rfl⟩ := hv'
          rw [h1] at h2; injection h2 with h2; subst h2
          exact h.ev o1
      · simp only [upd]
        split
        · unfold pushD
          split <;> exact .pure (.any _ _)
        · exact h.tmps t
    · exact hs.elim
  · rename_i T l c
    split at hs
    · rename_i d
      cases hz : mkslD (tiOf P) (tiOf P T) (ev σ l) (ev σ c) with
      | none => rw [hz] at hs; exact hs.elim
      | some z =>
        rw [hz] at hs
        obtain ⟨v, w', hr, ρ', h'⟩ := mksl_sound (ty := ty) (pos := pos) (af := af) (g := g) h (hdst d rfl) (Nat.le_trans hG.base (Nat.le_add_right C.base d)) hz
        exact up_value (by simp) hr (hK _ _ _ _ _ _ (by intro x; simp) hs h')
    · exact hs.elim
  · unfold stepE at hs
    split at hs
    · rename_i T m ps _ _ _ _ _ _ _ _ _
      split at hs
      · split at hs
        · rename_i d _
          cases hz : litXD (tiOf P) (tiOf P T) m (ps.toList.map fun p => (p.1, ev σ p.2)) with
          | none => rw [hz] at hs; exact hs.elim
          | some z =>
            rw [hz] at hs
            obtain ⟨v, w', hr, ρ', h'⟩ := litX_sound (ty := ty) (pos := pos) (af := af) (g := g) h (hdst d rfl) (Nat.le_trans hG.base (Nat.le_add_right C.base d)) hz
            exact up_value (by simp) hr (hK _ _ _ _ _ _ (by intro x; simp) hs h')
        · exact hs.elim
      · exact step_val (o := ⟨dst, .buildSlice T m ps, ty, pos, af, g⟩) (cl := fun _ => .n) h hdst hs (by intro d x; simp) hK
    · rename_i T m k ok _ _ _ _ _ _ _ _ _
      cases hz : lookO P (tiOf P) (tiOf P T) bx (ev σ m) (ev σ k) ok with
      | none => rw [hz] at hs; exact hs.elim
      | some d =>
        rw [hz] at hs
        obtain ⟨v, w', hr, hb, hrep⟩ := look_sound (dst := dst) (ty := ty) (pos := pos) (af := af) (g := g) h hz
        exact up_value (by simp) hr (hK _ _ _ _ _ _ (slotM_np _) hs ((h.ext hb).put hdst hrep))
    · split at hs
      · rename_i hmo
        obtain ⟨_, hlo, hs⟩ := hs
        exact mapS_sound h (by have := hG.lo; omega) hmo hdst hs hK
      · exact step_val (cl := fun _ => .n) h hdst hs (by intro d x; simp) hK

end Go.V

namespace Go.V
open Go.RowKit

variable {P : Program} {C : Calc} {σ σ₂ : Env} {bx bx₂ : Bxs}

theorem bindD_mono {α : Type} {x : Option α} {f g : α → Prop} (h : ∀ v, f v → g v) (hx : bindD x f) : bindD x g := by
  cases x with
  | none => exact hx
  | some v => exact h v hx
theorem callD_mono {f : FuncId} {ds : List D} {K K' : Cl → D → Bxs → Prop} (h : ∀ c d bx, K c d bx → K' c d bx) (hc : callD C f ds bx K) : callD C f ds bx K' := by
  rcases hc with ⟨d, h1, h2, h3⟩ | ⟨ds', d, h1, h2, h3, h4⟩ | ⟨ds', d, h1, h2, h3, h4⟩ | ⟨Post, Pan, h1, h2, h3, h4⟩
  · exact .inl ⟨d, h1, h2, h _ _ _ h3⟩
  · exact .inr (.inl ⟨ds', d, h1, h2, h3, h _ _ _ h4⟩)
  · exact .inr (.inr (.inl ⟨ds', d, h1, h2, h3, h _ _ _ h4⟩))
  · exact .inr (.inr (.inr ⟨Post, Pan, h1, h2, fun d bx' hp => (h3 d bx' hp).imp (h _ _ _) (fun ⟨r, r', g1, g2, g3⟩ => ⟨r, r', g1, g2, h _ _ _ g3⟩), fun d bx' hp => h _ _ _ (h4 d bx' hp)⟩))
theorem yieldD_mono {l : Nat} {ds : List D} {K K' : Cl → D → Bxs → Prop} (h : ∀ c d bx, K c d bx → K' c d bx) (hc : yieldD C l ds bx K) : yieldD C l ds bx K' := by
  unfold yieldD at hc ⊢
  split at hc
  · exact ⟨hc.1, fun bx1 => ⟨h _ _ _ (hc.2 bx1).1, h _ _ _ (hc.2 bx1).2⟩⟩
  · exact hc.elim
theorem callV_mono {d : D} {ds : List D} {K K' : Cl → D → Bxs → Prop} (h : ∀ c d bx, K c d bx → K' c d bx) (hc : callV C d ds bx K) : callV C d ds bx K' := by
  unfold callV at hc ⊢
  split at hc
  · exact callD_mono h hc
  · exact yieldD_mono h hc
  · exact callD_mono h hc
  · exact hc.elim
theorem panV_mono {d : D} {f g : D → Prop} (h : ∀ d, f d → g d) (hx : panV d f) : panV d g := by
  cases d <;> first | exact h _ hx | exact hx
theorem nextD_mono {x : D} {K K' : D → Bxs → Prop} (h : ∀ d bx, K d bx → K' d bx) (hs : nextD bx x K) : nextD bx x K' :=
  bindD_mono (fun _ => bindD_mono fun _ hh => ⟨hh.1, fun k v b hm => h _ _ (hh.2.1 k v b hm), fun ha => h _ _ (hh.2.2 ha)⟩) hs
theorem mapS_mono {dst : Option Tmp} {op : Op} {K K' : Cl → Env → Bxs → Prop} (h : ∀ c σ bx, K c σ bx → K' c σ bx) (hs : mapS P C dst op σ bx K) : mapS P C dst op σ bx K' := by
  unfold mapS at hs ⊢
  split at hs
  · split at hs
    · exact h _ _ _ hs
    · exact hs.elim
  · exact bindD_mono (fun _ => h _ _ _) hs
  · split at hs
    · exact bindD_mono (fun _ => h _ _ _) hs
    · exact hs.elim
  · exact nextD_mono (fun _ _ => h _ _ _) hs
  · exact bindD_mono (fun _ => h _ _ _) hs
  · split at hs
    · exact bindD_mono (fun _ => h _ _ _) hs
    · exact bindD_mono (fun _ => h _ _ _) hs
    · exact hs.elim
  · exact hs.elim
theorem stepE_mono {dst : Option Tmp} {op : Op} {K K' : Cl → Env → Bxs → Prop} (h : ∀ c σ bx, K c σ bx → K' c σ bx) (hs : stepE P C dst op σ bx K) : stepE P C dst op σ bx K' := by
  cases op with
  | buildSlice T n ps =>
    unfold stepE at hs ⊢
    dsimp only at hs ⊢
    split at hs
    · rename_i ho
      rw [if_pos ho]
      split at hs
      · exact bindD_mono (fun _ => h _ _ _) hs
      · exact hs.elim
    · rename_i ho
      rw [if_neg ho]
      exact bindD_mono (fun _ => h _ _ _) hs
  | lookup T m k ok =>
    unfold stepE at hs ⊢
    exact bindD_mono (fun _ => bindD_mono fun _ => h _ _ _) hs
  | _ =>
    unfold stepE at hs ⊢
    dsimp only at hs ⊢
    split at hs
    · rename_i hm
      rw [if_pos hm]
      exact ⟨hs.1, hs.2.1, mapS_mono h hs.2.2⟩
    · rename_i hm
      rw [if_neg hm]
      exact bindD_mono (fun _ => h _ _ _) hs
theorem stepD_mono {o : Oper} {K K' : Cl → Env → Bxs → Prop} (h : ∀ c σ bx, K c σ bx → K' c σ bx) (hs : stepD P C o σ bx K) : stepD P C o σ bx K' := by
  unfold stepD at hs ⊢
  split at hs
  · split at hs
    · exact bindD_mono (fun _ => bindD_mono fun _ => h _ _ _) hs
    · exact hs.elim
  · split at hs
    · exact bindD_mono (fun _ => bindD_mono fun _ => h _ _ _) hs
    · exact hs.elim
  · exact bindD_mono (fun _ => bindD_mono fun _ => h _ _ _) hs
  · exact bindD_mono (fun _ => bindD_mono fun _ => h _ _ _) hs
  · split at hs
    · rename_i hin
      rw [if_pos hin]
      exact ⟨hs.1, bindD_mono (fun _ hh => ⟨h _ _ _ hh.1, h _ _ _ hh.2⟩) hs.2⟩
    · rename_i hin
      rw [if_neg hin]
      exact bindD_mono (fun _ => h _ _ _) hs
  · exact callV_mono (fun _ _ _ => h _ _ _) hs
  · exact ⟨hs.1, panV_mono (fun _ => h _ _ _) hs.2⟩
  · refine ⟨hs.1, ?_⟩
    have hs := hs.2
    split at hs
    · exact h _ _ _ hs
    · exact hs.elim
  · split at hs
    · exact bindD_mono (fun _ => h _ _ _) hs
    · exact hs.elim
  · exact stepE_mono h hs
theorem contC_mono {c : Cl} {x y x' y' : Prop} (hx : x → x') (hy : y → y') (h : contC c x y) : contC c x' y' := by
  cases c <;> first | exact hy h | exact hx h
theorem opsR_mono {full : List Oper} : ∀ {l : List Oper} {acc : List Cl} {σ : Env} {bx : Bxs} {K K' : List Cl → Env → Bxs → Prop}, (∀ acc σ bx, K acc σ bx → K' acc σ bx) → opsR P C full l acc σ bx K → opsR P C full l acc σ bx K'
  | [], _, _, _, _, _, h, hs => h _ _ _ hs
  | o :: rest, acc, σ, bx, K, K', h, hs => by
    unfold opsR at hs ⊢
    split at hs
    · exact stepD_mono (fun _ _ _ => contC_mono (h _ _ _) (opsR_mono h)) hs
    · refine bindD_mono (fun g hg => ?_) hs
      unfold gK at hg ⊢
      split at hg
      · rename_i h1; rw [if_pos h1]; exact stepD_mono (fun _ _ _ => contC_mono (h _ _ _) (opsR_mono h)) hg
      · rename_i h1; rw [if_neg h1]; exact opsR_mono h hg
theorem schR_mono {full : List Oper} {Pn Pn' : D → Bxs → Prop} {Q Q' : Env → Bxs → Prop} (hp : ∀ d bx, Pn d bx → Pn' d bx) (hq : ∀ σ bx, Q σ bx → Q' σ bx) : ∀ (t : Sch) {σ : Env} {bx : Bxs}, schR P C full Pn Q t σ bx → schR P C full Pn' Q' t σ bx
  | .fin, _, _, h => hq _ _ h
  | .stop, _, _, _ => trivial
  | .light i n, σ, bx, h => by
    unfold schR atOp at h ⊢
    split at h
    · exact bindD_mono (fun _ => schR_mono hp hq n) h
    · exact h.elim
  | .load i s n, σ, bx, h => by
    unfold schR atOp loadS at h ⊢
    split at h
    · split at h
      · exact ⟨h.1, bindD_mono (fun _ => schR_mono hp hq n) h.2⟩
      · exact h.elim
    · exact h.elim
  | .both i keep a r, σ, bx, h => by
    unfold schR atOp at h ⊢
    refine ⟨?_, schR_mono hp hq r h.2⟩
    have h := h.1
    split at h
    · exact stepD_mono (fun c _ _ => contC_mono (by unfold panQ; cases c <;> first | exact hp _ _ | exact id) (fun g => ⟨g.1, schR_mono hp hq a g.2⟩)) h
    · exact h.elim
theorem drawD_mono {full : List Oper} {Pn Pn' : D → Bxs → Prop} {Q Q' : Env → Bxs → Prop} (hp : ∀ d bx, Pn d bx → Pn' d bx) (hq : ∀ σ bx, Q σ bx → Q' σ bx) (h : drawD P C full Pn Q σ bx) : drawD P C full Pn' Q' σ bx :=
  let ⟨t, h1, h2⟩ := h
  ⟨t, h1, schR_mono hp hq t h2⟩

def mergeB (c : Cl) (bx' bx₂ : Bxs) : Bxs := fun s => if c.wr s then bx' s else bx₂ s

theorem mergeB_wa (bx' bx₂ : Bxs) : mergeB .wa bx' bx₂ = bx' := by funext s; simp [mergeB, Cl.wr]
theorem mergeB_w {t : Nat} {b : Bx} (bx bx₂ : Bxs) : mergeB (.w t) (upd bx t b) bx₂ = upd bx₂ t b := by
  funext s
  by_cases h : s = t <;> simp [mergeB, Cl.wr, upd, h]
theorem mergeB_no {c : Cl} (h : ∀ s, c.wr s = false) (bx' bx₂ : Bxs) : mergeB c bx' bx₂ = bx₂ := by funext s; simp [mergeB, h s]

theorem ev_agree {x : Operand} (h : ∀ t, x = .tmp t → σ₂ t = σ t) : ev σ₂ x = ev σ x := by
  cases x with
  | tmp t => exact h t rfl
  | _ => rfl

/-- The two states look alike to an operation. -/
def Alike (σ σ₂ : Env) (op : Op) : Prop := ∀ x ∈ op.operands.toList, ev σ₂ x = ev σ x

theorem optInt_alike {l : Option Operand} (h : ∀ x ∈ l.toList, ev σ₂ x = ev σ x) : optInt σ₂ l = optInt σ l := by
  cases l with
  | none => rfl
  | some x => simp only [optInt, h x (by simp)]

theorem valD_alike {op : Op} (h : Alike σ σ₂ op) (hl : ∀ T a, op ≠ .load T a) : valD P σ₂ bx₂ op = valD P σ bx op := by
  cases op with
  | move x => simp only [valD, h x (by simp [Op.operands])]
  | assign x => simp only [valD, h x (by simp [Op.operands])]
  | pick c x y => simp only [valD, h c (by simp [Op.operands]), h x (by simp [Op.operands]), h y (by simp [Op.operands])]
  | binOp op t x y t' => simp only [valD, h x (by simp [Op.operands]), h y (by simp [Op.operands])]
  | makeInterface t x => simp only [valD, h x (by simp [Op.operands])]
  | typeAssert x t t' ok => simp only [valD, h x (by simp [Op.operands])]
  | unOp op t x => simp only [valD, h x (by simp [Op.operands])]
  | fieldAddr t x i => simp only [valD, h x (by simp [Op.operands])]
  | field t x i => simp only [valD, h x (by simp [Op.operands])]
  | indexAddr t x y => simp only [valD, h x (by simp [Op.operands]), h y (by simp [Op.operands])]
  | index t x y => simp only [valD, h x (by simp [Op.operands]), h y (by simp [Op.operands])]
  | load t x => exact absurd rfl (hl t x)
  | extract x i => simp only [valD, h x (by simp [Op.operands])]
  | slice t x lo hi mx =>
    cases mx with
    | none => simp only [valD, h x (by simp [Op.operands]), optInt_alike (l := lo) (fun y hy => h y (by simp at hy; simp [Op.operands, hy])), optInt_alike (l := hi) (fun y hy => h y (by simp at hy; simp [Op.operands, hy]))]
    | some m => simp [valD]
  | build t ps =>
    have : (ps.toList.map fun p => (p.1, ev σ₂ p.2)) = ps.toList.map fun p => (p.1, ev σ p.2) := List.map_congr_left fun p hp => by
      rw [h p.2 (by simp only [Op.operands, List.mem_map]; exact ⟨p, hp, rfl⟩)]
    simp only [valD, this]
  | buildSlice t n ps =>
    have : (ps.toList.map fun p => (p.1, ev σ₂ p.2)) = ps.toList.map fun p => (p.1, ev σ p.2) := List.map_congr_left fun p hp => by
      rw [h p.2 (by simp only [Op.operands, List.mem_map]; exact ⟨p, hp, rfl⟩)]
    simp only [valD, this]
  | nilCheck x => simp only [valD, h x (by simp [Op.operands])]
  | makeFunc f first caps =>
    have : caps.toList.map (ev σ₂) = caps.toList.map (ev σ) := List.map_congr_left fun x hx => h x (by simp [Op.operands] ; exact .inr (by simpa using hx))
    have this2 : first.toList.map (ev σ₂) = first.toList.map (ev σ) := List.map_congr_left fun x hx => h x (by simp [Op.operands] ; exact .inl (by simpa using hx))
    simp only [valD, this, this2]
  | convert s t x => simp only [valD, h x (by simp [Op.operands])]
  | call c =>
    obtain ⟨callee, args, ats⟩ := c
    cases callee with
    | builtin b =>
      have : args.toList.map (ev σ₂) = args.toList.map (ev σ) := List.map_congr_left fun x hx => h x (by simp [Op.operands, Call.operands]; simpa using hx)
      simp only [valD, this]
    | _ => simp [valD]
  | _ => simp [valD]

theorem loadD_alike {ti : TI} {d : D} (h : ∀ s, (slotR d).rd s = true → bx₂ s = bx s) : loadD ti bx₂ d = loadD ti bx d := by
  cases d with
  | loc t e i j => simp only [loadD, h t (by simp [slotR, Cl.rd])]
  | _ => rfl

theorem storeD_alike {lo : Nat} {ti : TI} {a v : D} {bx' : Bxs} (hs : storeD lo ti bx a v = some bx') : (∀ s, (slotW a).wr s = false → bx' s = bx s) ∧
    ∀ bx₂ : Bxs, (∀ s, (slotW a).rd s = true → bx₂ s = bx s) → storeD lo ti bx₂ a v = some (mergeB (slotW a) bx' bx₂) := by
  unfold storeD at hs
  split at hs
  · rename_i t e i j
    split at hs
    · rename_i hc
      unfold bxSet at hs
      split at hs
      · rename_i hk
        cases hi : (bx t).es[i]? with
        | none => simp [hi] at hs
        | some d0 =>
          simp only [hi, Option.map_eq_some_iff] at hs
          obtain ⟨d', hd', rfl⟩ := hs
          refine ⟨fun s hs => ?_, fun bx₂ h2 => ?_⟩
          · have : s ≠ t := by simpa [slotW, Cl.wr] using hs
            simp [upd, this]
          · have ht := h2 t (by simp [slotW, Cl.rd])
            simp only [storeD, hc, and_self, if_true, bxSet, ht, hk, hi, hd', Option.map_some, slotW, mergeB_w]
      · cases hs
    · cases hs
  · cases hs

/-- What a step does, told of by what it looks at. -/
structure Eff (P : Program) (C : Calc) (o : Oper) (σ : Env) (bx : Bxs) (c : Cl) (v : D) (bx' : Bxs) : Prop where
  np : ∀ x, c ≠ .pan x
  same : ∀ s, c.wr s = false → bx' s = bx s
  le0 : wcls o.op = 0 → c = .n
  le1 : wcls o.op ≠ 2 → ∀ s, c.wr s = false
  run : ∀ σ₂ bx₂, Alike σ σ₂ o.op → (∀ s, c.rd s = true → bx₂ s = bx s) → ∀ K : Cl → Env → Bxs → Prop, K c (put σ₂ o.dst v) (mergeB c bx' bx₂) → stepD P C o σ₂ bx₂ K

theorem stepD_eff (hT : ∀ f b ds bx Q Qp, ¬ C.o.toB f b ds bx Q Qp) (hyl : C.yl = none) (hpn : C.pn = false) (hdf : C.df = false) {o : Oper} {K : Cl → Env → Bxs → Prop} (hs : stepD P C o σ bx K) : ∃ c v bx', K c (put σ o.dst v) bx' ∧ Eff P C o σ bx c v bx' := by
  obtain ⟨dst, op, ty, pos, af, g⟩ := o
  unfold stepD at hs
  dsimp only at hs
  split at hs
  · rename_i T
    split at hs
    · rename_i d
      cases hz : zeroD (tiOf P T) with
      | none => rw [hz] at hs; exact hs.elim
      | some z =>
        rw [hz] at hs
        refine ⟨_, _, _, hs, ⟨(by intro x; simp), fun s hs => ?_, by simp [wcls], by simp [wcls], fun σ₂ bx₂ hal hbx K hK => ?_⟩⟩
        · have : s ≠ C.base + d := by simpa [Cl.wr] using hs
          simp [upd, this]
        · have hd := hbx (C.base + d) (by simp [Cl.rd])
          rw [mergeB_w] at hK
          simp only [stepD, hz, bindD, hd]
          exact hK
    · exact hs.elim
  · rename_i T x
    split at hs
    · rename_i d
      cases hz : boxD (tiOf P T) (ev σ x) with
      | none => rw [hz] at hs; exact hs.elim
      | some z =>
        rw [hz] at hs
        refine ⟨_, _, _, hs, ⟨(by intro x; simp), fun s hs => ?_, by simp [wcls], by simp [wcls], fun σ₂ bx₂ hal hbx K hK => ?_⟩⟩
        · have : s ≠ C.base + d := by simpa [Cl.wr] using hs
          simp [upd, this]
        · have hd := hbx (C.base + d) (by simp [Cl.rd])
          have hx := hal x (by simp [Op.operands])
          rw [mergeB_w] at hK
          simp only [stepD, hx, hz, bindD, hd]
          exact hK
    · exact hs.elim
  · rename_i T x y
    cases hz : storeD C.lo (tiOf P T) bx (ev σ x) (ev σ y) with
    | none => rw [hz] at hs; exact hs.elim
    | some bx' =>
      rw [hz] at hs
      obtain ⟨h1, h2⟩ := storeD_alike hz
      refine ⟨_, _, _, hs, ⟨slotW_np _, h1, by simp [wcls], by simp [wcls], fun σ₂ bx₂ hal hbx K hK => ?_⟩⟩
      have hx := hal x (by simp [Op.operands])
      have hy := hal y (by simp [Op.operands])
      simp only [stepD, hx, hy, h2 bx₂ hbx, bindD]
      exact hK
  · rename_i T x
    cases hz : loadD (tiOf P T) bx (ev σ x) with
    | none => rw [hz] at hs; exact hs.elim
    | some d =>
      rw [hz] at hs
      have hw : ∀ s, (slotR (ev σ x)).wr s = false := by intro s; cases ev σ x <;> rfl
      refine ⟨_, _, _, hs, ⟨slotR_np _, fun s _ => rfl, by simp [wcls], fun _ => hw, fun σ₂ bx₂ hal hbx K hK => ?_⟩⟩
      have hx := hal x (by simp [Op.operands])
      rw [mergeB_no hw] at hK
      simp only [stepD, hx, loadD_alike hbx, hz, bindD]
      exact hK
  · rename_i args ats
    by_cases hin : appIn C.tab dst = true
    · rw [if_pos hin] at hs
      rw [hpn] at hs
      cases hs.1
    rw [if_neg hin] at hs
    cases hz : appLD C.lo (tiOf P) ats.toList (slotO C.base dst) bx (args.toList.map (ev σ)) with
    | none => rw [hz] at hs; exact hs.elim
    | some r =>
      rw [hz] at hs
      refine ⟨_, _, _, hs, ⟨(by intro x; simp), fun s hs => by simp [Cl.wr] at hs, by simp [wcls], by simp [wcls], fun σ₂ bx₂ hal hbx K hK => ?_⟩⟩
      have hb : bx₂ = bx := funext fun s => hbx s (by simp [Cl.rd])
      have hx : args.toList.map (ev σ₂) = args.toList.map (ev σ) := List.map_congr_left fun x hx => hal x (by simp [Op.operands, Call.operands]; simpa using hx)
      rw [mergeB_wa] at hK
      simp only [stepD, hx, hb, if_neg hin, hz, bindD]
      exact hK
  · rename_i fo args ats
    cases hf : ev σ fo with
    | fn f caps =>
      cases f with
      | func f =>
        rw [hf] at hs
        have fin : ∀ σ₂ bx₂, Alike σ σ₂ (.call { callee := .value fo, args, argTypes := ats }) → ∀ K : Cl → Env → Bxs → Prop, callD C f (args.toList.map (ev σ) ++ caps) bx₂ (fun c d bx' => K c (put σ₂ dst d) bx') → stepD P C ⟨dst, .call { callee := .value fo, args, argTypes := ats }, ty, pos, af, g⟩ σ₂ bx₂ K := by
          intro σ₂ bx₂ hal K hK
          have hx : args.toList.map (ev σ₂) = args.toList.map (ev σ) := List.map_congr_left fun x hx => hal x (by simp [Op.operands, Call.operands]; exact .inr (by simpa using hx))
          have hfo := hal fo (by simp [Op.operands, Call.operands])
          simp only [stepD, hx, hfo, hf, callV]
          exact hK
        simp only [callV] at hs
        rcases hs with ⟨d, hp, hto, hK⟩ | ⟨ds', d, ho, hto, hb, hK⟩ | ⟨ds', d, hlo, ho, hto, hK⟩ | ⟨Q, _, _, hto, _⟩
        · refine ⟨_, _, _, hK, ⟨(by intro x; simp), fun _ _ => rfl, by simp [wcls], by simp [wcls], fun σ₂ bx₂ hal hbx K hK => ?_⟩⟩
          rw [mergeB_no (fun _ => rfl)] at hK
          exact fin σ₂ bx₂ hal K (.inl ⟨d, hp, hto, hK⟩)
        · refine ⟨_, _, _, hK, ⟨(by intro x; simp), fun _ _ => rfl, by simp [wcls], by simp [wcls], fun σ₂ bx₂ hal hbx K' hK' => ?_⟩⟩
          have hb' : bx₂ = bx := funext fun s => hbx s (by simp [Cl.rd])
          rw [mergeB_no (fun _ => rfl)] at hK'
          rw [hb'] at hK' ⊢
          exact fin σ₂ bx hal K' (.inr (.inl ⟨ds', d, ho, hto, hb, hK'⟩))
        · refine ⟨_, _, _, hK, ⟨(by intro x; simp), fun s hs => by simp [Cl.wr] at hs, by simp [wcls], by simp [wcls], fun σ₂ bx₂ hal hbx K' hK' => ?_⟩⟩
          have hb' : bx₂ = bx := funext fun s => hbx s (by simp [Cl.rd])
          rw [mergeB_wa] at hK'
          rw [hb']
          exact fin σ₂ bx hal K' (.inr (.inr (.inl ⟨ds', d, hlo, ho, hto, hK'⟩)))
        · exact absurd hto (hT _ _ _ _ _ _)
      | yield l =>
        rw [hf] at hs
        cases caps with
        | nil => simp only [callV, yieldD, hyl] at hs
        | cons _ _ => exact hs.elim
      | _ => rw [hf] at hs; exact hs.elim
    | bfn f caps =>
      rw [hf] at hs
      have fin : ∀ σ₂ bx₂, Alike σ σ₂ (.call { callee := .value fo, args, argTypes := ats }) → ∀ K : Cl → Env → Bxs → Prop, callD C f (caps ++ args.toList.map (ev σ)) bx₂ (fun c d bx' => K c (put σ₂ dst d) bx') → stepD P C ⟨dst, .call { callee := .value fo, args, argTypes := ats }, ty, pos, af, g⟩ σ₂ bx₂ K := by
        intro σ₂ bx₂ hal K hK
        have hx : args.toList.map (ev σ₂) = args.toList.map (ev σ) := List.map_congr_left fun x hx => hal x (by simp [Op.operands, Call.operands]; exact .inr (by simpa using hx))
        have hfo := hal fo (by simp [Op.operands, Call.operands])
        simp only [stepD, hx, hfo, hf, callV]
        exact hK
      simp only [callV] at hs
      rcases hs with ⟨d, hp, hto, hK⟩ | ⟨ds', d, ho, hto, hb, hK⟩ | ⟨ds', d, hlo, ho, hto, hK⟩ | ⟨Q, _, _, hto, _⟩
      · refine ⟨_, _, _, hK, ⟨(by intro x; simp), fun _ _ => rfl, by simp [wcls], by simp [wcls], fun σ₂ bx₂ hal hbx K hK => ?_⟩⟩
        rw [mergeB_no (fun _ => rfl)] at hK
        exact fin σ₂ bx₂ hal K (.inl ⟨d, hp, hto, hK⟩)
      · refine ⟨_, _, _, hK, ⟨(by intro x; simp), fun _ _ => rfl, by simp [wcls], by simp [wcls], fun σ₂ bx₂ hal hbx K' hK' => ?_⟩⟩
        have hb' : bx₂ = bx := funext fun s => hbx s (by simp [Cl.rd])
        rw [mergeB_no (fun _ => rfl)] at hK'
        rw [hb'] at hK' ⊢
        exact fin σ₂ bx hal K' (.inr (.inl ⟨ds', d, ho, hto, hb, hK'⟩))
      · refine ⟨_, _, _, hK, ⟨(by intro x; simp), fun s hs => by simp [Cl.wr] at hs, by simp [wcls], by simp [wcls], fun σ₂ bx₂ hal hbx K' hK' => ?_⟩⟩
        have hb' : bx₂ = bx := funext fun s => hbx s (by simp [Cl.rd])
        rw [mergeB_wa] at hK'
        rw [hb']
        exact fin σ₂ bx hal K' (.inr (.inr (.inl ⟨ds', d, hlo, ho, hto, hK'⟩)))
      · exact absurd hto (hT _ _ _ _ _ _)
    | _ => rw [hf] at hs; exact hs.elim
  · rw [hpn] at hs; exact absurd hs.1 (by decide)
  · rw [hdf] at hs; exact absurd hs.1 (by decide)
  · rename_i T l c
    split at hs
    · rename_i d
      cases hz : mkslD (tiOf P) (tiOf P T) (ev σ l) (ev σ c) with
      | none => rw [hz] at hs; exact hs.elim
      | some z =>
        rw [hz] at hs
        refine ⟨_, _, _, hs, ⟨(by intro x; simp), fun s hs => ?_, by simp [wcls], by simp [wcls], fun σ₂ bx₂ hal hbx K hK => ?_⟩⟩
        · have : s ≠ C.base + d := by simpa [Cl.wr] using hs
          simp [upd, this]
        · have hd := hbx (C.base + d) (by simp [Cl.rd])
          have hx := hal l (by simp [Op.operands])
          have hy := hal c (by simp [Op.operands])
          rw [mergeB_w] at hK
          simp only [stepD, hx, hy, hz, bindD, hd]
          exact hK
    · exact hs.elim
  · rename_i op' h1 h2 h3 h4 h5 h6 h7 h8 h9
    have hrun : ∀ σ₂ bx₂ K, stepD P C ⟨dst, op, ty, pos, af, g⟩ σ₂ bx₂ K = stepE P C dst op σ₂ bx₂ K := by
      intro σ₂ bx₂ K
      unfold stepD
      dsimp only
      split <;> first | rfl | (exact absurd rfl (h1 _)) | (exact absurd rfl (h2 _ _)) | (exact absurd rfl (h3 _ _ _)) | (exact absurd rfl (h4 _ _)) | (exact absurd rfl (h5 _ _)) | (exact absurd rfl (h6 _ _ _)) | (exact absurd rfl (h7 _)) | (exact absurd rfl (h8 _ _ _)) | (exact absurd rfl (h9 _ _ _))
    have hval : ∀ d, valD P σ bx op = some d → (∀ σ₂ bx₂ (K : Cl → Env → Bxs → Prop), valD P σ₂ bx₂ op = some d → K .n (put σ₂ dst d) bx₂ → stepE P C dst op σ₂ bx₂ K) → K .n (put σ dst d) bx → ∃ c v bx', K c (put σ dst v) bx' ∧ Eff P C ⟨dst, op, ty, pos, af, g⟩ σ bx c v bx' := by
      intro d hz hE hq
      by_cases hb : ∃ T n ps, op = .buildSlice T n ps
      · obtain ⟨T, n, ps, rfl⟩ := hb
        refine ⟨_, _, _, hq, ⟨(by intro x; simp), fun _ _ => rfl, fun _ => rfl, fun _ _ => rfl, fun σ₂ bx₂ hal hbx K hK => ?_⟩⟩
        have hv := valD_alike (P := P) (bx := bx) (bx₂ := bx₂) hal (fun T a => h4 T a)
        rw [hz] at hv
        rw [mergeB_no (fun _ => rfl)] at hK
        rw [hrun]
        exact hE _ _ _ hv hK
      · refine ⟨_, _, _, hq, ⟨(by intro x; simp), fun _ _ => rfl, fun _ => rfl, fun _ _ => rfl, fun σ₂ bx₂ hal hbx K hK => ?_⟩⟩
        have hv := valD_alike (P := P) (bx := bx) (bx₂ := bx₂) hal (fun T a => h4 T a)
        rw [hz] at hv
        rw [mergeB_no (fun _ => rfl)] at hK
        rw [hrun]
        exact hE _ _ _ hv hK
    clear h1 h2 h3 h4 h5 h6 h7 h8 h9
    unfold stepE at hs
    split at hs
    · rename_i T m ps
      have hps : ∀ σ₂, Alike σ σ₂ (.buildSlice T m ps) → (ps.toList.map fun p => (p.1, ev σ₂ p.2)) = ps.toList.map fun p => (p.1, ev σ p.2) := fun σ₂ hal => List.map_congr_left fun p hp => by
        rw [hal p.2 (by simp only [Op.operands, List.mem_map]; exact ⟨p, hp, rfl⟩)]
      split at hs
      · rename_i ho
        split at hs
        · rename_i d
          cases hz : litXD (tiOf P) (tiOf P T) m (ps.toList.map fun p => (p.1, ev σ p.2)) with
          | none => rw [hz] at hs; exact hs.elim
          | some z =>
            rw [hz] at hs
            refine ⟨_, _, _, hs, ⟨(by intro x; simp), fun s hs => ?_, by simp [wcls], by simp [wcls], fun σ₂ bx₂ hal hbx K hK => ?_⟩⟩
            · have : s ≠ C.base + d := by simpa [Cl.wr] using hs
              simp [upd, this]
            · have hd := hbx (C.base + d) (by simp [Cl.rd])
              rw [mergeB_w] at hK
              rw [hrun]
              unfold stepE
              simp only [ho, if_true, hps σ₂ hal, hz, bindD, hd]
              exact hK
        · exact hs.elim
      · rename_i ho
        cases hz : valD P σ bx (.buildSlice T m ps) with
        | none => rw [hz] at hs; exact hs.elim
        | some d =>
          rw [hz] at hs
          refine hval d hz (fun σ₂ bx₂ K hv hK => ?_) hs
          unfold stepE
          simp only [ho, if_false, hv, bindD]
          exact hK
    · rename_i T m k ok
      cases hz : lookO P (tiOf P) (tiOf P T) bx (ev σ m) (ev σ k) ok with
      | none => rw [hz] at hs; exact hs.elim
      | some d =>
        rw [hz] at hs
        have hw : ∀ s, (slotM (ev σ m)).wr s = false := by intro s; cases ev σ m <;> rfl
        refine ⟨_, _, _, hs, ⟨slotM_np _, fun s _ => rfl, by simp [wcls], fun _ => hw, fun σ₂ bx₂ hal hbx K hK => ?_⟩⟩
        have hx := hal m (by simp [Op.operands])
        have hy := hal k (by simp [Op.operands])
        rw [mergeB_no hw] at hK
        have hl : mapAt bx₂ (ev σ m) = mapAt bx (ev σ m) := by
          cases hm : ev σ m with
          | omap t e =>
            have := hbx t (by simp [hm, slotM, Cl.rd])
            simp only [mapAt, this]
          | _ => rfl
        have hl2 : lookO P (tiOf P) (tiOf P T) bx₂ (ev σ m) (ev σ k) ok = some d := by
          rw [← hz]
          unfold lookO
          rw [hl]
        rw [hrun]
        unfold stepE
        simp only [hx, hy, hl2, bindD]
        exact hK
    · rename_i op' hb hb2
      split at hs
      · rw [hpn] at hs; exact absurd hs.1 (by decide)
      · rename_i hmo
        cases hz : valD P σ bx op with
        | none => rw [hz] at hs; exact hs.elim
        | some d =>
          rw [hz] at hs
          refine hval d hz (fun σ₂ bx₂ K hv hK => ?_) hs
          have : stepE P C dst op σ₂ bx₂ K = bindD (valD P σ₂ bx₂ op) fun v => K .n (put σ₂ dst v) bx₂ := by
            unfold stepE
            split
            · exact absurd rfl (hb _ _ _)
            · exact absurd rfl (hb2 _ _ _ _)
            · exact if_neg hmo
          rw [this, hv]
          exact hK


/-- What a step may come to, told of by what it looks at alone. -/
theorem stepD_form (hyl : C.yl = none) (hpn : C.pn = false) (hdf : C.df = false) {o : Oper} {K : Cl → Env → Bxs → Prop} (hs : stepD P C o σ bx K) :
    ∃ R : Cl → D → Bxs → Prop, (∀ c v bx', R c v bx' → K c (put σ o.dst v) bx') ∧ ∀ σ₂, Alike σ σ₂ o.op → ∀ K2 : Cl → Env → Bxs → Prop, (∀ c v bx', R c v bx' → K2 c (put σ₂ o.dst v) bx') → stepD P C o σ₂ bx K2 := by
  by_cases hc : ∃ fo args ats, o.op = .call { callee := .value fo, args, argTypes := ats }
  · obtain ⟨fo, args, ats, hop⟩ := hc
    obtain ⟨dst, op, ty, pos, af, g⟩ := o
    dsimp only at hop
    subst hop
    refine ⟨fun c v bx' => K c (put σ dst v) bx', fun _ _ _ h => h, fun σ₂ hal K2 hK => ?_⟩
    have hx : args.toList.map (ev σ₂) = args.toList.map (ev σ) := List.map_congr_left fun x hx => hal x (by simp [Op.operands, Call.operands]; exact .inr (by simpa using hx))
    have hfo := hal fo (by simp [Op.operands, Call.operands])
    have hs' : callV C (ev σ fo) (args.toList.map (ev σ)) bx fun c d bx' => K c (put σ dst d) bx' := hs
    show callV C (ev σ₂ fo) (args.toList.map (ev σ₂)) bx fun c d bx' => K2 c (put σ₂ dst d) bx'
    rw [hx, hfo]
    exact callV_mono (fun c d bx' h => hK _ _ _ h) hs'
  · have hd : ∀ σ K, stepD P C o σ bx K = stepD P C.det o σ bx K := by
      obtain ⟨oo, tab, base, nxt, lo, yl, pn, df⟩ := C
      dsimp only at hyl hpn hdf
      subst hyl; subst hpn; subst hdf
      obtain ⟨dst, op, ty, pos, af, g⟩ := o
      intro σ K
      cases op with
      | call c =>
        obtain ⟨callee, args, ats⟩ := c
        cases callee with
        | builtin b => cases b <;> rfl
        | value fo => exact absurd ⟨_, _, _, rfl⟩ hc
        | _ => rfl
      | defer c =>
        obtain ⟨callee, args, ats⟩ := c
        cases callee <;> rfl
      | _ => rfl
    rw [hd] at hs
    obtain ⟨c, v, bx', hK, he⟩ := stepD_eff (C := C.det) (fun _ _ _ _ _ _ h => h) rfl rfl rfl hs
    refine ⟨fun c' v' bx2 => c' = c ∧ v' = v ∧ bx2 = bx', by rintro _ _ _ ⟨rfl, rfl, rfl⟩; exact hK, fun σ₂ hal K2 hK2 => ?_⟩
    rw [hd]
    refine he.run σ₂ bx hal (fun _ _ => rfl) K2 ?_
    have hm : mergeB c bx' bx = bx' := by
      funext s
      cases h : c.wr s with
      | true => simp [mergeB, h]
      | false => simp [mergeB, h, he.same s h]
    rw [hm]
    exact hK2 _ _ _ ⟨rfl, rfl, rfl⟩

end Go.V
