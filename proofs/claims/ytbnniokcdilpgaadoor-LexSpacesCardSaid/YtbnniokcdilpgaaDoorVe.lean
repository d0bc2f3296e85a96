/-
  Each operation that yields a datum and writes no variable of the activation's own does so in the model.
-/
import Derived.Test.YtbnniokcdilpgaaDoorVd
namespace Go.V
open Go.RowKit

section inv
variable {w : World} {S : Nat → Prop} {ρ : Rho} {v : Value}
theorem Rep.inv_int {k : IntKind} {n : Int} (h : Rep w S ρ (.int k n) v) : v = .int k n := by cases h with | pure h => cases h; rfl
theorem Rep.inv_bool {b : Bool} (h : Rep w S ρ (.bool b) v) : v = .bool b := by cases h with | pure h => cases h; rfl
theorem Rep.inv_str {l : List UInt8} (h : Rep w S ρ (.str l) v) : v = .string ⟨l.toArray⟩ := by cases h with | pure h => cases h; rfl
theorem Rep.inv_raw {x : Value} (h : Rep w S ρ (.raw x) v) : v = x := by cases h with | pure h => cases h; rfl
theorem Rep.inv_nil (h : Rep w S ρ .nilsl v) : v = .slice none 0 0 := by cases h with | pure h => cases h; rfl
theorem Rep.inv_loc {t e i j : Nat} (h : Rep w S ρ (.loc t e i j) v) : ∃ p, ρ t e = some p ∧ v = .pointer (some ⟨p.b, i * p.sz + j, none⟩) := by
  cases h with
  | pure h => cases h
  | loc hp hq => subst hq; exact ⟨_, hp, rfl⟩
theorem Rep.inv_agg {ds : List D} (h : Rep w S ρ (.agg ds) v) : ∃ vs, v = .agg vs ∧ vs.size = ds.length ∧ ∀ (i : Nat) d u, ds[i]? = some d → vs[i]? = some u → Rep w S ρ d u := by
  cases h with
  | pure h => cases h with | agg hl h => exact ⟨_, rfl, hl, fun i d u hd hu => .pure (h i d u hd hu)⟩
  | agg hl h => exact ⟨_, rfl, hl, h⟩
theorem Rep.inv_tup {ds : List D} (h : Rep w S ρ (.tup ds) v) : ∃ vs, v = .tuple vs ∧ vs.size = ds.length ∧ ∀ (i : Nat) d u, ds[i]? = some d → vs[i]? = some u → Rep w S ρ d u := by
  cases h with
  | pure h => cases h with | tup hl h => exact ⟨_, rfl, hl, fun i d u hd hu => .pure (h i d u hd hu)⟩
  | tup hl h => exact ⟨_, rfl, hl, h⟩
theorem Rep.inv_fn {f : Fn} {ds : List D} (h : Rep w S ρ (.fn f ds) v) : ∃ vs, v = .func f #[] vs ∧ vs.size = ds.length ∧ ∀ (i : Nat) d u, ds[i]? = some d → vs[i]? = some u → Rep w S ρ d u := by
  cases h with
  | pure h => cases h with | fn hl h => exact ⟨_, rfl, hl, fun i d u hd hu => .pure (h i d u hd hu)⟩
  | fn hl h => exact ⟨_, rfl, hl, h⟩
end inv

variable {P : Program} {X : Ctx} {ρ : Rho} {σ : Env} {bx : Bxs} {a : Act} {w : World}

/-! what tiOf says -/
theorem size_ex {t : TypeId} (h : 0 < sizeT P t) : ∃ i d, P.info? t = some i ∧ P.underlying t = some d ∧ i.size = sizeT P t := by
  unfold sizeT at h ⊢
  cases hu : P.underlying t with
  | none => simp [hu] at h
  | some d =>
    simp only [hu, Option.isSome_some, if_true] at h ⊢
    cases hi : P.info? t with
    | none => simp [hi] at h
    | some i => exact ⟨i, d, by first | rfl | trivial, by first | rfl | trivial, by first | rfl | trivial⟩
theorem ti_size {t : TypeId} (h : 0 < (tiOf P t).size) : ∃ i d, P.info? t = some i ∧ P.underlying t = some d ∧ i.size = (tiOf P t).size ∧ (tiOf P t).size = sizeT P t := by
  obtain ⟨i, d, h1, h2, h3⟩ := size_ex (P := P) (t := t) h
  exact ⟨i, d, h1, h2, h3, rfl⟩
theorem run_sizeT {t : TypeId} (h : 0 < sizeT P t) (w : World) : (sizeOf t).run P w = .ok (sizeT P t) w := by
  obtain ⟨i, d, h1, _, h3⟩ := size_ex h
  rw [← h3]
  simp [sizeOf, typeInfo, h1, go_sem]
theorem run_aggT {t : TypeId} {d : TypeDesc} (h : P.underlying t = some d) (w : World) : (isAgg t).run P w = .ok (aggT P t) w := by
  simp only [isAgg, Sem.run_bind, run_underlying h, Result.andThen_ok, aggT, h]
  cases d <;> simp
theorem ti_slice {t e esz b : Nat} {ag : Bool} (h : (tiOf P t).k = .slice e esz b ag) : P.underlying t = some (.slice e) ∧ esz = sizeT P e ∧ b = ((P.info? e).map (·.bytes)).getD 0 ∧ ag = aggT P e := by
  simp only [tiOf] at h
  cases hu : P.underlying t with
  | none => simp [hu] at h
  | some d => cases d <;> simp [hu] at h <;> (obtain ⟨rfl, rfl, rfl, rfl⟩ := h; exact ⟨rfl, rfl, rfl, rfl⟩)
theorem ti_struct {t : TypeId} {fs : List (Nat × Nat × Bool)} {eq : List Nat} (h : (tiOf P t).k = .struct fs eq) : ∃ F : Array Field, P.underlying t = some (.struct F) ∧ fs = F.toList.map (fun f => (f.offset, sizeT P f.type, aggT P f.type)) ∧
    eq = (if F.toList.all (fun f => f.name != "_" && flatT P f.type && sizeT P f.type == 1) && !P.stoodInHeld t && !P.eqGuardType P.depth t && (F.toList.map (·.offset)) == List.range F.size && sizeT P t == F.size then F.toList.map fun f => kindT P f.type else []) := by
  simp only [tiOf] at h
  cases hu : P.underlying t with
  | none => simp [hu] at h
  | some d =>
    cases d <;> simp only [hu] at h <;> first | (cases h; done) | skip
    rename_i F
    injection h with h1 h2
    exact ⟨F, rfl, h1.symm, h2.symm⟩
theorem ti_str {t : TypeId} (h : (tiOf P t).k = .str) : P.underlying t = some .string := by
  simp only [tiOf] at h
  cases hu : P.underlying t with
  | none => simp [hu] at h
  | some d => cases d <;> simp [hu] at h; rfl
theorem ti_bool {t : TypeId} (h : (tiOf P t).k = .bool) : P.underlying t = some .bool := by
  simp only [tiOf] at h
  cases hu : P.underlying t with
  | none => simp [hu] at h
  | some d => cases d <;> simp [hu] at h; rfl
theorem ti_int {t : TypeId} {k : IntKind} (h : (tiOf P t).k = .int k) : P.underlying t = some (.int k) := by
  simp only [tiOf] at h
  cases hu : P.underlying t with
  | none => simp [hu] at h
  | some d => cases d <;> simp [hu] at h; rw [h]
theorem ti_arr {t n esz : Nat} {ag : Bool} (h : (tiOf P t).k = .arr n esz ag) : ∃ e, P.underlying t = some (.array n e) ∧ esz = sizeT P e ∧ ag = aggT P e := by
  simp only [tiOf] at h
  cases hu : P.underlying t with
  | none => simp [hu] at h
  | some d =>
    cases d <;> simp [hu] at h
    obtain ⟨rfl, h2, h3⟩ := h
    exact ⟨_, rfl, h2.symm, h3.symm⟩

theorem ti_ifc {t : TypeId} (h : (tiOf P t).k = .ifc) : ∃ ms, P.underlying t = some (.interface ms) := by
  simp only [tiOf] at h
  cases hu : P.underlying t with
  | none => simp [hu] at h
  | some d => cases d <;> simp [hu] at h; exact ⟨_, rfl⟩
theorem ti_noifc {t : TypeId} (h : (tiOf P t).k ≠ .none) (h2 : (tiOf P t).k ≠ .ifc) : ∃ d, P.underlying t = some d ∧ ∀ ms, d ≠ .interface ms := by
  simp only [tiOf] at h h2
  cases hu : P.underlying t with
  | none => simp [hu] at h
  | some d =>
    refine ⟨d, rfl, ?_⟩
    rintro ms rfl
    simp [hu] at h2

/-! loads -/
theorem run_loadV {t b o : Nat} {us : Nat → Value} (hz : 0 < (tiOf P t).size) (hc : ∀ j, j < (if (tiOf P t).agg then (tiOf P t).size else 1) → w.cell? ⟨b, o + j, none⟩ = some (us j)) :
    (loadVar t ⟨b, o, none⟩).run P w = .ok (if (tiOf P t).agg then .agg ((List.range (tiOf P t).size).map us).toArray else us 0) w := by
  obtain ⟨i, d, hi, hd, hs, hs2⟩ := ti_size hz
  have hag : (tiOf P t).agg = aggT P t := rfl
  rw [hs2] at hz
  simp only [loadVar, Sem.run_bind, run_aggT hd, Result.andThen_ok, hag] at hc ⊢
  cases hA : aggT P t with
  | false =>
    have h0 := hc 0 (by simp [hA])
    simp only [Nat.add_zero] at h0
    simp [load, Sem.run, h0]
  | true =>
    simp only [if_true, Sem.run_bind, run_sizeT hz, Result.andThen_ok]
    have hl : ((List.range (sizeT P t)).map us).length = sizeT P t := by simp
    have := run_loadCells_list (P := P) (w := w) ⟨b, o, none⟩ ((List.range (sizeT P t)).map us) (fun j v hj => by
      have hj' : j < sizeT P t := by have := (List.getElem?_eq_some_iff.1 hj).1; simpa using this
      simp only [List.getElem?_map, List.getElem?_range hj', Option.map_some, Option.some.injEq] at hj
      subst hj
      rw [← hs2] at hj'
      have := hc j (by simpa [hA] using hj')
      simp only [Addr.add]
      by_cases h0 : j = 0
      · subst h0; simpa using this
      · simp [h0]; exact this)
    rw [hl] at this
    simp [this, hs2]

/-- what is loaded represents what pickD picks -/
theorem pick_rep {S : Nat → Prop} {d r : D} {j k : Nat} {ag : Bool} {us : Nat → Value} (hp : pickD d j ag k = some r) (hu : ∀ m c, m < (if ag then k else 1) → d.cells[j + m]? = some c → Rep w S ρ c (us m)) :
    Rep w S ρ r (if ag then .agg ((List.range k).map us).toArray else us 0) := by
  unfold pickD at hp
  cases ag with
  | true =>
    simp only [if_true] at hp ⊢
    split at hp
    · rename_i hle
      injection hp with hp
      subst hp
      refine .agg (by simp; omega) fun i c v hc hv => ?_
      have hi : i < k := by
        have := (Array.getElem?_eq_some_iff.1 hv).1
        simpa using this
      simp only [List.getElem?_toArray, List.getElem?_map, List.getElem?_range hi, Option.map_some, Option.some.injEq] at hv
      subst hv
      rw [List.getElem?_take_of_lt hi, List.getElem?_drop] at hc
      exact hu i c (by simpa using hi) hc
    · cases hp
  | false =>
    simp only [Bool.false_eq_true, if_false] at hp ⊢
    exact hu 0 r (by simp) (by simpa using hp)

theorem pick_lt {d r : D} {j k : Nat} {ag : Bool} (hp : pickD d j ag k = some r) : ∀ m, m < (if ag then k else 1) → ∃ c, d.cells[j + m]? = some c := by
  intro m hm
  unfold pickD at hp
  cases ag with
  | true =>
    simp only [if_true] at hp hm
    split at hp
    · exact ⟨_, List.getElem?_eq_getElem (by omega)⟩
    · cases hp
  | false =>
    simp only [Bool.false_eq_true, if_false] at hp hm
    obtain rfl : m = 0 := by omega
    exact ⟨r, by simpa using hp⟩

/-- WHAT IS OWED OF AN OPERATION: it yields a value that represents the datum, in a world that has at most grown. -/
def Yields (P : Program) (X : Ctx) (ρ : Rho) (bx : Bxs) (a : Act) (w : World) (o : Oper) (d : D) : Prop :=
  ∃ v w', (execOp a.eval o).run P w = .ok (.value v) w' ∧ Below w.heap.size w w' ∧ Rep w' (Stab X ρ bx w') ρ d v

theorem yields_same {o : Oper} {d : D} (v : Value) (hrun : (execOp a.eval o).run P w = .ok (.value v) w) (hr : Rep w (Stab X ρ bx w) ρ d v) : Yields P X ρ bx a w o d := ⟨v, w, hrun, Below.refl _ _, hr⟩

variable {dst : Option Tmp} {ty : TypeId} {pos : String} {af : Array Edge} {g : Option (Nat × Bool)}

theorem loadV_sound (h : Sim X ρ σ bx a w) {t : TypeId} {dx d : D} {vx : Value} (hx : Rep w (Stab X ρ bx w) ρ dx vx) (hv : loadD (tiOf P t) bx dx = some d) : ∃ ad v, vx = .pointer (some ad) ∧ (loadVar t ad).run P w = .ok v w ∧ Rep w (Stab X ρ bx w) ρ d v := by
  cases dx with
  | loc s e i j =>
    simp only [loadD] at hv
    split at hv
    · rename_i hc
      obtain ⟨he, hk, hz⟩ := hc
      obtain ⟨p, hp, hv2⟩ := hx.inv_loc
      obtain ⟨p', hp', _, _, _, hh⟩ := h.box s hk
      rw [he, hp] at hp'; injection hp' with hp'; subst hp'
      cases hi : (bx s).es[i]? with
      | none => simp [hi] at hv
      | some d0 =>
        simp only [hi, Option.bind_some] at hv
        have hlt := pick_lt hv
        have hcell : ∀ m, ∃ u, m < (if (tiOf P t).agg then (tiOf P t).size else 1) → w.cell? ⟨p.b, i * p.sz + j + m, none⟩ = some u ∧ ∀ c, d0.cells[j + m]? = some c → Rep w (Stab X ρ bx w) ρ c u := by
          intro m
          by_cases hm : m < (if (tiOf P t).agg then (tiOf P t).size else 1)
          · obtain ⟨c, hc⟩ := hlt m hm
            obtain ⟨u, hu, hr, _⟩ := hh.cell hi hc
            exact ⟨u, fun _ => ⟨by rw [Nat.add_assoc]; exact hu, fun c' hc' => by rw [hc] at hc'; injection hc' with hc'; subst hc'; exact hr⟩⟩
          · exact ⟨undef, fun hm' => absurd hm' hm⟩
        let us : Nat → Value := fun m => Classical.choose (hcell m)
        have hus : ∀ m, m < (if (tiOf P t).agg then (tiOf P t).size else 1) → w.cell? ⟨p.b, i * p.sz + j + m, none⟩ = some (us m) ∧ ∀ c, d0.cells[j + m]? = some c → Rep w (Stab X ρ bx w) ρ c (us m) := fun m => Classical.choose_spec (hcell m)
        exact ⟨_, _, hv2, run_loadV hz (fun m hm => (hus m hm).1), pick_rep hv (us := us) fun m c hm hc => (hus m hm).2 c hc⟩
    · cases hv
  | cref d0 j =>
    simp only [loadD] at hv
    split at hv
    · rename_i hz
      have hx2 : PRep w (Stab X ρ bx w) (.cref d0 j) vx := hx.toP rfl
      cases hx2 with
      | @cref _ _ b off p us hb hp hc h1 hr =>
        have hlt := pick_lt hv
        subst hp
        exact ⟨_, _, rfl, run_loadV (us := fun m => us (j + m)) hz (fun m hm => by obtain ⟨c, hcm⟩ := hlt m hm; rw [Nat.add_assoc]; exact hc _ _ hcm), pick_rep hv (us := fun m => us (j + m)) fun m c hm hcm => .pure (hr _ _ hcm)⟩
    · cases hv
  | _ => simp [loadD] at hv

theorem load_sound (h : Sim X ρ σ bx a w) {t : TypeId} {x : Operand} {d : D} (hv : loadD (tiOf P t) bx (ev σ x) = some d) : Yields P X ρ bx a w ⟨dst, .load t x, ty, pos, af, g⟩ d := by
  obtain ⟨ad, v, h1, h2, h3⟩ := loadV_sound h (h.ev x) hv
  exact yields_same v (by simp only [execOp, Instr.loadAt, Instr.sureAddr, h1, Sem.run_bind, Sem.run_pure, Result.andThen_ok, h2]) h3

theorem Addr.add_none (b o k : Nat) : (⟨b, o, none⟩ : Addr).add k = ⟨b, o + k, none⟩ := by
  unfold Addr.add
  split
  · rename_i h; subst h; rfl
  · rfl

theorem indexAddr_sound (h : Sim X ρ σ bx a w) {t : TypeId} {x y : Operand} {d : D} (hv : atInt (ev σ y) (indexAddrD (tiOf P t) (ev σ x)) = some d) : Yields P X ρ bx a w ⟨dst, .indexAddr t x y, ty, pos, af, g⟩ d := by
  have hx := h.ev x
  have hy := h.ev y
  generalize ev σ x = dx at hv hx
  generalize ev σ y = dy at hv hy
  cases dy with
  | int k n =>
    have hy := hy.inv_int
    simp only [atInt, indexAddrD] at hv
    cases hk : (tiOf P t).k with
    | slice e esz b ag =>
      simp only [hk] at hv
      obtain ⟨hu, he, _, _⟩ := ti_slice hk
      cases dx with
      | sl sz es =>
        simp only at hv
        split at hv
        · rename_i hc
          obtain ⟨h0, hsz, hpos⟩ := hc
          subst hsz
          cases hi : es[n.toNat]? with
          | none => simp [hi] at hv
          | some d0 =>
            simp only [hi, Option.map_some, Option.some.injEq] at hv
            subst hv
            have hx2 : PRep w (Stab X ρ bx w) (.sl sz es) (a.eval x) := hx.toP rfl
            generalize hax : a.eval x = vx at hx2
            cases hx2 with
            | @sl _ _ A m cap b' off us hn hcap hmax hA hsz hc h1 hr =>
              obtain ⟨rfl, hb⟩ := hA (by rintro rfl; simp at hi)
              have hlt : n.toNat < es.length := (List.getElem?_eq_some_iff.1 hi).1
              refine yields_same (.pointer (some ⟨b', off + n.toNat * sz, none⟩)) ?_ (.pure (.cref (off := off + n.toNat * sz) (us := us n.toNat) hb rfl (fun m c hm => hc _ _ _ _ hi hm) (fun m c hm => h1 _ _ _ _ hi hm) (fun m c hm => hr _ _ _ _ hi hm)))
              have hc2 : 0 ≤ n ∧ n < ((m : Nat) : Int) := ⟨h0, by omega⟩
              simp only [execOp, Instr.indexAt, hy, hax, asIntOf, Sem.run_bind, Sem.run_pure, Result.andThen_ok, run_underlying hu, hc2, and_self, if_true, run_sizeT (he ▸ hpos), Addr.add_none, ← he]
        · cases hv
      | osl s e' sz o len =>
        simp only at hv
        split at hv
        · rename_i hc
          obtain ⟨h0, hlt, hsz, hpos⟩ := hc
          subst hsz
          injection hv with hv
          subst hv
          generalize hax : a.eval x = vx at hx
          cases hx with
          | pure h => cases h
          | @osl _ _ _ _ _ off cap p hp hsz h0' hoff hn hcap =>
            subst hsz
            have hc2 : 0 ≤ n ∧ n < ((len : Nat) : Int) := ⟨h0, hlt⟩
            have ho := hoff (by omega)
            subst ho
            refine yields_same (.pointer (some ⟨p.b, o * p.sz + n.toNat * p.sz, none⟩)) ?_ (.loc hp (by rw [Nat.add_mul, Nat.add_zero]))
            simp only [execOp, Instr.indexAt, hy, hax, asIntOf, Sem.run_bind, Sem.run_pure, Result.andThen_ok, run_underlying hu, hc2, and_self, if_true, run_sizeT (he ▸ hpos), Addr.add_none, ← he]
        · cases hv
      | _ => simp at hv
    | arr len esz ag =>
      simp only [hk] at hv
      obtain ⟨e, hu, he, _⟩ := ti_arr hk
      split at hv
      · rename_i hc
        obtain ⟨h0, hlt, h1, hpos⟩ := hc
        have hc2 : 0 ≤ n ∧ n < ((len : Nat) : Int) := ⟨h0, hlt⟩
        cases dx with
        | loc s e' i j =>
          simp only [shiftD, Option.some.injEq] at hv
          subst hv
          obtain ⟨p, hp, hax⟩ := hx.inv_loc
          refine yields_same (.pointer (some ⟨p.b, i * p.sz + j + n.toNat * esz, none⟩)) ?_ (.loc hp (by omega))
          simp only [execOp, Instr.indexAt, Instr.sureAddr, hy, hax, asIntOf, Sem.run_bind, Sem.run_pure, Result.andThen_ok, run_underlying hu, hc2, and_self, if_true, run_sizeT (he ▸ hpos), Addr.add_none, ← he]
        | cref d0 j =>
          simp only [shiftD, Option.some.injEq] at hv
          subst hv
          have hx2 : PRep w (Stab X ρ bx w) (.cref d0 j) (a.eval x) := hx.toP rfl
          generalize hax : a.eval x = vx at hx2
          cases hx2 with
          | @cref _ _ b off p us hb hp hc h1 hr =>
            refine yields_same (.pointer (some ⟨b, p + n.toNat * esz, none⟩)) ?_ (.pure (.cref (us := us) hb (by omega) hc h1 hr))
            simp only [execOp, Instr.indexAt, Instr.sureAddr, hy, hax, asIntOf, Sem.run_bind, Sem.run_pure, Result.andThen_ok, run_underlying hu, hc2, and_self, if_true, run_sizeT (he ▸ hpos), Addr.add_none, ← he]
        | _ => simp [shiftD] at hv
      · cases hv
    | _ => simp [hk] at hv
  | _ => simp [atInt] at hv

end Go.V
