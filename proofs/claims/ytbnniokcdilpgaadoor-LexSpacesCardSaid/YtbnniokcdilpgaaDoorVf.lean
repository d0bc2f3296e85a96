/-
  Each operation that yields a datum, the second part.
-/
import Derived.Test.YtbnniokcdilpgaaDoorVe
namespace Go.V
open Go.RowKit

variable {P : Program} {X : Ctx} {ρ : Rho} {σ : Env} {bx : Bxs} {a : Act} {w : World}
variable {dst : Option Tmp} {ty : TypeId} {pos : String} {af : Array Edge} {g : Option (Nat × Bool)}

theorem eqC_run {S : Nat → Prop} {t : TypeId} {n : Nat} {x y : D} {vx vy : Value} {b : Bool} (h : eqC x y = some b) (hx : Rep w S ρ x vx) (hy : Rep w S ρ y vy)
    (ht : (∃ k m, x = .int k m ∧ ∃ k', P.underlying t = some (.int k')) ∨ (∃ m, x = .bool m ∧ P.underlying t = some .bool) ∨ (∃ m, x = .str m ∧ P.underlying t = some .string)) :
    (Op.equalIn (n + 1) t vx vy).run P w = .ok b w := by
  rcases ht with ⟨k, m, rfl, k', hu⟩ | ⟨m, rfl, hu⟩ | ⟨m, rfl, hu⟩ <;> cases y <;> simp only [eqC] at h <;> try (cases h; done)
  · split at h
    · rename_i hk
      subst hk
      injection h with h
      subst h
      rw [hx.inv_int, hy.inv_int, run_equalIn_int w n t _ _ _ _ hu]
    · cases h
  · injection h with h
    subst h
    rw [hx.inv_bool, hy.inv_bool, run_equalIn_bool' w n t _ _ hu]
  · injection h with h
    subst h
    rw [hx.inv_str, hy.inv_str, run_equalIn_string w n t _ _ hu, ByteArray.toList_eq, ByteArray.toList_eq]

/-- the value of a scalar fits its type's kind: what the model asks of '==' -/
def fitsT (P : Program) (t : TypeId) (x : D) : Prop :=
  (∃ k m, x = .int k m ∧ ∃ k', P.underlying t = some (.int k')) ∨ (∃ m, x = .bool m ∧ P.underlying t = some .bool) ∨ (∃ m, x = .str m ∧ P.underlying t = some .string)

theorem bin_int (op : BinOp) (k : IntKind) (x y : Int) (d : D) (h : intD op k x y = some d) (t : TypeId) (S : Nat → Prop) : ∃ v, (binOp op t (.int k x) (.int k y)).run P w = .ok v w ∧ Rep w S ρ d v := by
  cases op <;> simp only [intD, cmpD] at h <;> try (cases h; done)
  case add => injection h with h; subst h; exact ⟨_, by simp [binOp, Op.intArith], .pure (.int _ _)⟩
  case sub => injection h with h; subst h; exact ⟨_, by simp [binOp, Op.intArith], .pure (.int _ _)⟩
  case mul => injection h with h; subst h; exact ⟨_, by simp [binOp, Op.intArith], .pure (.int _ _)⟩
  case quo =>
    split at h
    · cases h
    · rename_i hy; injection h with h; subst h; exact ⟨_, by simp [binOp, Op.intDiv, hy], .pure (.int _ _)⟩
  case rem =>
    split at h
    · cases h
    · rename_i hy; injection h with h; subst h; exact ⟨_, by simp [binOp, Op.intDiv, hy], .pure (.int _ _)⟩
  case eql => injection h with h; subst h; exact ⟨_, by simp [binOp, Op.intCmp], .pure (.bool _)⟩
  case neq => injection h with h; subst h; exact ⟨_, by simp [binOp, Op.intCmp], .pure (.bool _)⟩
  case lss => injection h with h; subst h; exact ⟨_, by simp [binOp, Op.intCmp], .pure (.bool _)⟩
  case leq => injection h with h; subst h; exact ⟨_, by simp [binOp, Op.intCmp], .pure (.bool _)⟩
  case gtr => injection h with h; subst h; exact ⟨_, by simp [binOp, Op.intCmp], .pure (.bool _)⟩
  case geq => injection h with h; subst h; exact ⟨_, by simp [binOp, Op.intCmp], .pure (.bool _)⟩

theorem bytes_append (l m : List UInt8) : ((⟨l.toArray⟩ : ByteArray) ++ ⟨m.toArray⟩) = ⟨(l ++ m).toArray⟩ := by
  apply ByteArray.ext
  simp

theorem bin_str (op : BinOp) (x y : List UInt8) (d : D) (h : strD op x y = some d) (t : TypeId) (S : Nat → Prop) : ∃ v, (binOp op t (.string ⟨x.toArray⟩) (.string ⟨y.toArray⟩)).run P w = .ok v w ∧ Rep w S ρ d v := by
  cases op <;> simp only [strD] at h <;> try (cases h; done)
  case add =>
    split at h
    · rename_i hl
      injection h with h
      subst h
      refine ⟨.string ⟨(x ++ y).toArray⟩, ?_, .pure (.str _)⟩
      have hle : ¬ (((⟨x.toArray⟩ : ByteArray).size + (⟨y.toArray⟩ : ByteArray).size : Nat) : Int) > IntKind.i64.max := by
        have : (IntKind.i64.max : Int) = 9223372036854775807 := by decide
        rw [this]
        simp [ByteArray.size]
        omega
      simp only [binOp, Op.stringOp, hle, if_false, Sem.run_pure, bytes_append]
    · cases h
  all_goals
    injection h with h
    subst h
    exact ⟨_, by simp only [binOp, Op.stringOp, ByteArray.toList_eq, Sem.run_pure], .pure (.bool _)⟩

theorem guard_plain (op : BinOp) (t : TypeId) (x y : Operand) (vx vy : Value) (h : (∃ k n, vx = .int k n) ∨ (∃ s, vx = .string s) ∨ (∃ b, vx = .bool b)) : (eqGuard op t x y vx vy).run P w = .ok () w := by
  rcases h with ⟨k, n, rfl⟩ | ⟨s, rfl⟩ | ⟨b, rfl⟩ <;> cases op <;> simp [eqGuard]

theorem part_one {t : TypeId} {off : Nat} {cs : Array Value} {v : Value} (hf : flatT P t = true) (hv : cs[off]? = some v) : (part t cs off).run P w = .ok v w := by
  have hu : ∃ d, P.underlying t = some d ∧ aggT P t = false := by
    unfold flatT at hf
    unfold aggT
    cases hu : P.underlying t with
    | none => simp [hu] at hf
    | some d => cases d <;> simp [hu] at hf <;> exact ⟨_, rfl, rfl⟩
  obtain ⟨d, hu, ha⟩ := hu
  simp [part, run_aggT hu, ha, hv]

/-- '==' field by field -/
theorem eqFields_run {S : Nat → Prop} {vx vy : Array Value} {n : Nat} : ∀ (fs : List Field) (o : Nat) (xs ys : List D) (b : Bool), fs.all (fun f => f.name != "_" && flatT P f.type && sizeT P f.type == 1) = true → fs.map (·.offset) = List.range' o fs.length →
    fs.length = xs.length → eqL xs ys = some b → (∀ (i : Nat) d, xs[i]? = some d → ∃ v, vx[o + i]? = some v ∧ Rep w S ρ d v) → (∀ (i : Nat) d, ys[i]? = some d → ∃ v, vy[o + i]? = some v ∧ Rep w S ρ d v) →
    (∀ (i : Nat) f d, fs[i]? = some f → xs[i]? = some d → fitsT P f.type d) → (Op.eqFields (n + 1) vx vy fs).run P w = .ok b w := by
  intro fs
  induction fs with
  | nil =>
    intro o xs ys b _ _ hl he _ _ _
    cases xs with
    | nil => cases ys with
      | nil => simp [eqL] at he; subst he; simp [Op.eqFields]
      | cons y ys => simp [eqL] at he
    | cons x xs => simp at hl
  | cons f fs ih =>
    intro o xs ys b hall hoff hl he hx hy hfit
    cases xs with
    | nil => simp at hl
    | cons x xs =>
    cases ys with
    | nil => simp [eqL] at he
    | cons y ys =>
    simp only [List.all_cons, Bool.and_eq_true, bne_iff_ne, ne_eq, beq_iff_eq] at hall
    obtain ⟨⟨⟨hn, hf⟩, _⟩, hrest⟩ := hall
    simp only [List.map_cons, List.length_cons, List.range'_succ, List.cons.injEq] at hoff
    obtain ⟨ho, hoff⟩ := hoff
    obtain ⟨v, hv, hrv⟩ := hx 0 x rfl
    obtain ⟨u, hu, hru⟩ := hy 0 y rfl
    simp only [Nat.add_zero] at hv hu
    have hfx := hfit 0 f x rfl rfl
    have ih' := fun b h => ih (o + 1) xs ys b hrest hoff (by simpa using hl) h (fun i d hd => by have := hx (i + 1) d (by simpa using hd); rwa [show o + (i + 1) = o + 1 + i from by omega] at this)
      (fun i d hd => by have := hy (i + 1) d (by simpa using hd); rwa [show o + (i + 1) = o + 1 + i from by omega] at this) (fun i f d hf hd => hfit (i + 1) f d (by simpa using hf) (by simpa using hd))
    simp only [eqL] at he
    cases hxy : eqC x y with
    | none => simp [hxy] at he
    | some c =>
      have hr := eqC_run (n := n) hxy hrv hru hfx
      simp only [Op.eqFields, hn, not_false_eq_true, ne_eq, if_true, Sem.run_bind, ho, part_one hf hv, part_one hf hu, Result.andThen_ok, hr]
      cases c with
      | true =>
        simp only [hxy] at he
        simp only [Bool.not_true, Bool.false_eq_true, if_false]
        exact ih' b he
      | false =>
        simp only [hxy] at he
        cases hrec : eqL xs ys with
        | none => simp [hrec] at he
        | some c' => simp only [hrec] at he; injection he with he; subst he; simp

end Go.V
