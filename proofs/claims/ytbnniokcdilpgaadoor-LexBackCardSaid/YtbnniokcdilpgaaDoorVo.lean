/-
  A region whose order is drawn.
-/
import Derived.Test.YtbnniokcdilpgaaDoorVn
namespace Go.V
open Go.RowKit

variable {P : Program} {C : Calc} {X : Ctx} {ρ : Rho} {σ : Env} {bx : Bxs} {a : Act} {w : World} {r : Option Nat} {n : Nat}

theorem before_size (ops : List Oper) (acc : Array Nat) : (ops.foldl (fun acc o => acc.push (o.after.foldl (fun s e => if Region.binds .any e then s ||| 2 ^ e.on ||| acc.getD e.on 0 else s) 0)) acc).size = acc.size + ops.length := by
  induction ops generalizing acc with
  | nil => rfl
  | cons o ops ih => rw [List.foldl_cons, ih]; simp; omega

/-- What one more operation adds to the table. -/
def befOf (acc : Array Nat) (o : Oper) : Nat := o.after.foldl (fun s e => if Region.binds .any e then s ||| 2 ^ e.on ||| acc.getD e.on 0 else s) 0

theorem before_get (ops : List Oper) (acc : Array Nat) (k : Nat) (hk : k < acc.size) : (ops.foldl (fun acc o => acc.push (befOf acc o)) acc)[k]? = acc[k]? := by
  induction ops generalizing acc with
  | nil => rfl
  | cons o ops ih =>
    rw [List.foldl_cons, ih _ (by simp; omega), Array.getElem?_push, if_neg (by omega)]

theorem before_snoc (ops : List Oper) (o : Oper) : (ops ++ [o]).foldl (fun acc o => acc.push (befOf acc o)) #[] = (ops.foldl (fun acc o => acc.push (befOf acc o)) #[]).push (befOf (ops.foldl (fun acc o => acc.push (befOf acc o)) #[]) o) := by
  rw [List.foldl_append]; rfl

theorem befOf_bit {acc : Array Nat} {L : Nat → Prop} {o : Oper} (hL : ∀ e ∈ o.after, Region.binds .any e = true → L e.on ∧ ∀ j, (acc.getD e.on 0).testBit j = true → L j) {j : Nat} (h : (befOf acc o).testBit j = true) : L j := by
  unfold befOf at h
  rw [← Array.foldl_toList] at h
  have key : ∀ (es : List Edge) (s : Nat), (∀ e ∈ es, Region.binds .any e = true → L e.on ∧ ∀ j, (acc.getD e.on 0).testBit j = true → L j) → (s.testBit j = true → L j) →
      (es.foldl (fun s e => if Region.binds .any e then s ||| 2 ^ e.on ||| acc.getD e.on 0 else s) s).testBit j = true → L j := by
    intro es
    induction es with
    | nil => exact fun s _ hs h => hs h
    | cons e es ih =>
      intro s he hs h
      rw [List.foldl_cons] at h
      refine ih _ (fun e' he' => he e' (List.mem_cons_of_mem _ he')) ?_ h
      intro h
      split at h
      · rename_i hb
        obtain ⟨g1, g2⟩ := he e (List.mem_cons_self ..) hb
        simp only [Nat.testBit_or, Nat.testBit_two_pow, Bool.or_eq_true, decide_eq_true_eq] at h
        rcases h with (h | h) | h
        · exact hs h
        · exact h ▸ g1
        · exact g2 j h
      · exact hs h
  exact key _ 0 (fun e he => hL e (by simpa using he)) (by simp) h

/-- Whoever comes before an operation of which all grounds are met is met too. -/
theorem before_closed {ops : List Oper} {L : Nat → Prop} (hL : ∀ (i : Nat) o, ops[i]? = some o → L i → ∀ e ∈ o.after, Region.binds .any e = true → L e.on ∧ e.on < i) :
    ∀ (i : Nat) o, ops[i]? = some o → (∀ e ∈ o.after, Region.binds .any e = true → L e.on ∧ e.on < i) → ∀ j, ((Region.before ops.toArray).getD i 0).testBit j = true → L j := by
  have hb : Region.before ops.toArray = ops.foldl (fun acc o => acc.push (befOf acc o)) #[] := by
    unfold Region.before
    rw [List.foldl_toArray]
    rfl
  rw [hb]
  intro i
  induction i using Nat.strongRecOn with
  | _ i ih =>
    intro o ho he j hj
    have hi := (List.getElem?_eq_some_iff.1 ho).1
    have hsplit : ops = ops.take i ++ [o] ++ ops.drop (i + 1) := by
      have := List.take_append_drop i ops
      rw [List.drop_eq_getElem_cons hi] at this
      have ho' : ops[i] = o := by rw [List.getElem?_eq_getElem hi] at ho; injection ho
      rw [ho'] at this
      simpa using this.symm
    have hacc : ∀ k, k < i → ((ops.take i).foldl (fun acc o => acc.push (befOf acc o)) #[]).getD k 0 = (ops.foldl (fun acc o => acc.push (befOf acc o)) #[]).getD k 0 := by
      intro k hk
      rw [Array.getD_eq_getD_getElem?, Array.getD_eq_getD_getElem?]
      congr 1
      conv => rhs; rw [← List.take_append_drop i ops, List.foldl_append]
      refine (before_get _ _ _ ?_).symm
      have := before_size (ops.take i) #[]
      unfold befOf
      rw [this]; simp; omega
    have hval : (ops.foldl (fun acc o => acc.push (befOf acc o)) #[]).getD i 0 = befOf ((ops.take i).foldl (fun acc o => acc.push (befOf acc o)) #[]) o := by
      have hsz : ((ops.take i).foldl (fun acc o => acc.push (befOf acc o)) #[]).size = i := by
        have := before_size (ops.take i) #[]
        unfold befOf
        rw [this]; simp; omega
      rw [Array.getD_eq_getD_getElem?]
      conv => lhs; rw [hsplit, List.foldl_append]
      rw [before_get _ _ _ (by rw [before_snoc]; simp [hsz]), before_snoc, Array.getElem?_push, if_pos hsz.symm]
      rfl
    rw [hval] at hj
    refine befOf_bit (fun e hem hb => ?_) hj
    obtain ⟨g1, g2⟩ := he e hem hb
    refine ⟨g1, fun j' hj' => ?_⟩
    rw [hacc _ g2] at hj'
    have hlt : e.on < ops.length := by omega
    exact ih e.on g2 ops[e.on] (List.getElem?_eq_getElem hlt) (hL e.on _ (List.getElem?_eq_getElem hlt) g1) j' hj'

end Go.V
