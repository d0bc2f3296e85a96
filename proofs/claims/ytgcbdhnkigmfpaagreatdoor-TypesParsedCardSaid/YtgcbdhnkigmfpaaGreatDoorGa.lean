/-
  Grammar: plain data; the parser of tokens.
-/
import Derived.Test.YtgcbdhnkigmfpaaGreatDoorLP
import Derived.Test.YtgcbdhnkigmfpaaGreatDoorG0
namespace Go.V.Gr
open Go.Proofs Go.RowKit Go.V.Lx
set_option linter.unusedSimpArgs false
set_option linter.unusedVariables false

/-- A reader of tokens: what was read and what is left; or what is left at the first wrong one. -/
abbrev Rd (α : Type) := List Tk → Except (List Tk) (α × List Tk)
def Rd.pure {α : Type} (a : α) : Rd α := fun l => .ok (a, l)
def Rd.bind {α β : Type} (p : Rd α) (f : α → Rd β) : Rd β := fun l => match p l with
  | .ok (a, r) => f a r
  | .error r => .error r
def isT (text : Str) : List Tk → Bool
  | x :: _ => decide (x.k ≠ 2) && decide (x.t = text)
  | [] => false
def isNm : List Tk → Bool
  | x :: _ => decide (x.k = 1) && !words8.contains x.t
  | [] => false
def isNo : List Tk → Bool
  | x :: _ => decide (x.k = 2)
  | [] => false
def want (text : Str) : Rd Unit := fun l => if isT text l = true then .ok ((), l.tail) else .error l
def bare : Rd Str := fun l => match l with
  | x :: r => if isNm (x :: r) = true then .ok (x.t, r) else .error (x :: r)
  | [] => .error []
def number : Rd Int := fun l => match l with
  | x :: r => if isNo (x :: r) = true then .ok (x.n, r) else .error (x :: r)
  | [] => .error []
def nameP (text : Str) : Rd Str := (want text).bind fun _ => bare
def costP : Rd Int := (want wCost).bind fun _ => number.bind fun n => (want [59]).bind fun _ => Rd.pure n
/-- items as long as something is so -/
def many {α : Type} (more : List Tk → Bool) (item : Rd α) : Nat → Rd (List α)
  | 0 => Rd.pure []
  | n + 1 => fun l => if more l = true then (item.bind fun a => (many more item n).bind fun xs => Rd.pure (a :: xs)) l else .ok ([], l)
def some' {α : Type} (more : List Tk → Bool) (item : Rd α) : Rd (List α) := fun l => many more item l.length l
def category : Rd Str := (nameP wCategory).bind fun s => (want [59]).bind fun _ => Rd.pure s
def entryP : Rd Entry := (nameP wWord).bind fun t => (nameP wIs).bind fun c => (nameP wGives).bind fun g => (some' (isT [44]) (nameP [44])).bind fun gs => costP.bind fun n => Rd.pure ⟨t, c, 0, g :: gs, n⟩
def partP : Rd Part := fun l => if isT [58] l = true then ((nameP [58]).bind fun s => Rd.pure ⟨[], 0, s⟩) l else (bare.bind fun s => Rd.pure ⟨s, 0, []⟩) l
def giveP : Rd Give := fun l => if isT [58] l = true then ((nameP [58]).bind fun s => Rd.pure ⟨0, s⟩) l else (number.bind fun n => Rd.pure ⟨n, []⟩) l
def moreP (l : List Tk) : Bool := isNm l || isT [58] l
def moreG (l : List Tk) : Bool := isNo l || isT [58] l
def ruleP : Rd Rule := (nameP wRule).bind fun c => (want [61]).bind fun _ => partP.bind fun p => (some' moreP partP).bind fun ps => (want wGives).bind fun _ => giveP.bind fun g => (some' moreG giveP).bind fun gs => costP.bind fun n => Rd.pure ⟨c, 0, p :: ps, g :: gs, n⟩
def headP : Rd (Str × List Str × Str) := (nameP wGrammar).bind fun n => (want [59]).bind fun _ => (some' (isT wCategory) category).bind fun cs => (nameP wStart).bind fun s => (want [59]).bind fun _ => Rd.pure (n, cs, s)
def endP : Rd Unit := fun l => match l with
  | [] => .ok ((), [])
  | x :: r => .error (x :: r)
def gramP : Rd Gram := headP.bind fun h => (some' (isT wWord) entryP).bind fun es => (some' (isT wRule) ruleP).bind fun rs => endP.bind fun _ => Rd.pure ⟨h.1, h.2.1, h.2.2, 0, es, rs⟩
/-- where an error is -/
def placeT (fin : Nat) : List Tk → Int
  | x :: _ => x.a
  | [] => fin
def readL (l : List Tk) (fin : Nat) : Gram × Int × Int := match gramP l with
  | .ok (g, _) => (g, 0, 0)
  | .error r => (Gram.zero, placeT fin r, 250)
def parseL (s : Str) : Gram × Int × Int := match lexL s with
  | (l, at_, e) => if e = 0 then readL l s.length else (Gram.zero, at_, e)

/-! ### Readers look at no more than the next token -/
/-- A reader that only takes from the front. -/
def Fwd {α : Type} (p : Rd α) : Prop := ∀ l, match p l with
  | .ok (_, r) => ∃ k, r = l.drop k
  | .error r => ∃ k, r = l.drop k
theorem fwd_pure {α : Type} (a : α) : Fwd (Rd.pure a) := fun l => ⟨0, by simp⟩
theorem Fwd.bind {α β : Type} {p : Rd α} {f : α → Rd β} (hp : Fwd p) (hf : ∀ a, Fwd (f a)) : Fwd (p.bind f) := fun l => by
  have h := hp l
  unfold Rd.bind
  cases hpl : p l with
  | error r => rw [hpl] at h; exact h
  | ok q =>
    obtain ⟨a, r⟩ := q
    rw [hpl] at h
    obtain ⟨k, rfl⟩ := h
    have h2 := hf a (l.drop k)
    simp only at h2 ⊢
    cases hq : f a (l.drop k) with
    | error r =>
      rw [hq] at h2
      obtain ⟨j, rfl⟩ := h2
      exact ⟨k + j, by rw [List.drop_drop]⟩
    | ok q =>
      obtain ⟨b, r⟩ := q
      rw [hq] at h2
      obtain ⟨j, rfl⟩ := h2
      exact ⟨k + j, by rw [List.drop_drop]⟩
/-- Two lists of tokens agree apart from places in their first i. -/
def Agree (i : Nat) (l m : List Tk) : Prop := i ≤ l.length ∧ i ≤ m.length ∧ ∀ j, j < i → ∃ x y, l[j]? = some x ∧ m[j]? = some y ∧ x.k = y.k ∧ x.t = y.t ∧ x.n = y.n
theorem Agree.drop {i k : Nat} {l m : List Tk} (h : Agree i l m) (hk : k ≤ i) : Agree (i - k) (l.drop k) (m.drop k) := by
  obtain ⟨h1, h2, h3⟩ := h
  refine ⟨by rw [List.length_drop]; omega, by rw [List.length_drop]; omega, fun j hj => ?_⟩
  obtain ⟨x, y, e1, e2, e3⟩ := h3 (k + j) (by omega)
  exact ⟨x, y, by rw [List.getElem?_drop]; exact e1, by rw [List.getElem?_drop]; exact e2, e3⟩
/-- What a reader does with lists that agree in the first i: the same, or it comes to the i-th in the second. -/
def Loc {α : Type} (p : Rd α) : Prop := ∀ (i : Nat) (l m : List Tk), Agree i l m →
  (∃ a k, k ≤ i ∧ p l = .ok (a, l.drop k) ∧ p m = .ok (a, m.drop k) ∧ k < i) ∨
  (∃ k, k < i ∧ p l = .error (l.drop k) ∧ p m = .error (m.drop k)) ∨
  (∃ k, i ≤ k ∧ ((∃ a, p m = .ok (a, m.drop k)) ∨ p m = .error (m.drop k)))
end Go.V.Gr
