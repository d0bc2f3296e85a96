/-
  Cuts: plain data and what the functions compute, in exact arithmetic.
-/
import Derived.Test.YtfhbndbngdglfaaVx
namespace Go.V.Cu
set_option linter.unusedSimpArgs false
set_option linter.unusedVariables false

structure Span where
  f : Int
  u : Int
  deriving DecidableEq
def Span.d (s : Span) : D := .agg [.int .i64 s.f, .int .i64 s.u]
def spans (l : List Span) : D := .sl 2 (l.map Span.d)
def ints (l : List Int) : D := .sl 1 (l.map (D.int .i64))
def badSpan (s : Span) : Bool := decide (s.f < 0) || decide (s.u ≤ s.f) || decide (1099511627776 < s.u)
def check (l : List Span) : Int := if 256 < l.length then 2 else if l.any badSpan then 150 else 0
def intN : D → Nat
  | .int _ n => n.toNat
  | _ => 0
/-- an int of Go -/
def isI (n : Int) : Prop := -9223372036854775808 ≤ n ∧ n ≤ 9223372036854775807
def isTime (n : Int) : Bool := decide (0 ≤ n) && decide (n < 1099511627776)

def Span.good (x : Span) : Prop := 0 ≤ x.f ∧ x.f < x.u ∧ x.u ≤ 1099511627776
def Good (l : List Span) : Prop := l.length ≤ 256 ∧ ∀ x, x ∈ l → x.good
theorem good_of_check {l : List Span} (h : check l = 0) : Good l := by
  unfold check at h
  split at h
  · cases h
  · rename_i h1
    split at h
    · cases h
    · rename_i h2
      refine ⟨by omega, fun x hx => ?_⟩
      have h3 : badSpan x = false := by
        cases hb : badSpan x with
        | false => rfl
        | true => exact absurd (List.any_eq_true.2 ⟨x, hx, hb⟩) h2
      simp only [badSpan, Bool.or_eq_false_iff, decide_eq_false_iff_not] at h3
      unfold Span.good; omega
theorem check_of_good {l : List Span} (h : Good l) : check l = 0 := by
  unfold check
  have h1 := h.1
  rw [if_neg (by omega), if_neg]
  rw [Bool.not_eq_true, List.any_eq_false]
  intro x hx
  have := h.2 x hx
  unfold Span.good at this
  simp only [badSpan, Bool.or_eq_true, decide_eq_true_eq]
  omega

/-- the length of a cut -/
def lenZ : List Span → Int
  | [] => 0
  | x :: l => (x.u - x.f) + lenZ l
theorem lenZ_append (a b : List Span) : lenZ (a ++ b) = lenZ a + lenZ b := by
  induction a with
  | nil => simp [lenZ]
  | cons x a ih => simp only [List.cons_append, lenZ, ih]; omega
theorem lenZ_take {l : List Span} {k : Nat} {x : Span} (hx : l[k]? = some x) : lenZ (l.take (k + 1)) = lenZ (l.take k) + (x.u - x.f) := by
  rw [List.take_add_one, hx, lenZ_append]
  simp [lenZ]
theorem lenZ_bound {l : List Span} (h : ∀ x, x ∈ l → x.good) : 0 ≤ lenZ l ∧ lenZ l ≤ l.length * 1099511627776 := by
  induction l with
  | nil => simp [lenZ]
  | cons x l ih =>
    have h1 := h x (by simp)
    have h2 := ih (fun y hy => h y (by simp [hy]))
    unfold Span.good at h1
    simp only [lenZ, List.length_cons]
    omega
theorem lenZ_take_bound {l : List Span} (h : Good l) (k : Nat) : 0 ≤ lenZ (l.take k) ∧ lenZ (l.take k) ≤ 281474976710656 := by
  have h1 := lenZ_bound (l := l.take k) (fun x hx => h.2 x (List.mem_of_mem_take hx))
  have h2 := h.1
  have h3 : (l.take k).length ≤ l.length := List.length_take_le' ..
  omega
theorem good_at {l : List Span} (h : Good l) {k : Nat} {x : Span} (hx : l[k]? = some x) : x.good := h.2 x (List.mem_of_getElem? hx)

def pieceItems (l : List Span) : List (List D) := l.zipIdx.map fun (x, k) => [.int .i64 (lenZ (l.take k)), x.d]
theorem pieceItems_len (l : List Span) : (pieceItems l).length = l.length := by simp [pieceItems]
theorem pieceItems_at {l : List Span} {k : Nat} {x : Span} (hx : l[k]? = some x) : (pieceItems l)[k]? = some [.int .i64 (lenZ (l.take k)), x.d] := by
  simp [pieceItems, List.getElem?_zipIdx, hx]
theorem pieceItems_get {l : List Span} {n : Nat} {it : List D} (h : (pieceItems l)[n]? = some it) : ∃ x, l[n]? = some x ∧ it = [.int .i64 (lenZ (l.take n)), x.d] := by
  cases hx : l[n]? with
  | none => simp [pieceItems, List.getElem?_zipIdx, hx] at h
  | some x => rw [pieceItems_at hx] at h; injection h with h; exact ⟨x, rfl, h.symm⟩

/-- the original time of a time, from b on -/
def backZ (u : Int) : Int → List Span → Int × Bool
  | _, [] => (0, false)
  | b, x :: l => if u < b + (x.u - x.f) then (x.f + u - b, true) else backZ u (b + (x.u - x.f)) l
def back (l : List Span) (u : Int) : Int × Bool × Int :=
  if check l ≠ 0 then (0, false, check l) else if isTime u = false then (0, false, 1) else ((backZ u 0 l).1, (backZ u 0 l).2, 0)
def backD (r : Int × Bool × Int) : D := .tup [.int .i64 r.1, .bool r.2.1, .int .i64 r.2.2]
theorem backZ_at {l : List Span} {k : Nat} {x : Span} (u : Int) (hx : l[k]? = some x) : backZ u (lenZ (l.take k)) (l.drop k) = if u < lenZ (l.take k) + (x.u - x.f) then (x.f + u - lenZ (l.take k), true) else backZ u (lenZ (l.take (k + 1))) (l.drop (k + 1)) := by
  obtain ⟨hk, hx'⟩ := List.getElem?_eq_some_iff.1 hx
  rw [List.drop_eq_getElem_cons hk, hx', backZ, lenZ_take hx]

/-- the times at which an original time is shown -/
def toZ (t : Int) : Int → List Span → List Int
  | _, [] => []
  | b, x :: l => (if x.f ≤ t ∧ t < x.u ∧ isTime (b + t - x.f) = true then [b + t - x.f] else []) ++ toZ t (b + (x.u - x.f)) l
def to (l : List Span) (t : Int) : List Int × Int :=
  if check l ≠ 0 then ([], check l) else if isTime t = false then ([], 1) else (toZ t 0 l, 0)
def toD (r : List Int × Int) : D := .tup [ints r.1, .int .i64 r.2]
theorem toZ_at {l : List Span} {k : Nat} {x : Span} (t : Int) (hx : l[k]? = some x) : toZ t (lenZ (l.take k)) (l.drop k) = (if x.f ≤ t ∧ t < x.u ∧ isTime (lenZ (l.take k) + t - x.f) = true then [lenZ (l.take k) + t - x.f] else []) ++ toZ t (lenZ (l.take (k + 1))) (l.drop (k + 1)) := by
  obtain ⟨hk, hx'⟩ := List.getElem?_eq_some_iff.1 hx
  rw [List.drop_eq_getElem_cons hk, hx', toZ, lenZ_take hx]

/-- a piece is added -/
def addZ (l : List Span) (x : Span) : List Span := match l.getLast? with
  | some y => if y.u = x.f then l.dropLast ++ [⟨y.f, x.u⟩] else l ++ [x]
  | none => [x]
theorem addZ_len (l : List Span) (x : Span) : l.length ≤ (addZ l x).length ∧ (addZ l x).length ≤ l.length + 1 := by
  unfold addZ
  cases h : l.getLast? with
  | none => simp at h; subst h; simp
  | some y =>
    have : 0 < l.length := by cases l <;> simp at h ⊢
    simp only; split <;> simp <;> omega

/-- what a piece that begins at b shows of a piece -/
def clipZ (x : Span) (b : Int) (y : Span) : Span := ⟨y.f + max 0 (x.f - b), min y.u (y.f + x.u - b)⟩
def shownZ (x : Span) : Int → List Span → List Span
  | _, [] => []
  | b, y :: a => (if (clipZ x b y).f < (clipZ x b y).u then [clipZ x b y] else []) ++ shownZ x (b + (y.u - y.f)) a
theorem shownZ_at {a : List Span} {k : Nat} {y : Span} (x : Span) (hy : a[k]? = some y) : shownZ x (lenZ (a.take k)) (a.drop k) = (if (clipZ x (lenZ (a.take k)) y).f < (clipZ x (lenZ (a.take k)) y).u then [clipZ x (lenZ (a.take k)) y] else []) ++ shownZ x (lenZ (a.take (k + 1))) (a.drop (k + 1)) := by
  obtain ⟨hk, hx'⟩ := List.getElem?_eq_some_iff.1 hy
  rw [List.drop_eq_getElem_cons hk, hx', shownZ, lenZ_take hy]
theorem shownZ_len (x : Span) (b : Int) (a : List Span) : (shownZ x b a).length ≤ a.length := by
  induction a generalizing b with
  | nil => simp [shownZ]
  | cons y a ih =>
    have := ih (b + (y.u - y.f))
    simp only [shownZ, List.length_append, List.length_cons]
    split <;> simp <;> omega
def joinZ (l : List Span) : List Span := l.foldl addZ []
def thenZ (a b : List Span) : List Span := joinZ (b.flatMap fun x => shownZ x 0 a)
def then_ (a b : List Span) : List Span × Int :=
  if check a ≠ 0 then ([], check a) else if check b ≠ 0 then ([], check b) else if 256 < (thenZ a b).length then ([], 2) else (thenZ a b, 0)
def thenD (r : List Span × Int) : D := .tup [spans r.1, .int .i64 r.2]

def within (a b : List Span) : Bool := b.all fun x => decide (x.u ≤ lenZ a)
def few (l : List Span) : Bool := decide (l.length ≤ 30) || (decide (256 < l.length) && decide (l.length ≤ 400))

theorem take_any {α : Type} {l : List α} {k : Nat} {x : α} (p : α → Bool) (hx : l[k]? = some x) (hb : (l.take k).any p = false) : (l.take (k + 1)).any p = p x := by
  rw [List.take_add_one, hx]
  simp [hb]
theorem any_of {α : Type} {l : List α} {k : Nat} {x : α} (p : α → Bool) (hx : l[k]? = some x) (hp : p x = true) : l.any p = true := by
  rw [List.any_eq_true]
  exact ⟨x, List.mem_of_getElem? hx, hp⟩
theorem get_lt {α : Type} {l : List α} {k : Nat} (h : k < l.length) : ∃ x, l[k]? = some x := ⟨l[k], by simp⟩

end Go.V.Cu
