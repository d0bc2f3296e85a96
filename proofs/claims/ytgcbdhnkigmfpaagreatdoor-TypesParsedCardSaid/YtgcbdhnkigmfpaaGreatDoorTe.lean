/-
  Types: a map's entries as plain data; categories that lie in circles.
-/
import Derived.Test.YtgcbdhnkigmfpaaGreatDoorTd
namespace Go.V.Ty
open Go.Proofs Go.RowKit Go.V.Lx Go.V.Gr
set_option linter.unusedSimpArgs false
set_option linter.unusedVariables false
set_option maxRecDepth 100000

/-- a map's entries: key, what it holds, stamp -/
abbrev PM := List (Str × D × Int)
def encM (m : PM) : List D := m.map fun e => .tup [.str e.1, e.2.1, .int .i64 e.2.2]
theorem encM_len (m : PM) : (encM m).length = m.length := by simp [encM]
theorem findM_or (s : Str) : ∀ (m : PM) (i : Nat), (findM .str (.str s) (encM m) i = some none ∧ ∀ e ∈ m, e.1 ≠ s) ∨ ∃ j e, findM .str (.str s) (encM m) i = some (some (i + j, e.2.1)) ∧ m[j]? = some e ∧ e.1 = s
  | [], i => .inl ⟨rfl, by simp⟩
  | e :: m, i => by
    by_cases h : s = e.1
    · exact .inr ⟨0, e, by simp [encM, findM, sameK, h], rfl, h.symm⟩
    · have hb : (s == e.1) = false := by simpa using h
      rcases findM_or s m (i + 1) with ⟨h1, h2⟩ | ⟨j, e', h1, h2, h3⟩
      · refine .inl ⟨?_, fun x hx => ?_⟩
        · simp only [encM, List.map_cons, findM, sameK, hb]; exact h1
        · rcases List.mem_cons.1 hx with rfl | hx
          · exact Ne.symm h
          · exact h2 x hx
      · refine .inr ⟨j + 1, e', ?_, by simpa using h2, h3⟩
        simp only [encM, List.map_cons, findM, sameK, hb]
        rw [show i + (j + 1) = i + 1 + j by omega]; exact h1
theorem enc_modify (s : Str) (v : D) : ∀ (m : PM) (j : Nat), (encM m).modify j (putE (.str s) v) = encM (m.modify j fun e => (s, v, e.2.2))
  | [], j => by simp [encM]
  | e :: m, 0 => by simp [encM, putE]
  | e :: m, j + 1 => by simpa [encM] using enc_modify s v m j
theorem enc_erase : ∀ (m : PM) (j : Nat), (encM m).eraseIdx j = encM (m.eraseIdx j)
  | [], j => by simp [encM]
  | e :: m, 0 => by simp [encM]
  | e :: m, j + 1 => by simpa [encM] using enc_erase m j
theorem updM_new {m : PM} {s : Str} {c : Int} {v : D} (h : ∀ e ∈ m, e.1 ≠ s) : updM .str (.str s) v c (encM m) = some (.int .i64 (c + 1) :: encM (m ++ [(s, v, c)])) := by
  rcases findM_or s m 0 with ⟨h1, _⟩ | ⟨j, e, _, h2, h3⟩
  · simp only [updM, h1]; simp [encM]
  · exact (h e (List.mem_of_getElem? h2) h3).elim
theorem updM_any (m : PM) (s : Str) (c : Int) (v : D) : ∃ (m' : PM) (c' : Int), updM .str (.str s) v c (encM m) = some (.int .i64 c' :: encM m') ∧ m'.length ≤ m.length + 1 ∧ ((∃ e ∈ m, e.1 = s) → m'.length = m.length) := by
  rcases findM_or s m 0 with ⟨h1, h2⟩ | ⟨j, e, h1, h2, h3⟩
  · exact ⟨m ++ [(s, v, c)], c + 1, updM_new h2, by simp, fun ⟨e, he, hs⟩ => (h2 e he hs).elim⟩
  · exact ⟨m.modify j fun e => (s, v, e.2.2), c, by simp [updM, h1, enc_modify], by simp, by simp⟩
theorem delM_at {m : PM} {s : Str} {c : Int} (h : ∃ e ∈ m, e.1 = s) : ∃ j e, m[j]? = some e ∧ e.1 = s ∧ delM .str (.str s) c (encM m) = some (.int .i64 c :: encM (m.eraseIdx j)) := by
  obtain ⟨e, he, hs⟩ := h
  rcases findM_or s m 0 with ⟨h1, h2⟩ | ⟨j, e, h1, h2, h3⟩
  · exact (h2 e he hs).elim
  · exact ⟨j, e, h2, h3, by simp [delM, h1, enc_erase]⟩

/-! Categories that lie in circles -/
def edge (x : Rule) : Option (Str × Str) := match x.parts with
  | [q] => if q.text = [] then some (x.cat, q.cat) else none
  | _ => none
def Edge (rs : List Rule) (c d : Str) : Prop := ∃ x ∈ rs, edge x = some (c, d)
def leadsB (L : List Str) (c : Str) (x : Rule) : Bool := match edge x with
  | some (a, b) => decide (a = c) && L.contains b
  | none => false
def Full (rs : List Rule) (L : List Str) : Prop := ∀ c ∈ L, rs.any (leadsB L c) = true
def peel (rs : List Rule) (L : List Str) : List Str := L.filter fun c => rs.any (leadsB L c)
def peelN (rs : List Rule) : Nat → List Str → List Str
  | 0, L => L
  | k + 1, L => peelN rs k (peel rs L)
def circB (g : Gram) : Bool := !(peelN g.rules g.cats.length g.cats).isEmpty
theorem any_leads {rs : List Rule} {L : List Str} {c : Str} : rs.any (leadsB L c) = true ↔ ∃ d ∈ L, Edge rs c d := by
  rw [List.any_eq_true]
  constructor
  · rintro ⟨x, hx, h⟩
    unfold leadsB at h
    split at h
    · rename_i a b he
      simp only [Bool.and_eq_true, decide_eq_true_eq, List.contains_iff_mem] at h
      exact ⟨b, h.2, x, hx, by rw [he, h.1]⟩
    · cases h
  · rintro ⟨d, hd, x, hx, he⟩
    exact ⟨x, hx, by simp [leadsB, he, hd]⟩
theorem leads_mono {rs : List Rule} {L M : List Str} {c : Str} (h : ∀ x ∈ L, x ∈ M) (hl : rs.any (leadsB L c) = true) : rs.any (leadsB M c) = true := by
  obtain ⟨d, hd, he⟩ := any_leads.1 hl
  exact any_leads.2 ⟨d, h d hd, he⟩
theorem peel_has {rs : List Rule} {F L : List Str} (hF : Full rs F) (h : ∀ x ∈ F, x ∈ L) : ∀ x ∈ F, x ∈ peel rs L := fun x hx => List.mem_filter.2 ⟨h x hx, leads_mono h (hF x hx)⟩
theorem peelN_has {rs : List Rule} {F : List Str} (hF : Full rs F) : ∀ (k : Nat) (L : List Str), (∀ x ∈ F, x ∈ L) → ∀ x ∈ F, x ∈ peelN rs k L
  | 0, L, h => h
  | k + 1, L, h => peelN_has hF k _ (peel_has hF h)
theorem peelN_sub {rs : List Rule} : ∀ (k : Nat) (L : List Str), ∀ x ∈ peelN rs k L, x ∈ L
  | 0, L, x, h => h
  | k + 1, L, x, h => (List.mem_filter.1 (peelN_sub k _ x h)).1
theorem peel_full {rs : List Rule} {L : List Str} (h : Full rs L) : peel rs L = L := List.filter_eq_self.2 h
theorem peelN_full {rs : List Rule} {L : List Str} (h : Full rs L) : ∀ k, peelN rs k L = L
  | 0 => rfl
  | k + 1 => by rw [peelN, peel_full h, peelN_full h k]
theorem peelN_or {rs : List Rule} : ∀ (k : Nat) (L : List Str), Full rs (peelN rs k L) ∨ (peelN rs k L).length + k ≤ L.length
  | 0, L => .inr (Nat.le_refl _)
  | k + 1, L => by
    rw [peelN]
    by_cases h : (peel rs L).length < L.length
    · rcases peelN_or k (peel rs L) with h1 | h1
      · exact .inl h1
      · exact .inr (by omega)
    · have hL : Full rs L := by
        have := List.length_filter_le (fun c => rs.any (leadsB L c)) L
        exact List.length_filter_eq_length_iff.1 (by unfold peel at h; omega)
      exact .inl (by rw [peel_full hL, peelN_full hL]; exact hL)
theorem full_nil (rs : List Rule) : Full rs [] := fun c h => by simp at h
theorem circ_full (g : Gram) : Full g.rules (peelN g.rules g.cats.length g.cats) := by
  rcases peelN_or (rs := g.rules) g.cats.length g.cats with h | h
  · exact h
  · have : peelN g.rules g.cats.length g.cats = [] := List.eq_nil_of_length_eq_zero (by omega)
    rw [this]; exact full_nil _
/-- what is left, however one came there -/
theorem circ_left {g : Gram} {L : List Str} (h1 : ∀ x ∈ L, x ∈ g.cats) (h2 : Full g.rules L) (h3 : ∀ F, Full g.rules F → (∀ x ∈ F, x ∈ g.cats) → ∀ x ∈ F, x ∈ L) : circB g = !L.isEmpty := by
  unfold circB
  cases hL : L with
  | nil =>
    cases hp : peelN g.rules g.cats.length g.cats with
    | nil => rfl
    | cons y ys =>
      have := h3 _ (circ_full g) (peelN_sub _ _) y (by rw [hp]; simp)
      rw [hL] at this; simp at this
  | cons x xs =>
    have := peelN_has h2 g.cats.length g.cats h1 x (by rw [hL]; simp)
    cases hp : peelN g.rules g.cats.length g.cats with
    | nil => rw [hp] at this; simp at this
    | cons y ys => rfl
theorem circ_iff (g : Gram) : circB g = true ↔ ∃ F, F ≠ [] ∧ Full g.rules F ∧ ∀ x ∈ F, x ∈ g.cats := by
  constructor
  · intro h
    refine ⟨_, ?_, circ_full g, peelN_sub _ _⟩
    intro e
    rw [circB, e] at h
    cases h
  · rintro ⟨F, hne, hF, hs⟩
    obtain ⟨x, hx⟩ := List.exists_mem_of_ne_nil F hne
    have := peelN_has hF g.cats.length g.cats hs x hx
    unfold circB
    cases hp : peelN g.rules g.cats.length g.cats with
    | nil => rw [hp] at this; simp at this
    | cons y ys => rfl
end Go.V.Ty
