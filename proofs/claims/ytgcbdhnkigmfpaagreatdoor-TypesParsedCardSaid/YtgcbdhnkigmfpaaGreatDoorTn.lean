/-
  Types: lists of rules of which the last one's parts are a slice of one's own; named, bare.
-/
import Derived.Test.YtgcbdhnkigmfpaaGreatDoorTm
namespace Go.V.Ty
open Go.Proofs Go.RowKit Go.V.Lx Go.V.Gr
set_option linter.unusedSimpArgs false
set_option linter.unusedVariables false
set_option maxRecDepth 100000

mutual
theorem outD_pure (bx : Bxs) : ∀ d : D, d.pure = true → outD bx d = some d ∧ names d = []
  | .loc .., h | .osl .., h | .omap .., h => by cases h
  | .agg ds, h => by have := outL_pure bx ds h; simp [outD, names, this]
  | .tup ds, h => by have := outL_pure bx ds h; simp [outD, names, this]
  | .fn f ds, h => by have := outL_pure bx ds h; simp [outD, names, this]
  | .bfn f ds, h => by have := outL_pure bx ds h; simp [outD, names, this]
  | .ifc t d, h => by have := outD_pure bx d h; simp [outD, names, this]
  | .undef, _ | .int .., _ | .bool _, _ | .str _, _ | .raw _, _ | .nilsl, _ | .sl .., _ | .cref .., _ | .any _, _ | .glo, _ | .abool, _ => ⟨by simp [outD], by simp [names]⟩
theorem outL_pure (bx : Bxs) : ∀ ds : List D, D.pureL ds = true → outL bx ds = some ds ∧ namesL ds = []
  | [], _ => ⟨by simp [outL], by simp [namesL]⟩
  | d :: ds, h => by
    simp only [D.pureL, Bool.and_eq_true] at h
    have h1 := outD_pure bx d h.1
    have h2 := outL_pure bx ds h.2
    exact ⟨by rw [outL_cons, h1.1, h2.1]; rfl, by simp [namesL, h1.2, h2.2]⟩
end
theorem out_snoc {bx : Bxs} {d d' : D} (hd : outD bx d = some d') : ∀ (l l' : List D), outL bx l = some l' → outL bx (l ++ [d]) = some (l' ++ [d'])
  | [], l', h => by simp only [outL_nil, Option.some.injEq] at h; subst h; rw [List.nil_append, outL_cons, hd, outL_nil]; rfl
  | x :: l, l', h => by
    rw [outL_cons] at h
    obtain ⟨y, ys, h1, h2, rfl⟩ := consO_inv h
    rw [List.cons_append, outL_cons, h1, out_snoc hd l ys h2]; rfl
theorem names_app : ∀ (l m : List D), namesL (l ++ m) = namesL l ++ namesL m
  | [], m => rfl
  | x :: l, m => by simp only [List.cons_append, namesL, names_app l m, List.append_assoc]
theorem pureL_app : ∀ (l m : List D), D.pureL (l ++ m) = (D.pureL l && D.pureL m)
  | [], m => by simp [D.pureL]
  | x :: l, m => by simp only [List.cons_append, D.pureL, pureL_app l m, Bool.and_assoc]
/-- one list's cells say no more than the other's -/
structure WkL (l m : List D) : Prop where
  len : l.length = m.length
  cells : ∀ (i : Nat) x x', l[i]? = some x → m[i]? = some x' → x.cells.length = x'.cells.length
  weak : ∀ (i : Nat) x x' (j : Nat) c c', l[i]? = some x → m[i]? = some x' → x.cells[j]? = some c → x'.cells[j]? = some c' → Weak c c'
theorem WkL.sl {l m : List D} (h : WkL l m) (sz : Nat) : Weak (.sl sz l) (.sl sz m) := .sl h.len h.cells h.weak
theorem WkL.nil : WkL [] [] := ⟨rfl, by simp, by simp⟩
theorem WkL.snoc {l m : List D} {d d' : D} (h : WkL l m) (h1 : d.cells.length = d'.cells.length) (h2 : ∀ (j : Nat) c c', d.cells[j]? = some c → d'.cells[j]? = some c' → Weak c c') : WkL (l ++ [d]) (m ++ [d']) := by
  have hl := h.len
  have at_ : ∀ (i : Nat) x x', (l ++ [d])[i]? = some x → (m ++ [d'])[i]? = some x' → (l[i]? = some x ∧ m[i]? = some x') ∨ (x = d ∧ x' = d') := by
    intro i x x' hx hx'
    by_cases hi : i < l.length
    · rw [List.getElem?_append_left hi] at hx
      rw [List.getElem?_append_left (by omega)] at hx'
      exact .inl ⟨hx, hx'⟩
    · have : i = l.length := by
        have := (List.getElem?_eq_some_iff.1 hx).1
        simp at this; omega
      subst this
      rw [List.getElem?_append_right (by omega)] at hx
      rw [List.getElem?_append_right (by omega), hl] at hx'
      simp at hx hx'
      exact .inr ⟨hx.symm, hx'.symm⟩
  refine ⟨by simp [hl], fun i x x' hx hx' => ?_, fun i x x' j c c' hx hx' hc hc' => ?_⟩
  · rcases at_ i x x' hx hx' with ⟨g1, g2⟩ | ⟨rfl, rfl⟩
    · exact h.cells i x x' g1 g2
    · exact h1
  · rcases at_ i x x' hx hx' with ⟨g1, g2⟩ | ⟨rfl, rfl⟩
    · exact h.weak i x x' j c c' g1 g2 hc hc'
    · exact h2 j c c' hc hc'
/-- a slice of one's own in the slot s; its elements may name the slot t -/
def Hoard (s t el : Nat) (x : D) (m : List D) (bx : Bxs) : Prop :=
  (x = .nilsl ∧ m = []) ∨ ∃ e es l, x = .osl s e 5 0 es.length ∧ bx s = ⟨e, 1, 5, el, es⟩ ∧ outL bx es = some l ∧ WkL l m ∧ D.pureL l = true ∧ ∀ q ∈ namesL es, q = t
theorem Hoard.len {s t el : Nat} {x : D} {m : List D} {bx : Bxs} (h : Hoard s t el x m bx) : x.cells = [x] ∧ x.one = true ∧ ∀ c, setD x 0 [c] = some c := by
  rcases h with ⟨rfl, rfl⟩ | ⟨e, es, l, rfl, h⟩ <;> exact ⟨rfl, rfl, fun c => by simp [setD, D.cells]⟩
theorem Hoard.melt {s t el : Nat} {x : D} {m : List D} {bx : Bxs} (h : Hoard s t el x m bx) (hst : s ≠ t) :
    ∃ bx0, (bx0 = bx ∨ ∃ l, (bx s).k = 1 ∧ outL bx (bx s).es = some l ∧ bx0 = Go.V.melt bx s l) ∧ (∀ q, q ≠ s → q ≠ t → bx0 q = bx q) ∧ ∃ l, OwnV bx0 [s] el 5 x l ∧ WkL l m ∧ D.pureL l = true := by
  rcases h with ⟨rfl, rfl⟩ | ⟨e, es, l, rfl, h1, h2, h3, h4, h5⟩
  · exact ⟨bx, .inl rfl, fun _ _ _ => rfl, [], .nil _ _ _ _, .nil, rfl⟩
  · have hes : (bx s).es = es := by rw [h1]
    have hf : frzL bx es s = bx s := by rw [frzL_at, if_neg (fun hm => hst (h5 _ hm))]
    refine ⟨_, .inr ⟨l, by rw [h1], by rw [hes]; exact h2, rfl⟩, fun q hq hq2 => ?_, l, .inr ⟨s, e, by simp, ?_, ?_⟩, h3, h4⟩
    · unfold Go.V.melt
      rw [hes, upd_ne hq, frzL_at, if_neg (fun hm => hq2 (h5 _ hm))]
    · rw [(outL_get _ _ h2).1]
    · unfold Go.V.melt
      rw [hes, upd_same, hf, h1]
theorem Hoard.add {s t el e : Nat} {l m : List D} {d d' dm : D} {bx : Bxs} (hw : WkL l m) (hp : D.pureL l = true) (hb : bx s = ⟨e, 1, 5, el, l ++ [d]⟩) (hd : outD bx d = some d') (hd' : d'.pure = true) (h1 : d'.cells.length = dm.cells.length)
    (h2 : ∀ (j : Nat) c c', d'.cells[j]? = some c → dm.cells[j]? = some c' → Weak c c') (hn : ∀ q ∈ names d, q = t) : Hoard s t el (.osl s e 5 0 (l ++ [d]).length) (m ++ [dm]) bx := by
  obtain ⟨o1, o2⟩ := outL_pure bx l hp
  refine .inr ⟨e, _, _, rfl, hb, out_snoc hd _ _ o1, hw.snoc h1 h2, by rw [pureL_app, hp]; simp [D.pureL, hd'], fun q hq => ?_⟩
  rw [names_app, o2] at hq
  simp [namesL] at hq
  exact hn q hq
theorem OwnV.names {ts : List Nat} {bx : Bxs} {el esz : Nat} {x : D} {xs : List D} (h : OwnV bx ts el esz x xs) : ∀ q ∈ Go.V.names x, q ∈ ts := by
  rcases h with ⟨rfl, _⟩ | ⟨t, e, ht, rfl, _⟩
  · intro q hq; simp [Go.V.names] at hq
  · intro q hq; simp [Go.V.names] at hq; subst hq; exact ht
theorem out_weak {ts : List Nat} {bx : Bxs} {el esz : Nat} {x : D} {xs : List D} (h : OwnV bx ts el esz x xs) (hp : D.pureL xs = true) {m : List D} (hw : WkL xs m) : ∃ r, outD bx x = some r ∧ Weak r (.sl esz m) ∧ r.pure = true := by
  rcases h with ⟨rfl, rfl⟩ | ⟨t, e, _, rfl, hb⟩
  · have : m = [] := List.eq_nil_of_length_eq_zero (by rw [← hw.len]; rfl)
    subst this
    exact ⟨_, outD_nilsl, .nil _, rfl⟩
  · exact ⟨_, by rw [outD_osl, hb]; exact outB_all _ _ _ _ _ _ (by decide) rfl hp, hw.sl _, rfl⟩
theorem WkL.refl (l : List D) : WkL l l := ⟨rfl, fun i x x' h h' => by rw [h] at h'; injection h' with h'; rw [h'], fun i x x' j c c' h h' hc hc' => by
  rw [h] at h'; injection h' with h'; subst h'; rw [hc] at hc'; injection hc' with hc'; subst hc'; exact .refl _⟩

end Go.V.Ty
