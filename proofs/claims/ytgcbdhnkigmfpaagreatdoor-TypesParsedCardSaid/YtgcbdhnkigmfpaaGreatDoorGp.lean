/-
  Grammar: readers of tokens, with no program in sight.
-/
import Derived.Test.YtgcbdhnkigmfpaaGreatDoorGa
namespace Go.V.Gr
open Go.Proofs Go.RowKit Go.V.Lx
set_option linter.unusedSimpArgs false
set_option linter.unusedVariables false

theorem Agree.head {i : Nat} {l m : List Tk} (h : Agree i l m) (hi : 0 < i) : ∃ x y l' m', l = x :: l' ∧ m = y :: m' ∧ x.k = y.k ∧ x.t = y.t ∧ x.n = y.n := by
  obtain ⟨h1, h2, h3⟩ := h
  obtain ⟨x, y, e1, e2, e3⟩ := h3 0 hi
  cases l with
  | nil => simp at e1
  | cons x' l' =>
    cases m with
    | nil => simp at e2
    | cons y' m' =>
      simp at e1 e2
      subst e1; subst e2
      exact ⟨_, _, _, _, rfl, rfl, e3⟩
theorem isT_agree {i : Nat} {l m : List Tk} (h : Agree i l m) (hi : 0 < i) (text : Str) : isT text l = isT text m := by
  obtain ⟨x, y, l', m', rfl, rfl, h1, h2, h3⟩ := h.head hi
  simp only [isT, h1, h2]
theorem isNm_agree {i : Nat} {l m : List Tk} (h : Agree i l m) (hi : 0 < i) : isNm l = isNm m := by
  obtain ⟨x, y, l', m', rfl, rfl, h1, h2, h3⟩ := h.head hi
  simp only [isNm, h1, h2]
theorem isNo_agree {i : Nat} {l m : List Tk} (h : Agree i l m) (hi : 0 < i) : isNo l = isNo m := by
  obtain ⟨x, y, l', m', rfl, rfl, h1, h2, h3⟩ := h.head hi
  simp only [isNo, h1]

/-- A reader of one token. -/
theorem fwd_want (text : Str) : Fwd (want text) := fun l => by
  unfold want
  split
  · rename_i h
    split at h
    · injection h with h; injection h with _ h; exact ⟨1, by rw [← h, List.drop_one]⟩
    · cases h
  · rename_i h
    split at h
    · cases h
    · injection h with h; exact ⟨0, by rw [← h]; rfl⟩
theorem fwd_bare : Fwd bare := fun l => by
  unfold bare
  cases l with
  | nil => exact ⟨0, rfl⟩
  | cons x r =>
    simp only
    split
    · rename_i h
      split at h
      · injection h with h; injection h with _ h; exact ⟨1, by rw [← h]; rfl⟩
      · cases h
    · rename_i h
      split at h
      · cases h
      · injection h with h; exact ⟨0, by rw [← h]; rfl⟩
theorem fwd_number : Fwd number := fun l => by
  unfold number
  cases l with
  | nil => exact ⟨0, rfl⟩
  | cons x r =>
    simp only
    split
    · rename_i h
      split at h
      · injection h with h; injection h with _ h; exact ⟨1, by rw [← h]; rfl⟩
      · cases h
    · rename_i h
      split at h
      · cases h
      · injection h with h; exact ⟨0, by rw [← h]; rfl⟩
/-- it comes somewhere -/
theorem Fwd.third {α : Type} {p : Rd α} (hp : Fwd p) (m : List Tk) (j : Nat) : ∃ k, j ≤ k ∧ ((∃ a, p (m.drop j) = .ok (a, m.drop k)) ∨ p (m.drop j) = .error (m.drop k)) := by
  have h := hp (m.drop j)
  cases hq : p (m.drop j) with
  | error r =>
    rw [hq] at h
    obtain ⟨k, rfl⟩ := h
    exact ⟨j + k, by omega, .inr (by rw [List.drop_drop])⟩
  | ok q =>
    obtain ⟨a, r⟩ := q
    rw [hq] at h
    obtain ⟨k, rfl⟩ := h
    exact ⟨j + k, by omega, .inl ⟨a, by rw [List.drop_drop]⟩⟩
theorem Fwd.third0 {α : Type} {p : Rd α} (hp : Fwd p) (m : List Tk) : ∃ k, 0 ≤ k ∧ ((∃ a, p m = .ok (a, m.drop k)) ∨ p m = .error (m.drop k)) := by
  have := hp.third m 0
  rwa [List.drop_zero] at this
/-- a reader that takes one token or none, by its head -/
theorem loc_one {α : Type} {p : Rd α} (hp : Fwd p) (h : ∀ x y l m, x.k = y.k → x.t = y.t → x.n = y.n → (∃ a, p (x :: l) = .ok (a, l) ∧ p (y :: m) = .ok (a, m)) ∨ (p (x :: l) = .error (x :: l) ∧ p (y :: m) = .error (y :: m))) : Loc p := fun i l m ha => by
  rcases Nat.eq_zero_or_pos i with rfl | hi
  · exact .inr (.inr (hp.third0 m))
  · obtain ⟨x, y, l', m', rfl, rfl, h1, h2, h3⟩ := ha.head hi
    rcases h x y l' m' h1 h2 h3 with ⟨a, e1, e2⟩ | ⟨e1, e2⟩
    · by_cases h1i : 1 < i
      · exact .inl ⟨a, 1, by omega, e1, e2, h1i⟩
      · exact .inr (.inr ⟨1, by omega, .inl ⟨a, e2⟩⟩)
    · exact .inr (.inl ⟨0, hi, e1, e2⟩)
theorem loc_want (text : Str) : Loc (want text) := loc_one (fwd_want text) fun x y l m h1 h2 h3 => by
  simp only [want, isT, h1, h2]
  by_cases h : (decide (y.k ≠ 2) && decide (y.t = text)) = true
  · exact .inl ⟨(), if_pos h, if_pos h⟩
  · exact .inr ⟨if_neg h, if_neg h⟩
theorem loc_bare : Loc bare := loc_one fwd_bare fun x y l m h1 h2 h3 => by
  simp only [bare, isNm, h1, h2]
  by_cases h : (decide (y.k = 1) && !words8.contains y.t) = true
  · exact .inl ⟨_, if_pos h, if_pos h⟩
  · exact .inr ⟨if_neg h, if_neg h⟩
theorem loc_number : Loc number := loc_one fwd_number fun x y l m h1 h2 h3 => by
  simp only [number, isNo, h1, h3]
  by_cases h : decide (y.k = 2) = true
  · exact .inl ⟨_, if_pos h, if_pos h⟩
  · exact .inr ⟨if_neg h, if_neg h⟩
theorem loc_pure {α : Type} (a : α) : Loc (Rd.pure a) := fun i l m ha => by
  rcases Nat.eq_zero_or_pos i with rfl | hi
  · exact .inr (.inr ⟨0, Nat.le_refl _, .inl ⟨a, rfl⟩⟩)
  · exact .inl ⟨a, 0, Nat.zero_le _, rfl, rfl, hi⟩
theorem Loc.bind {α β : Type} {p : Rd α} {f : α → Rd β} (hp : Loc p) (hf : ∀ a, Loc (f a)) (hw : ∀ a, Fwd (f a)) : Loc (p.bind f) := fun i l m ha => by
  rcases hp i l m ha with ⟨a, k, hk, e1, e2, hki⟩ | ⟨k, hk, e1, e2⟩ | ⟨k, hk, h⟩
  · have b1 : p.bind f l = f a (l.drop k) := by unfold Rd.bind; rw [e1]
    have b2 : p.bind f m = f a (m.drop k) := by unfold Rd.bind; rw [e2]
    rw [b1, b2]
    rcases hf a (i - k) _ _ (ha.drop hk) with ⟨b, j, hj, e3, e4, hji⟩ | ⟨j, hj, e3, e4⟩ | ⟨j, hj, h⟩
    · exact .inl ⟨b, k + j, by omega, by rw [e3, List.drop_drop], by rw [e4, List.drop_drop], by omega⟩
    · exact .inr (.inl ⟨k + j, by omega, by rw [e3, List.drop_drop], by rw [e4, List.drop_drop]⟩)
    · refine .inr (.inr ⟨k + j, by omega, ?_⟩)
      rcases h with ⟨b, e⟩ | e
      · exact .inl ⟨b, by rw [e, List.drop_drop]⟩
      · exact .inr (by rw [e, List.drop_drop])
  · exact .inr (.inl ⟨k, hk, by unfold Rd.bind; rw [e1], by unfold Rd.bind; rw [e2]⟩)
  · rcases h with ⟨a, e⟩ | e
    · have b2 : p.bind f m = f a (m.drop k) := by unfold Rd.bind; rw [e]
      rw [b2]
      obtain ⟨j, hj, h⟩ := (hw a).third m k
      exact .inr (.inr ⟨j, by omega, h⟩)
    · exact .inr (.inr ⟨k, hk, .inr (by unfold Rd.bind; rw [e])⟩)
theorem loc_if {α : Type} {c : List Tk → Bool} {p q : Rd α} (hc : ∀ i l m, Agree i l m → 0 < i → c l = c m) (hp : Loc p) (hq : Loc q) (fp : Fwd p) (fq : Fwd q) : Loc (fun l => if c l = true then p l else q l) := fun i l m ha => by
  rcases Nat.eq_zero_or_pos i with rfl | hi
  · refine .inr (.inr ?_)
    simp only
    split
    · exact fp.third0 m
    · exact fq.third0 m
  · simp only [hc i l m ha hi]
    split
    · exact hp i l m ha
    · exact hq i l m ha
theorem fwd_if {α : Type} {c : List Tk → Bool} {p q : Rd α} (fp : Fwd p) (fq : Fwd q) : Fwd (fun l => if c l = true then p l else q l) := fun l => by
  simp only
  by_cases h : c l = true
  · simp only [h, if_true]; exact fp l
  · simp only [h, if_false]; exact fq l

/-! ### Items -/
/-- a reader that takes a token if it reads -/
def Eats {α : Type} (p : Rd α) : Prop := ∀ l a r, p l = .ok (a, r) → r.length < l.length
theorem Eats.bind {α β : Type} {p : Rd α} {f : α → Rd β} (hp : Eats p) (hf : ∀ a, Fwd (f a)) : Eats (p.bind f) := fun l b r h => by
  unfold Rd.bind at h
  cases hpl : p l with
  | error e => rw [hpl] at h; cases h
  | ok q =>
    obtain ⟨a, r1⟩ := q
    rw [hpl] at h
    simp only at h
    have h1 := hp l a r1 hpl
    have h2 := hf a r1
    rw [h] at h2
    obtain ⟨k, rfl⟩ := h2
    rw [List.length_drop]
    omega
theorem eats_want (text : Str) : Eats (want text) := fun l a r h => by
  unfold want at h
  split at h
  · rename_i ht
    injection h with h; injection h with _ h
    subst h
    cases l with
    | nil => cases ht
    | cons x l => simp
  · cases h
theorem eats_bare : Eats bare := fun l a r h => by
  unfold bare at h
  cases l with
  | nil => cases h
  | cons x l =>
    simp only at h
    split at h
    · injection h with h; injection h with _ h; subst h; simp
    · cases h
theorem eats_number : Eats number := fun l a r h => by
  unfold number at h
  cases l with
  | nil => cases h
  | cons x l =>
    simp only at h
    split at h
    · injection h with h; injection h with _ h; subst h; simp
    · cases h
theorem eats_if {α : Type} {c : List Tk → Bool} {p q : Rd α} (hp : Eats p) (hq : Eats q) : Eats (fun l => if c l = true then p l else q l) := fun l a r h => by
  simp only at h
  split at h
  · exact hp l a r h
  · exact hq l a r h
theorem fwd_many {α : Type} {more : List Tk → Bool} {item : Rd α} (hi : Fwd item) : ∀ n, Fwd (many more item n)
  | 0 => fwd_pure _
  | n + 1 => fwd_if (hi.bind fun a => (fwd_many hi n).bind fun xs => fwd_pure _) (fwd_pure _)
theorem many_fuel {α : Type} {more : List Tk → Bool} {item : Rd α} (he : Eats item) (h0 : more [] = false) : ∀ (n m : Nat) (l : List Tk), l.length ≤ n → l.length ≤ m → many more item n l = many more item m l
  | 0, 0, l, _, _ => rfl
  | 0, m + 1, l, h, _ => by
    have : l = [] := List.eq_nil_of_length_eq_zero (by omega)
    subst this
    simp [many, h0, Rd.pure]
  | n + 1, 0, l, _, h => by
    have : l = [] := List.eq_nil_of_length_eq_zero (by omega)
    subst this
    simp [many, h0, Rd.pure]
  | n + 1, m + 1, l, h1, h2 => by
    simp only [many]
    split
    · unfold Rd.bind
      cases hi : item l with
      | error r => rfl
      | ok q =>
        obtain ⟨a, r⟩ := q
        simp only
        have := he l a r hi
        rw [many_fuel he h0 n m r (by omega) (by omega)]
    · rfl
theorem fwd_some {α : Type} {more : List Tk → Bool} {item : Rd α} (hi : Fwd item) : Fwd (some' more item) := fun l => fwd_many hi l.length l
theorem loc_many {α : Type} {more : List Tk → Bool} {item : Rd α} (hc : ∀ i l m, Agree i l m → 0 < i → more l = more m) (hi : Fwd item) (hl : Loc item) : ∀ n, Loc (many more item n)
  | 0 => loc_pure _
  | n + 1 => loc_if hc (hl.bind (fun a => (loc_many hc hi hl n).bind (fun xs => loc_pure _) (fun xs => fwd_pure _)) (fun a => (fwd_many hi n).bind fun xs => fwd_pure _)) (loc_pure _) (hi.bind fun a => (fwd_many hi n).bind fun xs => fwd_pure _) (fwd_pure _)
theorem loc_some {α : Type} {more : List Tk → Bool} {item : Rd α} (hc : ∀ i l m, Agree i l m → 0 < i → more l = more m) (h0 : more [] = false) (hi : Fwd item) (hl : Loc item) (he : Eats item) : Loc (some' more item) := fun i l m ha => by
  have e1 : some' more item l = many more item (l.length + m.length) l := many_fuel he h0 _ _ l (Nat.le_refl _) (by omega)
  have e2 : some' more item m = many more item (l.length + m.length) m := many_fuel he h0 _ _ m (Nat.le_refl _) (by omega)
  rw [e1, e2]
  exact loc_many hc hi hl _ i l m ha

/-! ### The readers of a grammar -/
theorem fwd_name (t : Str) : Fwd (nameP t) := (fwd_want t).bind fun _ => fwd_bare
theorem loc_name (t : Str) : Loc (nameP t) := (loc_want t).bind (fun _ => loc_bare) (fun _ => fwd_bare)
theorem eats_name (t : Str) : Eats (nameP t) := (eats_want t).bind fun _ => fwd_bare
theorem fwd_cost : Fwd costP := (fwd_want _).bind fun _ => fwd_number.bind fun _ => (fwd_want _).bind fun _ => fwd_pure _
theorem loc_cost : Loc costP := (loc_want _).bind (fun _ => loc_number.bind (fun _ => (loc_want _).bind (fun _ => loc_pure _) (fun _ => fwd_pure _)) (fun _ => (fwd_want _).bind fun _ => fwd_pure _)) (fun _ => fwd_number.bind fun _ => (fwd_want _).bind fun _ => fwd_pure _)
theorem fwd_category : Fwd category := (fwd_name _).bind fun _ => (fwd_want _).bind fun _ => fwd_pure _
theorem loc_category : Loc category := (loc_name _).bind (fun _ => (loc_want _).bind (fun _ => loc_pure _) (fun _ => fwd_pure _)) (fun _ => (fwd_want _).bind fun _ => fwd_pure _)
theorem eats_category : Eats category := (eats_name _).bind fun _ => (fwd_want _).bind fun _ => fwd_pure _
theorem fwd_part : Fwd partP := fwd_if ((fwd_name _).bind fun _ => fwd_pure _) (fwd_bare.bind fun _ => fwd_pure _)
theorem loc_part : Loc partP := loc_if (fun i l m h hi => isT_agree h hi _) ((loc_name _).bind (fun _ => loc_pure _) (fun _ => fwd_pure _)) (loc_bare.bind (fun _ => loc_pure _) (fun _ => fwd_pure _)) ((fwd_name _).bind fun _ => fwd_pure _) (fwd_bare.bind fun _ => fwd_pure _)
theorem eats_part : Eats partP := eats_if ((eats_name _).bind fun _ => fwd_pure _) (eats_bare.bind fun _ => fwd_pure _)
theorem fwd_give : Fwd giveP := fwd_if ((fwd_name _).bind fun _ => fwd_pure _) (fwd_number.bind fun _ => fwd_pure _)
theorem loc_give : Loc giveP := loc_if (fun i l m h hi => isT_agree h hi _) ((loc_name _).bind (fun _ => loc_pure _) (fun _ => fwd_pure _)) (loc_number.bind (fun _ => loc_pure _) (fun _ => fwd_pure _)) ((fwd_name _).bind fun _ => fwd_pure _) (fwd_number.bind fun _ => fwd_pure _)
theorem eats_give : Eats giveP := eats_if ((eats_name _).bind fun _ => fwd_pure _) (eats_number.bind fun _ => fwd_pure _)
theorem moreP_agree (i : Nat) (l m : List Tk) (h : Agree i l m) (hi : 0 < i) : moreP l = moreP m := by unfold moreP; rw [isNm_agree h hi, isT_agree h hi]
theorem moreG_agree (i : Nat) (l m : List Tk) (h : Agree i l m) (hi : 0 < i) : moreG l = moreG m := by unfold moreG; rw [isNo_agree h hi, isT_agree h hi]
theorem fwd_entry : Fwd entryP := (fwd_name _).bind fun _ => (fwd_name _).bind fun _ => (fwd_name _).bind fun _ => (fwd_some (fwd_name _)).bind fun _ => fwd_cost.bind fun _ => fwd_pure _
theorem loc_entry : Loc entryP :=
  (loc_name _).bind (fun _ => (loc_name _).bind (fun _ => (loc_name _).bind (fun _ => (loc_some (fun i l m h hi => isT_agree h hi _) rfl (fwd_name _) (loc_name _) (eats_name _)).bind (fun _ => loc_cost.bind (fun _ => loc_pure _) (fun _ => fwd_pure _)) (fun _ => fwd_cost.bind fun _ => fwd_pure _))
    (fun _ => (fwd_some (fwd_name _)).bind fun _ => fwd_cost.bind fun _ => fwd_pure _)) (fun _ => (fwd_name _).bind fun _ => (fwd_some (fwd_name _)).bind fun _ => fwd_cost.bind fun _ => fwd_pure _))
    (fun _ => (fwd_name _).bind fun _ => (fwd_name _).bind fun _ => (fwd_some (fwd_name _)).bind fun _ => fwd_cost.bind fun _ => fwd_pure _)
theorem eats_entry : Eats entryP := (eats_name _).bind fun _ => (fwd_name _).bind fun _ => (fwd_name _).bind fun _ => (fwd_some (fwd_name _)).bind fun _ => fwd_cost.bind fun _ => fwd_pure _

/-- moved on: the rest of a reader that only binds -/
theorem fwd_rule1 : Fwd ((some' moreG giveP).bind fun gs => costP.bind fun n => Rd.pure (gs, n)) := (fwd_some fwd_give).bind fun _ => fwd_cost.bind fun _ => fwd_pure _
theorem fwd_rule : Fwd ruleP := (fwd_name _).bind fun _ => (fwd_want _).bind fun _ => fwd_part.bind fun _ => (fwd_some fwd_part).bind fun _ => (fwd_want _).bind fun _ => fwd_give.bind fun _ => (fwd_some fwd_give).bind fun _ => fwd_cost.bind fun _ => fwd_pure _
theorem eats_rule : Eats ruleP := (eats_name _).bind fun _ => (fwd_want _).bind fun _ => fwd_part.bind fun _ => (fwd_some fwd_part).bind fun _ => (fwd_want _).bind fun _ => fwd_give.bind fun _ => (fwd_some fwd_give).bind fun _ => fwd_cost.bind fun _ => fwd_pure _
/-- both at once -/
def Good {α : Type} (p : Rd α) : Prop := Loc p ∧ Fwd p
theorem Good.bind {α β : Type} {p : Rd α} {f : α → Rd β} (hp : Good p) (hf : ∀ a, Good (f a)) : Good (p.bind f) := ⟨hp.1.bind (fun a => (hf a).1) (fun a => (hf a).2), hp.2.bind fun a => (hf a).2⟩
theorem good_pure {α : Type} (a : α) : Good (Rd.pure a) := ⟨loc_pure a, fwd_pure a⟩
theorem good_want (t : Str) : Good (want t) := ⟨loc_want t, fwd_want t⟩
theorem good_name (t : Str) : Good (nameP t) := ⟨loc_name t, fwd_name t⟩
theorem good_part : Good partP := ⟨loc_part, fwd_part⟩
theorem good_give : Good giveP := ⟨loc_give, fwd_give⟩
theorem good_cost : Good costP := ⟨loc_cost, fwd_cost⟩
theorem good_parts : Good (some' moreP partP) := ⟨loc_some moreP_agree rfl fwd_part loc_part eats_part, fwd_some fwd_part⟩
theorem good_gives : Good (some' moreG giveP) := ⟨loc_some moreG_agree rfl fwd_give loc_give eats_give, fwd_some fwd_give⟩
theorem good_rule : Good ruleP := (good_name _).bind fun _ => (good_want _).bind fun _ => good_part.bind fun _ => good_parts.bind fun _ => (good_want _).bind fun _ => good_give.bind fun _ => good_gives.bind fun _ => good_cost.bind fun _ => good_pure _
theorem good_entry : Good entryP := ⟨loc_entry, fwd_entry⟩
theorem good_some {α : Type} {item : Rd α} (t : Str) (hi : Good item) (he : Eats item) : Good (some' (isT t) item) := ⟨loc_some (fun i l m h hi => isT_agree h hi _) rfl hi.2 hi.1 he, fwd_some hi.2⟩
theorem good_head : Good headP := (good_name _).bind fun _ => (good_want _).bind fun _ => (good_some wCategory ⟨loc_category, fwd_category⟩ eats_category).bind fun _ => (good_name _).bind fun _ => (good_want _).bind fun _ => good_pure _
/-- all that is before the end -/
def bodyP : Rd Gram := headP.bind fun h => (some' (isT wWord) entryP).bind fun es => (some' (isT wRule) ruleP).bind fun rs => Rd.pure ⟨h.1, h.2.1, h.2.2, 0, es, rs⟩
theorem good_body : Good bodyP := good_head.bind fun _ => (good_some wWord good_entry eats_entry).bind fun _ => (good_some wRule good_rule eats_rule).bind fun _ => good_pure _
theorem gramP_eq (l : List Tk) : gramP l = match bodyP l with
    | .ok (g, []) => .ok (g, [])
    | .ok (_, x :: r) => .error (x :: r)
    | .error r => .error r := by
  unfold gramP bodyP Rd.bind
  cases headP l with
  | error r => rfl
  | ok q =>
    obtain ⟨h, r⟩ := q
    simp only
    cases some' (isT wWord) entryP r with
    | error r => rfl
    | ok q =>
      obtain ⟨es, r⟩ := q
      simp only
      cases some' (isT wRule) ruleP r with
      | error r => rfl
      | ok q =>
        obtain ⟨rs, r⟩ := q
        simp only [Rd.pure]
        cases r with
        | nil => rfl
        | cons x r => rfl
/-- A grammar that is read alike up to a place is wrong at that place or later. -/
theorem gram_later {l m : List Tk} {g : Gram} {i : Nat} (ha : Agree i l m) (hl : gramP l = .ok (g, [])) : (∃ g', gramP m = .ok (g', [])) ∨ ∃ k, i ≤ k ∧ gramP m = .error (m.drop k) := by
  rw [gramP_eq] at hl ⊢
  have hf := good_body.2 m
  rcases good_body.1 i l m ha with ⟨a, k, hk, e1, e2, hki⟩ | ⟨k, hk, e1, e2⟩ | ⟨k, hk, h⟩
  · rw [e1] at hl
    rw [e2]
    have hne : l.drop k = [] := by
      cases hd : l.drop k with
      | nil => rfl
      | cons x r => rw [hd] at hl; cases hl
    have := congrArg List.length hne
    rw [List.length_drop, List.length_nil] at this
    have := ha.1
    omega
  · rw [e1] at hl
    cases hl
  · rcases h with ⟨a, e⟩ | e
    · rw [e]
      cases hd : m.drop k with
      | nil => exact .inl ⟨a, rfl⟩
      | cons x r => exact .inr ⟨k, hk, by rw [hd]⟩
    · rw [e]; exact .inr ⟨k, hk, rfl⟩
theorem agree_same : ∀ {l m : List Tk}, sameL l m = true → Agree l.length l m
  | [], [], _ => ⟨Nat.le_refl _, Nat.le_refl _, fun j hj => absurd hj (Nat.not_lt_zero _)⟩
  | [], _ :: _, h => by cases h
  | _ :: _, [], h => by cases h
  | x :: l, y :: m, h => by
    simp only [sameL, same1, Bool.and_eq_true, decide_eq_true_eq, beq_iff_eq] at h
    obtain ⟨h1, h2, h3⟩ := agree_same h.2
    refine ⟨by simp, by simp; omega, fun j hj => ?_⟩
    rcases j with _ | j
    · exact ⟨x, y, rfl, rfl, h.1.1.1, h.1.1.2, h.1.2⟩
    · obtain ⟨u, v, e1, e2, e3⟩ := h3 j (by simpa using hj)
      exact ⟨u, v, by simpa using e1, by simpa using e2, e3⟩
theorem same_len {l m : List Tk} (h : sameL l m = true) : l.length = m.length := by
  apply Classical.byContradiction
  intro hn
  have := agree_same h
  have h2 : ∀ {l m : List Tk}, sameL l m = true → m.length ≤ l.length := by
    intro l
    induction l with
    | nil => intro m h; cases m with
      | nil => exact Nat.le_refl _
      | cons _ _ => cases h
    | cons x l ih => intro m h; cases m with
      | nil => exact Nat.zero_le _
      | cons y m =>
        simp only [sameL, Bool.and_eq_true] at h
        have := ih h.2
        simp; omega
  have := h2 h
  have := ‹Agree l.length l m›.2.1
  omega
/-- The same tokens give the same, or fail at the same token. -/
def Cong {α : Type} (p : Rd α) : Prop := ∀ l m, sameL l m = true → (∃ a k, p l = .ok (a, l.drop k) ∧ p m = .ok (a, m.drop k)) ∨ ∃ k, p l = .error (l.drop k) ∧ p m = .error (m.drop k)
theorem same_drop : ∀ (k : Nat) {l m : List Tk}, sameL l m = true → sameL (l.drop k) (m.drop k) = true
  | 0, l, m, h => h
  | k + 1, [], [], h => rfl
  | k + 1, [], _ :: _, h => by cases h
  | k + 1, _ :: _, [], h => by cases h
  | k + 1, x :: l, y :: m, h => by
    simp only [sameL, Bool.and_eq_true] at h
    exact same_drop k h.2
theorem same_heads {x y : Tk} {l m : List Tk} (h : sameL (x :: l) (y :: m) = true) : x.k = y.k ∧ x.t = y.t ∧ x.n = y.n ∧ sameL l m = true := by
  simp only [sameL, same1, Bool.and_eq_true, decide_eq_true_eq, beq_iff_eq] at h
  exact ⟨h.1.1.1, h.1.1.2, h.1.2, h.2⟩
theorem same_cases {l m : List Tk} (h : sameL l m = true) : (l = [] ∧ m = []) ∨ ∃ x y l' m', l = x :: l' ∧ m = y :: m' ∧ x.k = y.k ∧ x.t = y.t ∧ x.n = y.n ∧ sameL l' m' = true := by
  cases l with
  | nil => cases m with
    | nil => exact .inl ⟨rfl, rfl⟩
    | cons _ _ => cases h
  | cons x l => cases m with
    | nil => cases h
    | cons y m => exact .inr ⟨x, y, l, m, rfl, rfl, same_heads h⟩
theorem isT_same {l m : List Tk} (h : sameL l m = true) (t : Str) : isT t l = isT t m := by
  rcases same_cases h with ⟨rfl, rfl⟩ | ⟨x, y, l', m', rfl, rfl, h1, h2, h3, _⟩
  · rfl
  · simp only [isT, h1, h2]
theorem isNm_same {l m : List Tk} (h : sameL l m = true) : isNm l = isNm m := by
  rcases same_cases h with ⟨rfl, rfl⟩ | ⟨x, y, l', m', rfl, rfl, h1, h2, h3, _⟩
  · rfl
  · simp only [isNm, h1, h2]
theorem isNo_same {l m : List Tk} (h : sameL l m = true) : isNo l = isNo m := by
  rcases same_cases h with ⟨rfl, rfl⟩ | ⟨x, y, l', m', rfl, rfl, h1, h2, h3, _⟩
  · rfl
  · simp only [isNo, h1]
theorem cong_pure {α : Type} (a : α) : Cong (Rd.pure a) := fun l m h => .inl ⟨a, 0, rfl, rfl⟩
theorem Cong.bind {α β : Type} {p : Rd α} {f : α → Rd β} (hp : Cong p) (hf : ∀ a, Cong (f a)) : Cong (p.bind f) := fun l m h => by
  unfold Rd.bind
  rcases hp l m h with ⟨a, k, e1, e2⟩ | ⟨k, e1, e2⟩
  · rw [e1, e2]
    simp only
    rcases hf a _ _ (same_drop k h) with ⟨b, j, e3, e4⟩ | ⟨j, e3, e4⟩
    · exact .inl ⟨b, k + j, by rw [e3, List.drop_drop], by rw [e4, List.drop_drop]⟩
    · exact .inr ⟨k + j, by rw [e3, List.drop_drop], by rw [e4, List.drop_drop]⟩
  · rw [e1, e2]
    exact .inr ⟨k, rfl, rfl⟩
theorem cong_if {α : Type} {c : List Tk → Bool} {p q : Rd α} (hc : ∀ l m, sameL l m = true → c l = c m) (hp : Cong p) (hq : Cong q) : Cong (fun l => if c l = true then p l else q l) := fun l m h => by
  simp only [hc l m h]
  by_cases hm : c m = true
  · simp only [hm, if_true]; exact hp l m h
  · simp only [hm, if_false]; exact hq l m h
theorem cong_want (t : Str) : Cong (want t) := fun l m h => by
  unfold want
  rw [isT_same h]
  by_cases hm : isT t m = true
  · rw [if_pos hm, if_pos hm]; exact .inl ⟨(), 1, by rw [List.drop_one], by rw [List.drop_one]⟩
  · rw [if_neg hm, if_neg hm]; exact .inr ⟨0, rfl, rfl⟩
theorem cong_bare : Cong bare := fun l m h => by
  have hn := isNm_same h
  rcases same_cases h with ⟨rfl, rfl⟩ | ⟨x, y, l', m', rfl, rfl, h1, h2, h3, _⟩
  · exact .inr ⟨0, rfl, rfl⟩
  · unfold bare
    simp only [hn, h2]
    by_cases hm : isNm (y :: m') = true
    · simp only [hm, if_true]; exact .inl ⟨_, 1, rfl, rfl⟩
    · simp only [hm, if_false]; exact .inr ⟨0, rfl, rfl⟩
theorem cong_number : Cong number := fun l m h => by
  have hn := isNo_same h
  rcases same_cases h with ⟨rfl, rfl⟩ | ⟨x, y, l', m', rfl, rfl, h1, h2, h3, _⟩
  · exact .inr ⟨0, rfl, rfl⟩
  · unfold number
    simp only [hn, h3]
    by_cases hm : isNo (y :: m') = true
    · simp only [hm, if_true]; exact .inl ⟨_, 1, rfl, rfl⟩
    · simp only [hm, if_false]; exact .inr ⟨0, rfl, rfl⟩
theorem cong_many {α : Type} {more : List Tk → Bool} {item : Rd α} (hc : ∀ l m, sameL l m = true → more l = more m) (hi : Cong item) : ∀ n, Cong (many more item n)
  | 0 => cong_pure _
  | n + 1 => cong_if hc (hi.bind fun a => (cong_many hc hi n).bind fun _ => cong_pure _) (cong_pure _)
theorem cong_some {α : Type} {more : List Tk → Bool} {item : Rd α} (hc : ∀ l m, sameL l m = true → more l = more m) (hi : Cong item) : Cong (some' more item) := fun l m h => by
  have := cong_many hc hi l.length l m h
  unfold some'
  rw [← same_len h]
  exact this
theorem cong_name (t : Str) : Cong (nameP t) := (cong_want t).bind fun _ => cong_bare
theorem cong_cost : Cong costP := (cong_want _).bind fun _ => cong_number.bind fun _ => (cong_want _).bind fun _ => cong_pure _
theorem cong_category : Cong category := (cong_name _).bind fun _ => (cong_want _).bind fun _ => cong_pure _
theorem cong_entry : Cong entryP := (cong_name _).bind fun _ => (cong_name _).bind fun _ => (cong_name _).bind fun _ => (cong_some (fun _ _ h => isT_same h _) (cong_name _)).bind fun _ => cong_cost.bind fun _ => cong_pure _
theorem cong_part : Cong partP := cong_if (fun _ _ h => isT_same h _) ((cong_name _).bind fun _ => cong_pure _) (cong_bare.bind fun _ => cong_pure _)
theorem cong_give : Cong giveP := cong_if (fun _ _ h => isT_same h _) ((cong_name _).bind fun _ => cong_pure _) (cong_number.bind fun _ => cong_pure _)
theorem cong_rule : Cong ruleP := (cong_name _).bind fun _ => (cong_want _).bind fun _ => cong_part.bind fun _ => (cong_some (fun _ _ h => by unfold moreP; rw [isNm_same h, isT_same h]) cong_part).bind fun _ => (cong_want _).bind fun _ => cong_give.bind fun _ =>
  (cong_some (fun _ _ h => by unfold moreG; rw [isNo_same h, isT_same h]) cong_give).bind fun _ => cong_cost.bind fun _ => cong_pure _
theorem cong_head : Cong headP := (cong_name _).bind fun _ => (cong_want _).bind fun _ => (cong_some (fun _ _ h => isT_same h _) cong_category).bind fun _ => (cong_name _).bind fun _ => (cong_want _).bind fun _ => cong_pure _
theorem cong_end : Cong endP := fun l m h => by
  rcases same_cases h with ⟨rfl, rfl⟩ | ⟨x, y, l', m', rfl, rfl, _⟩
  · exact .inl ⟨(), 0, rfl, rfl⟩
  · exact .inr ⟨0, rfl, rfl⟩
theorem gram_same : Cong gramP := cong_head.bind fun _ => (cong_some (fun _ _ h => isT_same h _) cong_entry).bind fun _ => (cong_some (fun _ _ h => isT_same h _) cong_rule).bind fun _ => cong_end.bind fun _ => cong_pure _
theorem gram_rest {l r : List Tk} {g : Gram} (h : gramP l = .ok (g, r)) : r = [] := by
  rw [gramP_eq] at h
  split at h
  · injection h with h; injection h with _ h; exact h.symm
  · cases h
  · cases h
end Go.V.Gr
