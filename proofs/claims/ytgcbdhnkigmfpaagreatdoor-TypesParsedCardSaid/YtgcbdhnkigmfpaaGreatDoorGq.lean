/-
  Grammar: the tokens of a grammar; what is read is printed, what is printed is read; with no program in sight.
-/
import Derived.Test.YtgcbdhnkigmfpaaGreatDoorGp
namespace Go.V.Gr
open Go.Proofs Go.RowKit Go.V.Lx
set_option linter.unusedSimpArgs false
set_option linter.unusedVariables false

def nT (s : Str) : Tk := ⟨1, s, 0, 0⟩
def sT (s : Str) : Tk := ⟨3, s, 0, 0⟩
def dT (n : Int) : Tk := ⟨2, [], n, 0⟩
def tokCat (s : Str) : List Tk := [nT wCategory, nT s, sT [59]]
def tokComma (s : Str) : List Tk := [sT [44], nT s]
def tokGives : List Str → List Tk
  | [] => []
  | s :: r => nT s :: r.flatMap tokComma
def tokEnd (n : Int) : List Tk := [nT wCost, dT n, sT [59]]
def tokEntry (x : Entry) : List Tk := [nT wWord, nT x.text, nT wIs, nT x.cat, nT wGives] ++ (tokGives x.gives ++ tokEnd x.cost)
def tokPart (p : Part) : List Tk := if p.text = [] then [nT p.cat] else [sT [58], nT p.text]
def tokGive (y : Give) : List Tk := if y.text = [] then [dT y.part] else [sT [58], nT y.text]
def tokRule (x : Rule) : List Tk := [nT wRule, nT x.cat, sT [61]] ++ (x.parts.flatMap tokPart ++ (nT wGives :: (x.gives.flatMap tokGive ++ tokEnd x.cost)))
def tokHead (n : Str) (cs : List Str) (s : Str) : List Tk := [nT wGrammar, nT n, sT [59]] ++ (cs.flatMap tokCat ++ [nT wStart, nT s, sT [59]])
def tokensOf (g : Gram) : List Tk := tokHead g.name g.cats g.start ++ (g.entries.flatMap tokEntry ++ g.rules.flatMap tokRule)

/-- free names -/
def fr (s : Str) : Bool := nameB s && !words8.contains s
def wfEntry (x : Entry) : Prop := fr x.text = true ∧ fr x.cat = true ∧ x.no = 0 ∧ x.gives ≠ [] ∧ x.gives.all fr = true
def wfPart (p : Part) : Prop := p.no = 0 ∧ ((p.text = [] ∧ fr p.cat = true) ∨ (p.cat = [] ∧ fr p.text = true))
def wfGive (y : Give) : Prop := y.text = [] ∨ (y.part = 0 ∧ fr y.text = true)
def wfRule (x : Rule) : Prop := fr x.cat = true ∧ x.no = 0 ∧ x.parts ≠ [] ∧ (∀ p ∈ x.parts, wfPart p) ∧ x.gives ≠ [] ∧ ∀ y ∈ x.gives, wfGive y
def wf (g : Gram) : Prop := fr g.name = true ∧ g.cats.all fr = true ∧ fr g.start = true ∧ g.no = 0 ∧ (∀ x ∈ g.entries, wfEntry x) ∧ ∀ x ∈ g.rules, wfRule x

theorem bind_ok {α β : Type} {p : Rd α} {f : α → Rd β} {l : List Tk} {b : β} {r : List Tk} (h : p.bind f l = .ok (b, r)) : ∃ a r1, p l = .ok (a, r1) ∧ f a r1 = .ok (b, r) := by
  unfold Rd.bind at h
  cases hp : p l with
  | error e => rw [hp] at h; cases h
  | ok q =>
    obtain ⟨a, r1⟩ := q
    rw [hp] at h
    exact ⟨a, r1, rfl, h⟩
theorem bind_of {α β : Type} {p : Rd α} {f : α → Rd β} {l : List Tk} {a : α} {r : List Tk} (h : p l = .ok (a, r)) : p.bind f l = f a r := by
  unfold Rd.bind; rw [h]
theorem pure_ok {α : Type} {a b : α} {l r : List Tk} (h : Rd.pure a l = .ok (b, r)) : b = a ∧ r = l := by
  unfold Rd.pure at h; injection h with h; injection h with h1 h2; exact ⟨h1.symm, h2.symm⟩

/-! ### What is read -/
/-- u is, apart from places, v; and was read off the front -/
def Took (l r : List Tk) (v : List Tk) : Prop := ∃ u, l = u ++ r ∧ sameL u v = true
theorem same_app : ∀ {a b c d : List Tk}, sameL a b = true → sameL c d = true → sameL (a ++ c) (b ++ d) = true
  | [], [], c, d, _, h => h
  | [], _ :: _, _, _, h, _ => by cases h
  | _ :: _, [], _, _, h, _ => by cases h
  | x :: a, y :: b, c, d, h, k => by
    simp only [sameL, Bool.and_eq_true, List.cons_append] at h ⊢
    exact ⟨h.1, same_app h.2 k⟩
theorem Took.refl (l : List Tk) : Took l l [] := ⟨[], rfl, rfl⟩
theorem Took.trans {l m r v w : List Tk} (h : Took l m v) (k : Took m r w) : Took l r (v ++ w) := by
  obtain ⟨u, rfl, h2⟩ := h
  obtain ⟨u', rfl, k2⟩ := k
  exact ⟨u ++ u', by rw [List.append_assoc], same_app h2 k2⟩
def Vd (l : List Tk) : Prop := l.all validB = true
theorem Took.vd {l r v : List Tk} (h : Took l r v) (hv : Vd l) : Vd r := by
  obtain ⟨u, rfl, _⟩ := h
  unfold Vd at hv ⊢
  rw [List.all_append, Bool.and_eq_true] at hv
  exact hv.2
theorem took_one {x y : Tk} {l : List Tk} (h : same1 x y = true) : Took (x :: l) l [y] := ⟨[x], rfl, by simp [sameL, h]⟩
theorem valid_cons {x : Tk} {l : List Tk} (h : Vd (x :: l)) : validB x = true := by
  unfold Vd at h; rw [List.all_cons, Bool.and_eq_true] at h; exact h.1
/-- a word of the form -/
theorem want_name {t : Str} {l r : List Tk} {a : Unit} (hv : Vd l) (ht : nameB t = true) (h : want t l = .ok (a, r)) : Took l r [nT t] := by
  unfold want at h
  split at h
  · rename_i hi
    injection h with h; injection h with _ h; subst h
    cases l with
    | nil => cases hi
    | cons x l =>
      simp only [isT, Bool.and_eq_true, decide_eq_true_eq] at hi
      have hx := valid_cons hv
      refine took_one ?_
      obtain ⟨k, t', n, p⟩ := x
      obtain ⟨h1, rfl⟩ := hi
      simp only at h1 hx
      unfold validB at hx
      simp only at hx
      split at hx
      · rename_i hk
        simp only [Bool.and_eq_true, decide_eq_true_eq] at hx
        simp [same1, nT, hk, hx.2]
      · split at hx
        · simp only [Bool.and_eq_true] at hx
          exfalso
          cases t' with
          | nil => cases ht
          | cons c r =>
            cases r with
            | nil =>
              have h3 := hx.1
              simp only [oneSign, decide_eq_true_eq] at h3
              simp only [nameB, Bool.and_eq_true] at ht
              have := cls_of_lt ht.1.2
              omega
            | cons d r => cases hx.1
        · cases hx
  · cases h
theorem want_sign {t : Str} {l r : List Tk} {a : Unit} (hv : Vd l) (ht : nameB t = false) (h : want t l = .ok (a, r)) : Took l r [sT t] := by
  unfold want at h
  split at h
  · rename_i hi
    injection h with h; injection h with _ h; subst h
    cases l with
    | nil => cases hi
    | cons x l =>
      simp only [isT, Bool.and_eq_true, decide_eq_true_eq] at hi
      have hx := valid_cons hv
      refine took_one ?_
      obtain ⟨k, t', n, p⟩ := x
      obtain ⟨h1, rfl⟩ := hi
      simp only at h1 hx
      unfold validB at hx
      simp only at hx
      split at hx
      · rw [ht] at hx; cases hx
      · split at hx
        · rename_i hk
          simp only [Bool.and_eq_true, decide_eq_true_eq] at hx
          simp [same1, sT, hk, hx.2]
        · cases hx
  · cases h
theorem bare_ok {l r : List Tk} {s : Str} (hv : Vd l) (h : bare l = .ok (s, r)) : Took l r [nT s] ∧ fr s = true := by
  unfold bare at h
  cases l with
  | nil => cases h
  | cons x l =>
    simp only at h
    split at h
    · rename_i hi
      injection h with h; injection h with h1 h2; subst h1; subst h2
      simp only [isNm, Bool.and_eq_true, decide_eq_true_eq] at hi
      have hx := valid_cons hv
      unfold validB at hx
      rw [if_pos hi.1, Bool.and_eq_true, decide_eq_true_eq] at hx
      refine ⟨took_one ?_, ?_⟩
      · simp [same1, nT, hi.1, hx.2]
      · unfold fr; rw [hx.1, hi.2]; rfl
    · cases h
theorem number_ok {l r : List Tk} {n : Int} (hv : Vd l) (h : number l = .ok (n, r)) : Took l r [dT n] := by
  unfold number at h
  cases l with
  | nil => cases h
  | cons x l =>
    simp only at h
    split at h
    · rename_i hi
      injection h with h; injection h with h1 h2; subst h1; subst h2
      simp only [isNo, decide_eq_true_eq] at hi
      have hx := valid_cons hv
      unfold validB at hx
      rw [if_neg (by omega), if_pos hi, Bool.and_eq_true, Bool.and_eq_true, decide_eq_true_eq] at hx
      exact took_one (by simp [same1, dT, hi, hx.1.1])
    · cases h
theorem name_ok {t : Str} {l r : List Tk} {s : Str} (hv : Vd l) (ht : nameB t = true) (h : nameP t l = .ok (s, r)) : Took l r [nT t, nT s] ∧ fr s = true := by
  obtain ⟨_, r1, h1, h2⟩ := bind_ok h
  have k1 := want_name hv ht h1
  obtain ⟨k2, k3⟩ := bare_ok (k1.vd hv) h2
  exact ⟨k1.trans k2, k3⟩
theorem nameS_ok {t : Str} {l r : List Tk} {s : Str} (hv : Vd l) (ht : nameB t = false) (h : nameP t l = .ok (s, r)) : Took l r [sT t, nT s] ∧ fr s = true := by
  obtain ⟨_, r1, h1, h2⟩ := bind_ok h
  have k1 := want_sign hv ht h1
  obtain ⟨k2, k3⟩ := bare_ok (k1.vd hv) h2
  exact ⟨k1.trans k2, k3⟩
theorem cost_ok {l r : List Tk} {n : Int} (hv : Vd l) (h : costP l = .ok (n, r)) : Took l r (tokEnd n) := by
  obtain ⟨_, r1, h1, h⟩ := bind_ok h
  obtain ⟨m, r2, h2, h⟩ := bind_ok h
  obtain ⟨_, r3, h3, h⟩ := bind_ok h
  obtain ⟨rfl, rfl⟩ := pure_ok h
  have k1 := want_name hv (by decide +kernel) h1
  have k2 := number_ok (k1.vd hv) h2
  have k3 := want_sign (k2.vd (k1.vd hv)) (by decide +kernel) h3
  exact k1.trans (k2.trans k3)
theorem many_ok {α : Type} {more : List Tk → Bool} {item : Rd α} {f : α → List Tk} {w : α → Prop} (hi : ∀ l a r, Vd l → item l = .ok (a, r) → Took l r (f a) ∧ w a) : ∀ (n : Nat) (l : List Tk) (xs : List α) (r : List Tk), Vd l → many more item n l = .ok (xs, r) → Took l r (xs.flatMap f) ∧ ∀ x ∈ xs, w x
  | 0, l, xs, r, hv, h => by
    obtain ⟨rfl, rfl⟩ := pure_ok h
    exact ⟨.refl _, fun x hx => by cases hx⟩
  | n + 1, l, xs, r, hv, h => by
    simp only [many] at h
    split at h
    · obtain ⟨a, r1, h1, h⟩ := bind_ok h
      obtain ⟨ys, r2, h2, h⟩ := bind_ok h
      obtain ⟨rfl, rfl⟩ := pure_ok h
      obtain ⟨k1, w1⟩ := hi l a r1 hv h1
      obtain ⟨k2, w2⟩ := many_ok hi n r1 ys r (k1.vd hv) h2
      refine ⟨by rw [List.flatMap_cons]; exact k1.trans k2, fun x hx => ?_⟩
      rcases List.mem_cons.1 hx with rfl | hx
      · exact w1
      · exact w2 x hx
    · injection h with h; injection h with h1 h2
      subst h1; subst h2
      exact ⟨.refl _, fun x hx => by cases hx⟩
theorem fr_ne {s : Str} (h : fr s = true) : s ≠ [] := by
  intro e; subst e; cases h
theorem category_ok {l r : List Tk} {s : Str} (hv : Vd l) (h : category l = .ok (s, r)) : Took l r (tokCat s) ∧ fr s = true := by
  obtain ⟨t, r1, h1, h⟩ := bind_ok h
  obtain ⟨_, r2, h2, h⟩ := bind_ok h
  obtain ⟨rfl, rfl⟩ := pure_ok h
  obtain ⟨k1, w1⟩ := name_ok hv (by decide +kernel) h1
  exact ⟨k1.trans (want_sign (k1.vd hv) (by decide +kernel) h2), w1⟩
theorem part_ok {l r : List Tk} {p : Part} (hv : Vd l) (h : partP l = .ok (p, r)) : Took l r (tokPart p) ∧ wfPart p := by
  unfold partP at h
  split at h
  · obtain ⟨s, r1, h1, h⟩ := bind_ok h
    obtain ⟨rfl, rfl⟩ := pure_ok h
    obtain ⟨k1, w1⟩ := nameS_ok hv (by decide +kernel) h1
    refine ⟨?_, rfl, .inr ⟨rfl, w1⟩⟩
    unfold tokPart
    rw [if_neg (fr_ne w1)]
    exact k1
  · obtain ⟨s, r1, h1, h⟩ := bind_ok h
    obtain ⟨rfl, rfl⟩ := pure_ok h
    obtain ⟨k1, w1⟩ := bare_ok hv h1
    exact ⟨k1, rfl, .inl ⟨rfl, w1⟩⟩
theorem give_ok {l r : List Tk} {p : Give} (hv : Vd l) (h : giveP l = .ok (p, r)) : Took l r (tokGive p) ∧ wfGive p := by
  unfold giveP at h
  split at h
  · obtain ⟨s, r1, h1, h⟩ := bind_ok h
    obtain ⟨rfl, rfl⟩ := pure_ok h
    obtain ⟨k1, w1⟩ := nameS_ok hv (by decide +kernel) h1
    refine ⟨?_, .inr ⟨rfl, w1⟩⟩
    unfold tokGive
    rw [if_neg (fr_ne w1)]
    exact k1
  · obtain ⟨s, r1, h1, h⟩ := bind_ok h
    obtain ⟨rfl, rfl⟩ := pure_ok h
    exact ⟨number_ok hv h1, .inl rfl⟩
theorem entry_ok {l r : List Tk} {x : Entry} (hv : Vd l) (h : entryP l = .ok (x, r)) : Took l r (tokEntry x) ∧ wfEntry x := by
  obtain ⟨t, r1, h1, h⟩ := bind_ok h
  obtain ⟨c, r2, h2, h⟩ := bind_ok h
  obtain ⟨g, r3, h3, h⟩ := bind_ok h
  obtain ⟨gs, r4, h4, h⟩ := bind_ok h
  obtain ⟨n, r5, h5, h⟩ := bind_ok h
  obtain ⟨rfl, rfl⟩ := pure_ok h
  obtain ⟨k1, w1⟩ := name_ok hv (by decide +kernel) h1
  have v1 := k1.vd hv
  obtain ⟨k2, w2⟩ := name_ok v1 (by decide +kernel) h2
  have v2 := k2.vd v1
  obtain ⟨k3, w3⟩ := name_ok v2 (by decide +kernel) h3
  have v3 := k3.vd v2
  obtain ⟨k4, w4⟩ := many_ok (f := tokComma) (w := fun s => fr s = true) (fun l a r hv h => nameS_ok hv (by decide +kernel) h) _ r3 gs r4 v3 h4
  have v4 := k4.vd v3
  have k5 := cost_ok v4 h5
  refine ⟨?_, w1, w2, rfl, by simp, ?_⟩
  · have := k1.trans (k2.trans (k3.trans (k4.trans k5)))
    simpa [tokEntry, tokGives, List.append_assoc] using this
  · rw [List.all_cons, w3, List.all_eq_true.2 w4]; rfl
theorem rule_ok {l r : List Tk} {x : Rule} (hv : Vd l) (h : ruleP l = .ok (x, r)) : Took l r (tokRule x) ∧ wfRule x := by
  obtain ⟨c, r1, h1, h⟩ := bind_ok h
  obtain ⟨_, r2, h2, h⟩ := bind_ok h
  obtain ⟨p, r3, h3, h⟩ := bind_ok h
  obtain ⟨ps, r4, h4, h⟩ := bind_ok h
  obtain ⟨_, r5, h5, h⟩ := bind_ok h
  obtain ⟨g, r6, h6, h⟩ := bind_ok h
  obtain ⟨gs, r7, h7, h⟩ := bind_ok h
  obtain ⟨n, r8, h8, h⟩ := bind_ok h
  obtain ⟨rfl, rfl⟩ := pure_ok h
  obtain ⟨k1, w1⟩ := name_ok hv (by decide +kernel) h1
  have v1 := k1.vd hv
  have k2 := want_sign v1 (by decide +kernel) h2
  have v2 := k2.vd v1
  obtain ⟨k3, w3⟩ := part_ok v2 h3
  have v3 := k3.vd v2
  obtain ⟨k4, w4⟩ := many_ok (fun l a r hv h => part_ok hv h) _ r3 ps r4 v3 h4
  have v4 := k4.vd v3
  have k5 := want_name v4 (by decide +kernel) h5
  have v5 := k5.vd v4
  obtain ⟨k6, w6⟩ := give_ok v5 h6
  have v6 := k6.vd v5
  obtain ⟨k7, w7⟩ := many_ok (fun l a r hv h => give_ok hv h) _ r6 gs r7 v6 h7
  have v7 := k7.vd v6
  have k8 := cost_ok v7 h8
  refine ⟨?_, w1, rfl, by simp, fun q hq => ?_, by simp, fun q hq => ?_⟩
  · have := k1.trans (k2.trans (k3.trans (k4.trans (k5.trans (k6.trans (k7.trans k8))))))
    simpa [tokRule, List.append_assoc] using this
  · rcases List.mem_cons.1 hq with rfl | hq
    · exact w3
    · exact w4 q hq
  · rcases List.mem_cons.1 hq with rfl | hq
    · exact w6
    · exact w7 q hq
/-- what is read is well formed, and is printed as it was read -/
theorem gram_ok {l r : List Tk} {g : Gram} (hv : Vd l) (h : gramP l = .ok (g, r)) : sameL l (tokensOf g) = true ∧ wf g := by
  obtain ⟨hd, r1, h1, h⟩ := bind_ok h
  obtain ⟨es, r2, h2, h⟩ := bind_ok h
  obtain ⟨rs, r3, h3, h⟩ := bind_ok h
  obtain ⟨_, r4, h4, h⟩ := bind_ok h
  obtain ⟨rfl, rfl⟩ := pure_ok h
  obtain ⟨n, q1, g1, h1⟩ := bind_ok h1
  obtain ⟨_, q2, g2, h1⟩ := bind_ok h1
  obtain ⟨cs, q3, g3, h1⟩ := bind_ok h1
  obtain ⟨s, q4, g4, h1⟩ := bind_ok h1
  obtain ⟨_, q5, g5, h1⟩ := bind_ok h1
  obtain ⟨rfl, rfl⟩ := pure_ok h1
  obtain ⟨k1, w1⟩ := name_ok hv (by decide +kernel) g1
  have v1 := k1.vd hv
  have k2 := want_sign v1 (by decide +kernel) g2
  have v2 := k2.vd v1
  obtain ⟨k3, w3⟩ := many_ok (fun l a r hv h => category_ok hv h) _ q2 cs q3 v2 g3
  have v3 := k3.vd v2
  obtain ⟨k4, w4⟩ := name_ok v3 (by decide +kernel) g4
  have v4 := k4.vd v3
  have k5 := want_sign v4 (by decide +kernel) g5
  have v5 := k5.vd v4
  obtain ⟨k6, w6⟩ := many_ok (fun l a r hv h => entry_ok hv h) _ _ es r2 v5 h2
  have v6 := k6.vd v5
  obtain ⟨k7, w7⟩ := many_ok (fun l a r hv h => rule_ok hv h) _ _ rs r3 v6 h3
  have hend : r3 = [] := by
    unfold endP at h4
    split at h4
    · rfl
    · cases h4
  subst hend
  refine ⟨?_, w1, List.all_eq_true.2 w3, w4, rfl, w6, w7⟩
  obtain ⟨u, hu, hs⟩ := k1.trans (k2.trans (k3.trans (k4.trans (k5.trans (k6.trans k7)))))
  rw [List.append_nil] at hu
  rw [hu]
  simpa [tokensOf, tokHead, List.append_assoc] using hs
end Go.V.Gr
