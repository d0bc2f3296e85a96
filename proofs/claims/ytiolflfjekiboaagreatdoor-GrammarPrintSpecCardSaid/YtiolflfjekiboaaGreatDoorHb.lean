/-
  Grammar: the reference's reader on plain data, and that it reads as the program's does.
-/
import Derived.Test.YtiolflfjekiboaaGreatDoorGm
namespace Go.V.Gr
open Go.Proofs Go.RowKit Go.V.Lx
set_option linter.unusedSimpArgs false
set_option linter.unusedVariables false
set_option maxRecDepth 100000

/-- the reference's reader: tokens, the next one, the source's end, whether and where something was wrong -/
structure RP where
  l : List Tk
  n : Nat
  fin : Nat
  bad : Bool
  at_ : Int
def RP.d (p : RP) : D := .agg [.sl 4 (p.l.map Tok.d), .int .i64 (p.n : Int), .int .i64 (p.fin : Int), .bool p.bad, .int .i64 p.at_]
def failR (p : RP) : RP := if p.bad = true then p else { p with bad := true, at_ := match p.l[p.n]? with
  | some x => x.a
  | none => (p.fin : Int) }
def nextR (k : Int) (t : Str) (p : RP) : Bool := !p.bad && match p.l[p.n]? with
  | some x => decide (x.k = k) && decide (x.t = t)
  | none => false
def isNmR (p : RP) : Bool := !p.bad && match p.l[p.n]? with
  | some x => decide (x.k = 1) && !words8.contains x.t
  | none => false
def isNoR (p : RP) : Bool := !p.bad && match p.l[p.n]? with
  | some x => decide (x.k = 2)
  | none => false
def expR (k : Int) (t : Str) (p : RP) : RP := if nextR k t p = true then { p with n := p.n + 1 } else failR p
abbrev RS (α : Type) := RP → α × RP
def RS.pure {α : Type} (a : α) : RS α := fun p => (a, p)
def RS.bind {α β : Type} (r : RS α) (f : α → RS β) : RS β := fun p => f (r p).1 (r p).2
def wantR (k : Int) (t : Str) : RS Unit := fun p => ((), expR k t p)
def txtAt (p : RP) : Str := match p.l[p.n]? with
  | some x => x.t
  | none => []
def numAt (p : RP) : Int := match p.l[p.n]? with
  | some x => x.n
  | none => 0
def nameR : RS Str := fun p => if isNmR p = true then (txtAt p, { p with n := p.n + 1 }) else ([], failR p)
def numR : RS Int := fun p => if isNoR p = true then (numAt p, { p with n := p.n + 1 }) else (0, failR p)
def nameW (k : Int) (t : Str) : RS Str := (wantR k t).bind fun _ => nameR
def costR : RS Int := (wantR 1 wCost).bind fun _ => numR.bind fun n => (wantR 3 [59]).bind fun _ => RS.pure n
def meas (p : RP) : Nat := if p.bad = true then 0 else 1 + (p.l.length - p.n)
def loopR {α : Type} (more : RP → Bool) (item : RS α) : Nat → List α → RP → List α × RP
  | 0, xs, p => (xs, p)
  | k + 1, xs, p => if more p = true then loopR more item k (xs ++ [(item p).1]) (item p).2 else (xs, p)
def manyR {α : Type} (more : RP → Bool) (item : RS α) (xs : List α) : RS (List α) := fun p => loopR more item (meas p) xs p
def catR : RS Str := (nameW 1 wCategory).bind fun s => (wantR 3 [59]).bind fun _ => RS.pure s
def entryR : RS Entry := (nameW 1 wWord).bind fun t => (nameW 1 wIs).bind fun c => (nameW 1 wGives).bind fun g => (manyR (nextR 3 [44]) (nameW 3 [44]) [g]).bind fun gs => costR.bind fun n => RS.pure ⟨t, c, 0, gs, n⟩
def partR : RS Part := fun p => if nextR 3 [58] p = true then ((nameW 3 [58]).bind fun s => RS.pure ⟨[], 0, s⟩) p else (nameR.bind fun s => RS.pure ⟨s, 0, []⟩) p
def giveR : RS Give := fun p => if nextR 3 [58] p = true then ((nameW 3 [58]).bind fun s => RS.pure ⟨0, s⟩) p else (numR.bind fun n => RS.pure ⟨n, []⟩) p
def morePR (p : RP) : Bool := isNmR p || nextR 3 [58] p
def moreGR (p : RP) : Bool := isNoR p || nextR 3 [58] p
def ruleR : RS Rule := (nameW 1 wRule).bind fun c => (wantR 3 [61]).bind fun _ => partR.bind fun a => (manyR morePR partR [a]).bind fun ps => (wantR 1 wGives).bind fun _ => giveR.bind fun y => (manyR moreGR giveR [y]).bind fun gs => costR.bind fun n => RS.pure ⟨c, 0, ps, gs, n⟩
def endR (g : Gram) : RS Gram := fun p => (g, if p.n < p.l.length then failR p else p)
def readR : RS Gram := (nameW 1 wGrammar).bind fun n => (wantR 3 [59]).bind fun _ => (manyR (nextR 1 wCategory) catR []).bind fun cs => (nameW 1 wStart).bind fun s => (wantR 3 [59]).bind fun _ => (manyR (nextR 1 wWord) entryR []).bind fun es => (manyR (nextR 1 wRule) ruleR []).bind fun rs => endR ⟨n, cs, s, 0, es, rs⟩

/-! ### The same as the program's reader -/
def OkR (p : RP) : Prop := p.n ≤ p.l.length ∧ p.l.all validB = true
/-- nothing happens any more when something was wrong -/
def Keep {α : Type} (r : RS α) : Prop := ∀ p, p.bad = true → (r p).2 = p
/-- wrong, at a place -/
def BadAt (p q : RP) (r : List Tk) : Prop := q.bad = true ∧ q.l = p.l ∧ q.fin = p.fin ∧ q.n ≤ q.l.length ∧ q.at_ = placeT p.fin r
def Reads {α β : Type} (r : RS β) (rd : Rd α) (f : α → β) : Prop := ∀ p, OkR p → p.bad = false → match rd (p.l.drop p.n) with
  | .ok (a, l) => ∃ n', p.n ≤ n' ∧ n' ≤ p.l.length ∧ l = p.l.drop n' ∧ r p = (f a, { p with n := n' })
  | .error l => BadAt p (r p).2 l
theorem Keep.pure {α : Type} (a : α) : Keep (RS.pure a) := fun p h => rfl
theorem Keep.bind {α β : Type} {r : RS α} {f : α → RS β} (h : Keep r) (k : ∀ a, Keep (f a)) : Keep (r.bind f) := fun p hp => by
  show (f (r p).1 (r p).2).2 = p
  rw [h p hp]
  exact k _ p hp
theorem Reads.pure {α β : Type} (a : α) (b : β) (f : α → β) (h : b = f a) : Reads (RS.pure b) (Rd.pure a) f := fun p hp hb => ⟨p.n, Nat.le_refl _, hp.1, rfl, by rw [h]; rfl⟩
theorem Reads.bind {α β γ δ : Type} {r : RS β} {rd : Rd α} {f : α → β} {s : β → RS δ} {sd : α → Rd γ} {g : γ → δ} (h : Reads r rd f) (hs : ∀ b, Keep (s b)) (k : ∀ a, Reads (s (f a)) (sd a) g) : Reads (r.bind s) (rd.bind sd) g := fun p hp hb => by
  have h1 := h p hp hb
  unfold Rd.bind
  cases hr : rd (p.l.drop p.n) with
  | error l =>
    rw [hr] at h1
    simp only at h1 ⊢
    show BadAt p (s (r p).1 (r p).2).2 l
    rw [hs _ _ h1.1]
    exact h1
  | ok q =>
    obtain ⟨a, l⟩ := q
    rw [hr] at h1
    obtain ⟨n', k1, k2, rfl, k4⟩ := h1
    have h2 := k a { p with n := n' } ⟨k2, hp.2⟩ hb
    simp only at h2 ⊢
    have e : (r.bind s) p = s (f a) { p with n := n' } := by show s (r p).1 (r p).2 = _; rw [k4]
    rw [e]
    cases hq : sd a (p.l.drop n') with
    | error l =>
      rw [hq] at h2
      exact h2
    | ok q =>
      obtain ⟨c, l⟩ := q
      rw [hq] at h2
      obtain ⟨m, j1, j2, j3, j4⟩ := h2
      exact ⟨m, Nat.le_trans k1 j1, j2, j3, j4⟩
theorem keep_fail (p : RP) (h : p.bad = true) : failR p = p := by unfold failR; rw [if_pos h]
theorem next_bad {k : Int} {t : Str} {p : RP} (h : p.bad = true) : nextR k t p = false := by unfold nextR; rw [h]; rfl
theorem keep_want (k : Int) (t : Str) : Keep (wantR k t) := fun p h => by
  show expR k t p = p
  unfold expR
  rw [next_bad h, if_neg (by decide), keep_fail p h]
theorem keep_name : Keep nameR := fun p h => by
  have : isNmR p = false := by unfold isNmR; rw [h]; rfl
  unfold nameR
  rw [this, if_neg (by decide)]
  exact keep_fail p h
theorem keep_num : Keep numR := fun p h => by
  have : isNoR p = false := by unfold isNoR; rw [h]; rfl
  unfold numR
  rw [this, if_neg (by decide)]
  exact keep_fail p h
theorem drop_cons {l : List Tk} {n : Nat} {x : Tk} (h : l[n]? = some x) : l.drop n = x :: l.drop (n + 1) := by
  have hi := (List.getElem?_eq_some_iff.1 h).1
  rw [List.drop_eq_getElem_cons hi]
  congr 1
  exact (List.getElem?_eq_some_iff.1 h).2
theorem fail_bad {p : RP} (hp : OkR p) (hb : p.bad = false) : BadAt p (failR p) (p.l.drop p.n) := by
  have : failR p = { p with bad := true, at_ := match p.l[p.n]? with
    | some x => x.a
    | none => (p.fin : Int) } := by unfold failR; rw [if_neg (by rw [hb]; decide)]
  rw [this]
  refine ⟨rfl, rfl, rfl, hp.1, ?_⟩
  cases hx : p.l[p.n]? with
  | some x => rw [drop_cons hx]; rfl
  | none =>
    rw [List.drop_eq_nil_of_le (by simpa using hx)]; rfl
def kindOf (t : Str) : Int := if nameB t = true then 1 else 3
theorem isT_valid {x : Tk} (hv : validB x = true) (t : Str) (r : List Tk) : isT t (x :: r) = (decide (x.k = kindOf t) && decide (x.t = t)) := by
  by_cases ht : x.t = t
  · subst ht
    simp only [isT, decide_true, Bool.and_true]
    have : (x.k ≠ 2) ↔ (x.k = kindOf x.t) := by
      unfold kindOf
      unfold validB at hv
      split at hv
      · rename_i h1
        rw [Bool.and_eq_true] at hv
        rw [hv.1, if_pos rfl, h1]
        exact ⟨fun _ => rfl, fun _ => by decide⟩
      split at hv
      · rename_i h2
        rw [h2]
        constructor
        · intro h; exact absurd rfl h
        · intro h; split at h <;> exact absurd h (by decide)
      split at hv
      · rename_i h3
        rw [Bool.and_eq_true] at hv
        have h := hv.1
        have hn : nameB x.t = false := by
          match ht : x.t, h with
          | [c], h =>
            simp only [oneSign, decide_eq_true_eq] at h
            have := cls_lt c
            rw [h] at this
            simp only [nameB, ← this]
            simp
        rw [hn, if_neg (by decide), h3]
        exact ⟨fun _ => rfl, fun _ => by decide⟩
      · cases hv
    exact decide_eq_decide.2 this
  · simp [isT, ht]
theorem next_isT {p : RP} (hp : OkR p) (hb : p.bad = false) (t : Str) : nextR (kindOf t) t p = isT t (p.l.drop p.n) := by
  unfold nextR
  rw [hb]
  cases hx : p.l[p.n]? with
  | some x =>
    rw [drop_cons hx, isT_valid (List.all_eq_true.1 hp.2 x (List.mem_of_getElem? hx))]
    rfl
  | none => rw [List.drop_eq_nil_of_le (by simpa using hx)]; rfl
theorem reads_want {k : Int} (t : Str) (hk : kindOf t = k) : Reads (wantR k t) (want t) (fun a => a) := fun p hp hb => by
  subst hk
  have hn := next_isT hp hb t
  unfold want
  by_cases h : isT t (p.l.drop p.n) = true
  · rw [if_pos h]
    have hlt : p.n < p.l.length := by
      apply Classical.byContradiction
      intro hc
      rw [List.drop_eq_nil_of_le (by omega)] at h
      cases h
    refine ⟨p.n + 1, by omega, hlt, by rw [List.tail_drop], ?_⟩
    show ((), expR _ _ p) = _
    unfold expR
    rw [hn, if_pos h]
  · rw [if_neg h]
    show BadAt p (expR _ _ p) _
    unfold expR
    rw [hn, if_neg h]
    exact fail_bad hp hb
theorem isNm_eq {p : RP} (hb : p.bad = false) : isNmR p = isNm (p.l.drop p.n) := by
  unfold isNmR
  rw [hb]
  cases hx : p.l[p.n]? with
  | some x => rw [drop_cons hx]; rfl
  | none => rw [List.drop_eq_nil_of_le (by simpa using hx)]; rfl
theorem isNo_eq {p : RP} (hb : p.bad = false) : isNoR p = isNo (p.l.drop p.n) := by
  unfold isNoR
  rw [hb]
  cases hx : p.l[p.n]? with
  | some x => rw [drop_cons hx]; rfl
  | none => rw [List.drop_eq_nil_of_le (by simpa using hx)]; rfl
theorem reads_name : Reads nameR bare (fun a => a) := fun p hp hb => by
  have hn := isNm_eq hb
  have hf := fail_bad hp hb
  unfold nameR
  rw [hn]
  cases hx : p.l[p.n]? with
  | none =>
    have hd : p.l.drop p.n = [] := List.drop_eq_nil_of_le (by simpa using hx)
    rw [hd] at hf ⊢
    exact hf
  | some x =>
    have hd := drop_cons hx
    have hlt := (List.getElem?_eq_some_iff.1 hx).1
    rw [hd] at hf ⊢
    simp only [bare]
    by_cases h : isNm (x :: p.l.drop (p.n + 1)) = true
    · rw [if_pos h, if_pos h]
      refine ⟨p.n + 1, by omega, by omega, rfl, ?_⟩
      unfold txtAt
      rw [hx]
    · rw [if_neg h, if_neg h]
      exact hf
theorem reads_num : Reads numR number (fun a => a) := fun p hp hb => by
  have hn := isNo_eq hb
  have hf := fail_bad hp hb
  unfold numR
  rw [hn]
  cases hx : p.l[p.n]? with
  | none =>
    have hd : p.l.drop p.n = [] := List.drop_eq_nil_of_le (by simpa using hx)
    rw [hd] at hf ⊢
    exact hf
  | some x =>
    have hd := drop_cons hx
    have hlt := (List.getElem?_eq_some_iff.1 hx).1
    rw [hd] at hf ⊢
    simp only [number]
    by_cases h : isNo (x :: p.l.drop (p.n + 1)) = true
    · rw [if_pos h, if_pos h]
      refine ⟨p.n + 1, by omega, by omega, rfl, ?_⟩
      unfold numAt
      rw [hx]
    · rw [if_neg h, if_neg h]
      exact hf
theorem kw : kindOf wGrammar = 1 ∧ kindOf wCategory = 1 ∧ kindOf wStart = 1 ∧ kindOf wWord = 1 ∧ kindOf wIs = 1 ∧ kindOf wGives = 1 ∧ kindOf wCost = 1 ∧ kindOf wRule = 1 ∧ kindOf [59] = 3 ∧ kindOf [44] = 3 ∧ kindOf [58] = 3 ∧ kindOf [61] = 3 := by decide +kernel
theorem keep_nameW (k : Int) (t : Str) : Keep (nameW k t) := (keep_want k t).bind fun _ => keep_name
theorem reads_nameW {k : Int} (t : Str) (hk : kindOf t = k) : Reads (nameW k t) (nameP t) (fun a => a) := (reads_want t hk).bind (fun _ => keep_name) fun _ => reads_name
theorem keep_cost : Keep costR := (keep_want _ _).bind fun _ => keep_num.bind fun _ => (keep_want _ _).bind fun _ => Keep.pure _
theorem reads_cost : Reads costR costP (fun a => a) := (reads_want wCost kw.2.2.2.2.2.2.1).bind (fun _ => keep_num.bind fun _ => (keep_want _ _).bind fun _ => Keep.pure _) fun _ => reads_num.bind (fun _ => (keep_want _ _).bind fun _ => Keep.pure _) fun n => (reads_want [59] kw.2.2.2.2.2.2.2.2.1).bind (fun _ => Keep.pure _) fun _ => Reads.pure n n _ rfl
theorem keep_cat : Keep catR := (keep_nameW _ _).bind fun _ => (keep_want _ _).bind fun _ => Keep.pure _
theorem reads_cat : Reads catR category (fun a => a) := (reads_nameW wCategory kw.2.1).bind (fun _ => (keep_want _ _).bind fun _ => Keep.pure _) fun s => (reads_want [59] kw.2.2.2.2.2.2.2.2.1).bind (fun _ => Keep.pure _) fun _ => Reads.pure s s _ rfl
theorem keep_if {α : Type} {c : RP → Bool} {r s : RS α} (hr : Keep r) (hs : Keep s) : Keep (fun p => if c p = true then r p else s p) := fun p h => by
  by_cases hc : c p = true
  · simp only [hc, if_true]; exact hr p h
  · simp only [hc, if_false]; exact hs p h
theorem reads_if {α : Type} {c : RP → Bool} {cd : List Tk → Bool} {r s : RS α} {rd sd : Rd α} (hc : ∀ p, OkR p → p.bad = false → c p = cd (p.l.drop p.n)) (hr : Reads r rd fun a => a) (hs : Reads s sd fun a => a) : Reads (fun p => if c p = true then r p else s p) (fun l => if cd l = true then rd l else sd l) (fun a => a) := fun p hp hb => by
  have h1 := hr p hp hb
  have h2 := hs p hp hb
  have h3 := hc p hp hb
  by_cases h : cd (p.l.drop p.n) = true
  · rw [h] at h3
    simp only [h, h3, if_true]
    exact h1
  · simp only [h3, h, if_false]
    exact h2
theorem keep_part : Keep partR := keep_if ((keep_nameW _ _).bind fun _ => Keep.pure _) (keep_name.bind fun _ => Keep.pure _)
theorem reads_part : Reads partR partP (fun a => a) := reads_if (fun p hp hb => by have := next_isT hp hb [58]; rw [kw.2.2.2.2.2.2.2.2.2.2.1] at this; exact this)
  ((reads_nameW [58] kw.2.2.2.2.2.2.2.2.2.2.1).bind (fun _ => Keep.pure _) fun s => Reads.pure _ _ _ rfl) (reads_name.bind (fun _ => Keep.pure _) fun s => Reads.pure _ _ _ rfl)
theorem keep_give : Keep giveR := keep_if ((keep_nameW _ _).bind fun _ => Keep.pure _) (keep_num.bind fun _ => Keep.pure _)
theorem reads_give : Reads giveR giveP (fun a => a) := reads_if (fun p hp hb => by have := next_isT hp hb [58]; rw [kw.2.2.2.2.2.2.2.2.2.2.1] at this; exact this)
  ((reads_nameW [58] kw.2.2.2.2.2.2.2.2.2.2.1).bind (fun _ => Keep.pure _) fun s => Reads.pure _ _ _ rfl) (reads_num.bind (fun _ => Keep.pure _) fun s => Reads.pure _ _ _ rfl)
theorem loop_bad {α : Type} {more : RP → Bool} {item : RS α} (hm : ∀ p, p.bad = true → more p = false) : ∀ (k : Nat) (xs : List α) (p : RP), p.bad = true → loopR more item k xs p = (xs, p)
  | 0, _, _, _ => rfl
  | k + 1, xs, p, h => by rw [loopR, hm p h, if_neg (by decide)]
theorem keep_many {α : Type} {more : RP → Bool} {item : RS α} (hm : ∀ p, p.bad = true → more p = false) (xs : List α) : Keep (manyR more item xs) := fun p h => by
  show (loopR more item (meas p) xs p).2 = p
  rw [loop_bad hm _ _ _ h]
theorem reads_loop {α : Type} {more : RP → Bool} {item : RS α} {moreD : List Tk → Bool} {it : Rd α} (hm : ∀ p, p.bad = true → more p = false) (hc : ∀ p, OkR p → p.bad = false → more p = moreD (p.l.drop p.n)) (h0 : moreD [] = false) (hr : Reads item it fun a => a) (he : Eats it) :
    ∀ (k : Nat) (p : RP) (xs : List α) (m : Nat), OkR p → p.bad = false → p.l.length - p.n ≤ k → meas p ≤ m → match many moreD it k (p.l.drop p.n) with
      | .ok (ys, l) => ∃ n', p.n ≤ n' ∧ n' ≤ p.l.length ∧ l = p.l.drop n' ∧ loopR more item m xs p = (xs ++ ys, { p with n := n' })
      | .error l => BadAt p (loopR more item m xs p).2 l
  | 0, p, xs, m, hp, hb, hk, hms => by
    have hd : p.l.drop p.n = [] := List.drop_eq_nil_of_le (by omega)
    have hmf : more p = false := by rw [hc p hp hb, hd, h0]
    cases m with
    | zero => unfold meas at hms; rw [hb, if_neg (by decide)] at hms; omega
    | succ m =>
      rw [hd]
      refine ⟨p.n, Nat.le_refl _, hp.1, hd.symm, ?_⟩
      rw [loopR, hmf, if_neg (by decide), List.append_nil]
  | k + 1, p, xs, m, hp, hb, hk, hms => by
    have hcp := hc p hp hb
    cases m with
    | zero => unfold meas at hms; rw [hb, if_neg (by decide)] at hms; omega
    | succ m =>
      simp only [many]
      by_cases hmo : moreD (p.l.drop p.n) = true
      · rw [if_pos hmo, loopR, hcp, if_pos hmo]
        have h1 := hr p hp hb
        unfold Rd.bind
        cases hit : it (p.l.drop p.n) with
        | error l =>
          rw [hit] at h1
          simp only at h1 ⊢
          rw [loop_bad hm _ _ _ h1.1]
          exact h1
        | ok q =>
          obtain ⟨a, l⟩ := q
          rw [hit] at h1
          obtain ⟨n', k1, k2, rfl, k4⟩ := h1
          have hlt := he _ _ _ hit
          rw [List.length_drop, List.length_drop] at hlt
          simp only
          rw [k4]
          have hmq : meas { p with n := n' } ≤ m := by
            unfold meas at hms ⊢
            rw [hb, if_neg (by decide)] at hms
            simp only [hb]
            rw [if_neg (by decide)]
            omega
          have ih := reads_loop hm hc h0 hr he k { p with n := n' } (xs ++ [a]) m ⟨k2, hp.2⟩ hb (show p.l.length - n' ≤ k by omega) hmq
          simp only at ih
          cases hq : many moreD it k (p.l.drop n') with
          | error l =>
            rw [hq] at ih
            exact ih
          | ok q =>
            obtain ⟨ys, l⟩ := q
            rw [hq] at ih
            obtain ⟨n2, j1, j2, j3, j4⟩ := ih
            simp only [Rd.pure]
            exact ⟨n2, Nat.le_trans k1 j1, j2, j3, by rw [j4]; simp⟩
      · rw [if_neg hmo, loopR, hcp, if_neg hmo]
        exact ⟨p.n, Nat.le_refl _, hp.1, rfl, by simp⟩
theorem reads_many {α : Type} {more : RP → Bool} {item : RS α} {moreD : List Tk → Bool} {it : Rd α} (hm : ∀ p, p.bad = true → more p = false) (hc : ∀ p, OkR p → p.bad = false → more p = moreD (p.l.drop p.n)) (h0 : moreD [] = false) (hr : Reads item it fun a => a) (he : Eats it) (xs : List α) :
    Reads (manyR more item xs) (some' moreD it) (fun ys => xs ++ ys) := fun p hp hb => by
  have h := reads_loop hm hc h0 hr he (p.l.drop p.n).length p xs (meas p) hp hb (by rw [List.length_drop]; omega) (Nat.le_refl _)
  unfold some'
  cases hq : many moreD it (p.l.drop p.n).length (p.l.drop p.n) with
  | error l => rw [hq] at h; exact h
  | ok q => obtain ⟨ys, l⟩ := q; rw [hq] at h; exact h
theorem nm_bad {p : RP} (h : p.bad = true) : isNmR p = false := by unfold isNmR; rw [h]; rfl
theorem no_bad {p : RP} (h : p.bad = true) : isNoR p = false := by unfold isNoR; rw [h]; rfl
theorem mp_bad (p : RP) (h : p.bad = true) : morePR p = false := by unfold morePR; rw [nm_bad h, next_bad h]; rfl
theorem mg_bad (p : RP) (h : p.bad = true) : moreGR p = false := by unfold moreGR; rw [no_bad h, next_bad h]; rfl
theorem reads_t {α : Type} {item : RS α} {it : Rd α} {k : Int} (t : Str) (hk : kindOf t = k) (hr : Reads item it fun a => a) (he : Eats it) (xs : List α) : Reads (manyR (nextR k t) item xs) (some' (isT t) it) (fun ys => xs ++ ys) :=
  reads_many (fun p h => next_bad h) (fun p hp hb => by rw [← hk]; exact next_isT hp hb t) rfl hr he xs
theorem keep_t {α : Type} {item : RS α} (k : Int) (t : Str) (xs : List α) : Keep (manyR (nextR k t) item xs) := keep_many (fun p h => next_bad h) xs
theorem keep_entry : Keep entryR := (keep_nameW _ _).bind fun _ => (keep_nameW _ _).bind fun _ => (keep_nameW _ _).bind fun _ => (keep_t _ _ _).bind fun _ => keep_cost.bind fun _ => Keep.pure _
theorem reads_entry : Reads entryR entryP (fun a => a) :=
  (reads_nameW wWord kw.2.2.2.1).bind (fun _ => (keep_nameW _ _).bind fun _ => (keep_nameW _ _).bind fun _ => (keep_t _ _ _).bind fun _ => keep_cost.bind fun _ => Keep.pure _) fun t =>
  (reads_nameW wIs kw.2.2.2.2.1).bind (fun _ => (keep_nameW _ _).bind fun _ => (keep_t _ _ _).bind fun _ => keep_cost.bind fun _ => Keep.pure _) fun c =>
  (reads_nameW wGives kw.2.2.2.2.2.1).bind (fun _ => (keep_t _ _ _).bind fun _ => keep_cost.bind fun _ => Keep.pure _) fun g =>
  (reads_t [44] kw.2.2.2.2.2.2.2.2.2.1 (reads_nameW [44] kw.2.2.2.2.2.2.2.2.2.1) (eats_name _) [g]).bind (fun _ => keep_cost.bind fun _ => Keep.pure _) fun gs =>
  reads_cost.bind (fun _ => Keep.pure _) fun n => Reads.pure _ _ _ rfl
theorem reads_parts (a : Part) : Reads (manyR morePR partR [a]) (some' moreP partP) (fun ys => [a] ++ ys) :=
  reads_many mp_bad (fun p hp hb => by
    have h := next_isT hp hb [58]
    rw [kw.2.2.2.2.2.2.2.2.2.2.1] at h
    unfold morePR moreP
    rw [h, isNm_eq hb]) rfl reads_part eats_part [a]
theorem reads_gives (a : Give) : Reads (manyR moreGR giveR [a]) (some' moreG giveP) (fun ys => [a] ++ ys) :=
  reads_many mg_bad (fun p hp hb => by
    have h := next_isT hp hb [58]
    rw [kw.2.2.2.2.2.2.2.2.2.2.1] at h
    unfold moreGR moreG
    rw [h, isNo_eq hb]) rfl reads_give eats_give [a]
theorem keep_rule : Keep ruleR := (keep_nameW _ _).bind fun _ => (keep_want _ _).bind fun _ => keep_part.bind fun _ => (keep_many mp_bad _).bind fun _ => (keep_want _ _).bind fun _ => keep_give.bind fun _ => (keep_many mg_bad _).bind fun _ => keep_cost.bind fun _ => Keep.pure _
theorem reads_rule : Reads ruleR ruleP (fun a => a) :=
  (reads_nameW wRule kw.2.2.2.2.2.2.2.1).bind (fun _ => (keep_want _ _).bind fun _ => keep_part.bind fun _ => (keep_many mp_bad _).bind fun _ => (keep_want _ _).bind fun _ => keep_give.bind fun _ => (keep_many mg_bad _).bind fun _ => keep_cost.bind fun _ => Keep.pure _) fun c =>
  (reads_want [61] kw.2.2.2.2.2.2.2.2.2.2.2).bind (fun _ => keep_part.bind fun _ => (keep_many mp_bad _).bind fun _ => (keep_want _ _).bind fun _ => keep_give.bind fun _ => (keep_many mg_bad _).bind fun _ => keep_cost.bind fun _ => Keep.pure _) fun _ =>
  reads_part.bind (fun _ => (keep_many mp_bad _).bind fun _ => (keep_want _ _).bind fun _ => keep_give.bind fun _ => (keep_many mg_bad _).bind fun _ => keep_cost.bind fun _ => Keep.pure _) fun a =>
  (reads_parts a).bind (fun _ => (keep_want _ _).bind fun _ => keep_give.bind fun _ => (keep_many mg_bad _).bind fun _ => keep_cost.bind fun _ => Keep.pure _) fun ps =>
  (reads_want wGives kw.2.2.2.2.2.1).bind (fun _ => keep_give.bind fun _ => (keep_many mg_bad _).bind fun _ => keep_cost.bind fun _ => Keep.pure _) fun _ =>
  reads_give.bind (fun _ => (keep_many mg_bad _).bind fun _ => keep_cost.bind fun _ => Keep.pure _) fun y =>
  (reads_gives y).bind (fun _ => keep_cost.bind fun _ => Keep.pure _) fun gs =>
  reads_cost.bind (fun _ => Keep.pure _) fun n => Reads.pure _ _ _ rfl
theorem keep_end (g : Gram) : Keep (endR g) := fun p h => by
  show (if p.n < p.l.length then failR p else p) = p
  split
  · exact keep_fail p h
  · rfl
def endG (g : Gram) : Rd Gram := endP.bind fun _ => Rd.pure g
theorem reads_end (g : Gram) : Reads (endR g) (endG g) (fun a => a) := fun p hp hb => by
  unfold endG Rd.bind endR
  cases hx : p.l[p.n]? with
  | none =>
    have hd : p.l.drop p.n = [] := List.drop_eq_nil_of_le (by simpa using hx)
    have hlt : ¬ p.n < p.l.length := fun h => by rw [List.getElem?_eq_getElem h] at hx; cases hx
    rw [hd]
    simp only [endP, Rd.pure]
    exact ⟨p.n, Nat.le_refl _, hp.1, hd.symm, by rw [if_neg hlt]⟩
  | some x =>
    have hf := fail_bad hp hb
    rw [drop_cons hx] at hf ⊢
    simp only [endP]
    rw [if_pos (List.getElem?_eq_some_iff.1 hx).1]
    exact hf
theorem bind_bind {α β γ : Type} (p : Rd α) (f : α → Rd β) (g : β → Rd γ) : (p.bind f).bind g = p.bind fun a => (f a).bind g := by
  funext l
  unfold Rd.bind
  cases p l with
  | error r => rfl
  | ok q => rfl
theorem pure_bind {α β : Type} (a : α) (f : α → Rd β) : (Rd.pure a).bind f = f a := by funext l; rfl
theorem gramP_flat : gramP = (nameP wGrammar).bind fun n => (want [59]).bind fun _ => (some' (isT wCategory) category).bind fun cs => (nameP wStart).bind fun s => (want [59]).bind fun _ => (some' (isT wWord) entryP).bind fun es => (some' (isT wRule) ruleP).bind fun rs => endG ⟨n, cs, s, 0, es, rs⟩ := by
  unfold gramP headP
  simp only [bind_bind, pure_bind]
  rfl
theorem reads_gram : Reads readR gramP (fun a => a) := by
  rw [gramP_flat]
  exact (reads_nameW wGrammar kw.1).bind (fun _ => (keep_want _ _).bind fun _ => (keep_t _ _ _).bind fun _ => (keep_nameW _ _).bind fun _ => (keep_want _ _).bind fun _ => (keep_t _ _ _).bind fun _ => (keep_t _ _ _).bind fun _ => keep_end _) fun n =>
    (reads_want [59] kw.2.2.2.2.2.2.2.2.1).bind (fun _ => (keep_t _ _ _).bind fun _ => (keep_nameW _ _).bind fun _ => (keep_want _ _).bind fun _ => (keep_t _ _ _).bind fun _ => (keep_t _ _ _).bind fun _ => keep_end _) fun _ =>
    (reads_t wCategory kw.2.1 reads_cat eats_category []).bind (fun _ => (keep_nameW _ _).bind fun _ => (keep_want _ _).bind fun _ => (keep_t _ _ _).bind fun _ => (keep_t _ _ _).bind fun _ => keep_end _) fun cs =>
    (reads_nameW wStart kw.2.2.1).bind (fun _ => (keep_want _ _).bind fun _ => (keep_t _ _ _).bind fun _ => (keep_t _ _ _).bind fun _ => keep_end _) fun s =>
    (reads_want [59] kw.2.2.2.2.2.2.2.2.1).bind (fun _ => (keep_t _ _ _).bind fun _ => (keep_t _ _ _).bind fun _ => keep_end _) fun _ =>
    (reads_t wWord kw.2.2.2.1 reads_entry eats_entry []).bind (fun _ => (keep_t _ _ _).bind fun _ => keep_end _) fun es =>
    (reads_t wRule kw.2.2.2.2.2.2.2.1 reads_rule eats_rule []).bind (fun _ => keep_end _) fun rs => reads_end _
/-- what the reference reads from the first token on -/
theorem read_same (l : List Tk) (fin : Nat) (hv : l.all validB = true) : (∃ g, readL l fin = (g, 0, 0) ∧ ∃ q, readR ⟨l, 0, fin, false, 0⟩ = (g, q) ∧ q.bad = false) ∨
    (∃ a, readL l fin = (Gram.zero, a, 250) ∧ (readR ⟨l, 0, fin, false, 0⟩).2.bad = true ∧ (readR ⟨l, 0, fin, false, 0⟩).2.at_ = a) := by
  have h := reads_gram ⟨l, 0, fin, false, 0⟩ ⟨Nat.zero_le _, hv⟩ rfl
  simp only [List.drop_zero] at h
  unfold readL
  cases hg : gramP l with
  | error r =>
    rw [hg] at h
    exact .inr ⟨_, rfl, h.1, h.2.2.2.2⟩
  | ok q =>
    obtain ⟨g, r⟩ := q
    rw [hg] at h
    obtain ⟨n', h1, h2, h3, h4⟩ := h
    exact .inl ⟨g, rfl, _, h4, rfl⟩
end Go.V.Gr
