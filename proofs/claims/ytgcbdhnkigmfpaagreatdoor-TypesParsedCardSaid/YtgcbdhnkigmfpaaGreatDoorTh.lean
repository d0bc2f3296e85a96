/-
  Types: Resolve.
-/
import Derived.Test.YtgcbdhnkigmfpaaGreatDoorTg
namespace Go.V.Ty
open Go.Proofs Go.RowKit Go.V.Lx Go.V.Gr
set_option linter.unusedSimpArgs false
set_option linter.unusedVariables false
set_option maxRecDepth 100000

def setE (l : List Str) (x : Entry) : Entry := { x with no := num l x.cat }
def setP (l : List Str) (q : Part) : Part := { q with no := if q.text = [] then num l q.cat else 0 }
def setR (l : List Str) (x : Rule) : Rule := { x with no := num l x.cat, parts := x.parts.map (setP l) }
def setG (g : Gram) : Gram := { g with no := num g.cats g.start, entries := g.entries.map (setE g.cats), rules := g.rules.map (setR g.cats) }
def resolveL (g : Gram) : Gram × Int :=
  if 32 < g.cats.length ∨ 512 < g.entries.length ∨ 128 < g.rules.length then (.zero, 2)
  else if ¬ g.cats.Nodup ∨ typedB g.cats.contains g = false then (.zero, 260)
  else if circB g = true then (.zero, 261) else (setG g, 0)
def resD (p : Gram × Int) : D := .tup [p.1.d, .int .i64 p.2]
def zeroG : D := .agg [.str [], .nilsl, .str [], .int .i64 0, .nilsl, .nilsl]
def Res (p : Gram × Int) (d : D) (bx : Bxs) : Prop := ∃ r, outD bx d = some r ∧ Weak r (resD p)
theorem weak_agg6 {a b c d f k a' b' c' d' f' k' : D} (h1 : Weak a a') (h2 : Weak b b') (h3 : Weak c c') (h4 : Weak d d') (h5 : Weak f f') (h6 : Weak k k') : Weak (.agg [a, b, c, d, f, k]) (.agg [a', b', c', d', f', k']) := by
  refine .agg rfl fun i x x' hx hx' => ?_
  match i with
  | 0 => simp at hx hx'; subst hx; subst hx'; exact h1
  | 1 => simp at hx hx'; subst hx; subst hx'; exact h2
  | 2 => simp at hx hx'; subst hx; subst hx'; exact h3
  | 3 => simp at hx hx'; subst hx; subst hx'; exact h4
  | 4 => simp at hx hx'; subst hx; subst hx'; exact h5
  | 5 => simp at hx hx'; subst hx; subst hx'; exact h6
  | i + 6 => simp at hx
theorem res_zero (n : Int) (bx : Bxs) : Res (.zero, n) (.tup [zeroG, .int .i64 n]) bx := by
  refine ⟨.tup [zeroG, .int .i64 n], by simp [zeroG, go_sem], ?_⟩
  exact weak_tup2 (weak_agg6 (.refl _) (.nil _) (.refl _) (.refl _) (.nil _) (.nil _)) (.refl _)
theorem index_step {l : List Str} {j : Nat} {s : Str} (hs : l[j]? = some s) {c : Int} {m : PM} (hm : ((l.take j).Nodup ∧ c = j ∧ m = idxM (l.zipIdx.take j)) ∨ (¬ l.Nodup ∧ m.length < j)) :
    ∃ m' c', updM .str (.str s) (.int .i64 j) c (encM m) = some (.int .i64 c' :: encM m') ∧ (((l.take (j + 1)).Nodup ∧ c' = ((j + 1 : Nat) : Int) ∧ m' = idxM (l.zipIdx.take (j + 1))) ∨ (¬ l.Nodup ∧ m'.length < j + 1)) := by
  have htk : l.take (j + 1) = l.take j ++ [s] := by rw [List.take_add_one, hs]; rfl
  rcases hm with ⟨h1, rfl, rfl⟩ | ⟨h1, h2⟩
  · have hkeys : (idxM (l.zipIdx.take j)).map (·.1) = l.take j := by
      simp only [idxM, List.map_map, Function.comp_def]
      rw [List.map_take, List.zipIdx_map_fst]
    have hlen : (idxM (l.zipIdx.take j)).length ≤ j := by simp [idxM]; omega
    by_cases hmem : s ∈ l.take j
    · obtain ⟨m', c', g1, g2, g3⟩ := updM_any (idxM (l.zipIdx.take j)) s (j : Int) (.int .i64 j)
      refine ⟨m', c', g1, .inr ⟨fun hn => ?_, ?_⟩⟩
      · have := hn.sublist (List.take_sublist (j + 1) l)
        rw [htk, List.nodup_append] at this
        exact this.2.2 s hmem s (by simp) rfl
      · have := g3 (by rw [← hkeys] at hmem; obtain ⟨e, he, h⟩ := List.mem_map.1 hmem; exact ⟨e, he, h⟩)
        omega
    · refine ⟨_, _, updM_new ?_, .inl ⟨?_, by omega, ?_⟩⟩
      · intro e he h
        exact hmem (by rw [← hkeys]; exact List.mem_map.2 ⟨e, he, h⟩)
      · rw [htk, List.nodup_append]
        refine ⟨h1, by simp, fun a ha b hb h => ?_⟩
        simp at hb; subst hb; subst h; exact hmem ha
      · rw [zip_take hs]; simp [idxM]
  · obtain ⟨m', c', g1, g2, g3⟩ := updM_any m s c (.int .i64 j)
    exact ⟨m', c', g1, .inr ⟨h1, by omega⟩⟩
theorem Cloned.facts {B sz el : Nat} {l : List D} {bx bx' : Bxs} {d : D} (h : Cloned B sz el l bx d bx') : d.cells = [d] ∧ D.one d = true ∧ ∀ e z b ag, lenD (.slice e z b ag) d = some l.length := by
  rcases h.1 with ⟨hl, h⟩ | ⟨_, e, h, h2⟩
  · rcases h with ⟨h, h2⟩ | ⟨t, e, h1, h, h2⟩ <;> rw [h, hl] <;> exact ⟨rfl, rfl, fun _ _ _ _ => rfl⟩
  · rw [h]; exact ⟨rfl, rfl, fun _ _ _ _ => rfl⟩
/-- a list whose first k have been changed -/
def upTo {α : Type} (f : α → α) (l : List α) (k : Nat) : List α := (l.take k).map f ++ l.drop k
theorem upTo_0 {α : Type} (f : α → α) (l : List α) : upTo f l 0 = l := by simp [upTo]
theorem upTo_all {α : Type} (f : α → α) (l : List α) : upTo f l l.length = l.map f := by simp [upTo]
theorem upTo_len {α : Type} (f : α → α) (l : List α) (k : Nat) : (upTo f l k).length = l.length := by simp [upTo]; omega
theorem upTo_get {α : Type} {f : α → α} {l : List α} {k : Nat} {x : α} (h : l[k]? = some x) : (upTo f l k)[k]? = some x := by
  have hk := (List.getElem?_eq_some_iff.1 h).1
  rw [upTo, List.getElem?_append_right (by simp; omega)]
  simp [Nat.min_eq_left (Nat.le_of_lt hk), h]
theorem upTo_set {α : Type} {f : α → α} {l : List α} {k : Nat} {x : α} (h : l[k]? = some x) : (upTo f l k).set k (f x) = upTo f l (k + 1) := by
  have hk := (List.getElem?_eq_some_iff.1 h).1
  have hx := (List.getElem?_eq_some_iff.1 h).2
  have e1 : l.drop k = x :: l.drop (k + 1) := by rw [List.drop_eq_getElem_cons hk, hx]
  have e2 : l.take (k + 1) = l.take k ++ [x] := by rw [List.take_add_one, h]; rfl
  rw [upTo, upTo, e1, e2, List.set_append]
  simp [Nat.min_eq_left (Nat.le_of_lt hk)]
theorem upTo_map {α : Type} {f : α → α} {d : α → D} {l : List α} {k : Nat} {x : α} (h : l[k]? = some x) : ((upTo f l k).map d).set k (d (f x)) = (upTo f l (k + 1)).map d := by
  rw [← upTo_set h, List.map_set]
/-- rules of which one's parts are a slice of one's own -/
def Half (eR : Nat) (l : List D) (bx : Bxs) : Prop := ∃ es, bx 327 = ⟨eR, 1, 5, 42, es⟩ ∧ outL bx es = some l ∧ ∀ t ∈ namesL es, t = 347
theorem out_rules (bx : Bxs) : ∀ l : List Rule, outL bx (l.map Rule.d) = some (l.map Rule.d) ∧ namesL (l.map Rule.d) = []
  | [] => ⟨by simp [outL], rfl⟩
  | x :: l => by
    obtain ⟨h1, h2⟩ := out_rules bx l
    refine ⟨?_, ?_⟩
    · rw [List.map_cons, outL_cons, h1]
      simp [Rule.d, go_sem]
    · simp [Rule.d, names, namesL, h2]
theorem out_set {bx : Bxs} {d d' : D} (hd : outD bx d = some d') : ∀ (l l' : List D) (k : Nat), outL bx l = some l' → outL bx (l.set k d) = some (l'.set k d')
  | [], l', k, h => by simp only [outL_nil, Option.some.injEq] at h; subst h; simp [outL]
  | x :: l, l', 0, h => by
    rw [outL_cons] at h
    obtain ⟨y, ys, h1, h2, rfl⟩ := consO_inv h
    rw [List.set_cons_zero, outL_cons, hd, h2]; rfl
  | x :: l, l', k + 1, h => by
    rw [outL_cons] at h
    obtain ⟨y, ys, h1, h2, rfl⟩ := consO_inv h
    rw [List.set_cons_succ, outL_cons, h1, out_set hd l ys k h2]; rfl
theorem names_set {d : D} {t : Nat} : ∀ (l : List D) (k : Nat), t ∈ namesL (l.set k d) → t ∈ namesL l ∨ t ∈ names d
  | [], k, h => .inl (by simpa using h)
  | x :: l, 0, h => by
    simp only [List.set_cons_zero, namesL, List.mem_append] at h ⊢
    exact h.elim .inr fun h => .inl (.inr h)
  | x :: l, k + 1, h => by
    simp only [List.set_cons_succ, namesL, List.mem_append] at h ⊢
    rcases h with h | h
    · exact .inl (.inl h)
    · rcases names_set l k h with h | h
      · exact .inl (.inr h)
      · exact .inr h
theorem Half.of {eR : Nat} {l : List Rule} {bx : Bxs} (h : bx 327 = ⟨eR, 1, 5, 42, l.map Rule.d⟩) : Half eR (l.map Rule.d) bx :=
  ⟨_, h, (out_rules bx l).1, by rw [(out_rules bx l).2]; simp⟩
theorem Half.melt {eR : Nat} {l : List D} {bx : Bxs} (h : Half eR l bx) : ∃ bx0, ((bx 327).k = 1 ∧ outL bx (bx 327).es = some l ∧ bx0 = Go.V.melt bx 327 l) ∧ bx0 327 = ⟨eR, 1, 5, 42, l⟩ ∧ ∀ s, s ≠ 327 → s ≠ 347 → bx0 s = bx s := by
  obtain ⟨es, h1, h2, h3⟩ := h
  have h4 : frzL bx es 327 = bx 327 := by rw [frzL_at, if_neg (fun hm => by have := h3 _ hm; omega)]
  have h5 : (bx 327).es = es := by rw [h1]
  refine ⟨_, ⟨by rw [h1], by rw [h5]; exact h2, rfl⟩, ?_, fun s hs hs2 => ?_⟩
  · unfold Go.V.melt
    rw [h5, upd_same, h4, h1]
  · unfold Go.V.melt
    rw [h5, upd_ne hs, frzL_at, if_neg]
    exact fun hm => hs2 (h3 s hm)
theorem rule_parts {g : Gram} {p : Str → Bool} (h : typedB p g = true) {x : Rule} (hx : x ∈ g.rules) : x.parts ≠ [] ∧ x.parts.length ≤ 4 := by
  simp only [typedB, Bool.and_eq_true, List.all_eq_true] at h
  have := h.2.2.2.2.2 x hx
  simp only [ruleB, Bool.and_eq_true, inB, decide_eq_true_eq] at this
  have h2 := this.2.1
  exact ⟨fun e => by rw [e] at h2; simp at h2, by omega⟩
theorem look_num (l : List Str) (hn : l.Nodup) (s : Str) : valO (some (.int .i64 0)) false (findM .str (.str s) (encM (idxM l.zipIdx)) 0) = some (.int .i64 (num l s)) := by
  obtain ⟨r, hr, ⟨rfl, _, h⟩ | ⟨j, rfl, _⟩⟩ := findI l hn s
  · rw [hr, h]; rfl
  · rw [hr]; rfl
theorem resolve_d (g : Gram) (hg : SmG g) : fnB Tryz.prog (orac Tryz.prog) [(2000016, []), (2000026, []), (16, [(7, 5)]), (20, [(12, 3)]), (26, [(11, 7), (16, 6), (12, 6), (11, 6)]), (32, [(14, 3)])] Tryz.f9 0 [g.d] (fun _ => .none) (Res (resolveL g)) (fun _ _ => False) := by
  refine fnB_intro _ [.cell 2 26, .tmp 3] 164 rfl rfl rfl (by kernel_rfl) ?_
  simp (maxSteps := 1000000) (disch := omega) only [go_sem, Gram.d, strs]
  by_cases hlim : 32 < g.cats.length ∨ 512 < g.entries.length ∨ 128 < g.rules.length
  · have hr : resolveL g = (.zero, 2) := by unfold resolveL; rw [if_pos hlim]
    rw [hr]
    by_cases l1 : (32 : Int) < (g.cats.length : Int)
    · simp (maxSteps := 1000000) (disch := omega) only [go_sem, l1, decide_true]
      exact res_zero _ _
    by_cases l2 : (512 : Int) < (g.entries.length : Int)
    · simp (maxSteps := 1000000) (disch := omega) only [go_sem, l1, l2, decide_true, decide_false]
      exact res_zero _ _
    have l3 : (128 : Int) < (g.rules.length : Int) := by omega
    simp (maxSteps := 1000000) (disch := omega) only [go_sem, l1, l2, l3, decide_true, decide_false]
    exact res_zero _ _
  · have l1 : ¬ (32 : Int) < (g.cats.length : Int) := by omega
    have l2 : ¬ (512 : Int) < (g.entries.length : Int) := by omega
    have l3 : ¬ (128 : Int) < (g.rules.length : Int) := by omega
    simp (maxSteps := 1000000) (disch := omega) only [go_sem, l1, l2, l3, decide_false]
    refine cD_for g.cats.length (fun j σ bx => σ 1 = .loc 1 1 0 0 ∧ σ 2 = .loc 2 1 0 0 ∧ σ 4 = .loc 4 1 0 0 ∧ σ 31 = strs g.cats ∧ σ 32 = .int .i64 g.cats.length ∧ σ 33 = .int .i64 j ∧ bx 1 = ⟨1, 1, 6, 26, [g.d]⟩ ∧ bx 2 = ⟨1, 1, 6, 26, [zeroG]⟩ ∧ bx 4 = ⟨1, 1, 1, 58, [.omap 29 1]⟩ ∧
      ∃ c m, bx 29 = ⟨1, 3, 0, 58, .int .i64 c :: encM m⟩ ∧ (((g.cats.take j).Nodup ∧ c = j ∧ m = idxM (g.cats.zipIdx.take j)) ∨ (¬ g.cats.Nodup ∧ m.length < j))) ?_ ?_ ?_
    · simp (maxSteps := 1000000) (disch := omega) only [go_sem, Gram.d, strs, List.take_zero, zeroG]
      exact ⟨0, [], rfl, .inl ⟨.nil, rfl, rfl⟩⟩
    · rintro j σ bx hj ⟨q1, q2, q4, q31, q32, q33, b1, b2, b4, c, m, b29, hm⟩
      obtain ⟨s, hs⟩ := get_lt hj
      have hlt : (j : Int) < (g.cats.length : Int) := by omega
      have hj1 : IntKind.i64.wrap ((j : Int) + 1) = ((j + 1 : Nat) : Int) := wrap_succ (by omega)
      obtain ⟨m', c', hu, hm'⟩ : ∃ m' c', updM .str (.str s) (.int .i64 j) c (encM m) = some (.int .i64 c' :: encM m') ∧ (((g.cats.take (j + 1)).Nodup ∧ c' = ((j + 1 : Nat) : Int) ∧ m' = idxM (g.cats.zipIdx.take (j + 1))) ∨ (¬ g.cats.Nodup ∧ m'.length < j + 1)) := index_step hs hm
      simp (maxSteps := 1000000) (disch := omega) only [go_sem, q1, q2, q4, q31, q32, q33, b1, b2, b4, b29, hlt, hs, strs, hu, hj1, setM]
      exact ⟨c', m', rfl, hm'⟩
    · rintro σ bx ⟨q1, q2, q4, q31, q32, q33, b1, b2, b4, c, m, b29, hm⟩
      have hlt : ¬ (g.cats.length : Int) < (g.cats.length : Int) := by omega
      simp (maxSteps := 1000000) (disch := omega) only [go_sem, q1, q2, q4, q31, q32, q33, b1, b2, b4, b29, hlt, strs, Gram.d, encM_len]
      rcases hm with ⟨hn, rfl, rfl⟩ | ⟨hn, h2⟩
      rotate_left
      · have hr : resolveL g = (.zero, 260) := by unfold resolveL; rw [if_neg hlim, if_pos (.inl hn)]
        have h3 : ¬ ((m.length : Int) = (g.cats.length : Int)) := by omega
        simp (maxSteps := 1000000) (disch := omega) only [go_sem, h3, decide_false, Bool.not_false, q2, b2, zeroG]
        rw [hr]
        exact res_zero _ _
      rw [List.take_length] at hn
      have hz : g.cats.zipIdx.take g.cats.length = g.cats.zipIdx := by rw [← List.length_zipIdx (l := g.cats) (i := 0), List.take_length]
      rw [hz] at b29 ⊢
      have h3 : (((idxM g.cats.zipIdx).length : Nat) : Int) = (g.cats.length : Int) := by simp [idxM]
      simp (maxSteps := 1000000) (disch := omega) only [go_sem, h3, decide_true, Bool.not_true, q1, q2, b1, b2, Gram.d, strs]
      refine call_boxes (typed_c g hg bx (find_p hn b4 b29) (by omega)) rfl ?_
      rintro d B ⟨rfl, hk⟩
      have c1 := (hk 1 (by omega)).trans b1
      have c2 := (hk 2 (by omega)).trans b2
      have c4 := (hk 4 (by omega)).trans b4
      have c29 := (hk 29 (by omega)).trans b29
      cases ht : typedB g.cats.contains g
      · have hr : resolveL g = (.zero, 260) := by unfold resolveL; rw [if_neg hlim, if_pos (.inr ht)]
        simp (maxSteps := 1000000) (disch := omega) only [go_sem, ht, h3, decide_true, Bool.not_true, Bool.not_false, q2, c2, zeroG]
        rw [hr]
        exact res_zero _ _
      simp (maxSteps := 1000000) (disch := omega) only [go_sem, ht, h3, decide_true, Bool.not_true, q1, q2, c1, Gram.d, strs]
      refine call_pure (circular_c g hg hn) (show D.pureL [g.d] = true by simp [D.pureL, pure_gram]) ?_
      cases hc : circB g
      rotate_left
      · have hr : resolveL g = (.zero, 261) := by unfold resolveL; rw [if_neg hlim, if_neg (by simp [hn, ht]), if_pos hc]
        simp (maxSteps := 1000000) (disch := omega) only [go_sem, hc, q2, c2, zeroG]
        rw [hr]
        exact res_zero _ _
      have hr : resolveL g = (setG g, 0) := by unfold resolveL; rw [if_neg hlim, if_neg (by simp [hn, ht]), if_neg (by simp [hc])]
      rw [hr]
      have hlook := look_num g.cats hn
      simp (maxSteps := 1000000) (disch := omega) only [go_sem, hc, q1, q2, q4, c1, c2, c4, c29, hlook, zeroG, Gram.d, strs]
      refine draw_by (.light 0 (.load 1 1 (.light 3 (.load 4 1 (.both 2 [1] (.light 6 (.both 5 [] (.both 7 [] (.light 8 (.both 9 [] .fin .stop)) .stop) .stop)) .stop))))) (by kernel_rfl) ?_
      simp (maxSteps := 1000000) (disch := omega) only [go_sem, hc, q1, q2, q4, c1, c2, c4, c29, zeroG, Gram.d, strs]
      generalize hB1 : upd (upd B 2 _) 2 _ = B1
      have d1 : B1 1 = ⟨1, 1, 6, 26, [g.d]⟩ := by rw [← hB1]; simp [upd, c1]
      have d2 : B1 2 = ⟨1, 1, 6, 26, [.agg [.str g.name, .sl 1 (g.cats.map D.str), .str g.start, .int .i64 (num g.cats g.start), .sl 5 (g.entries.map Entry.d), .sl 5 (g.rules.map Rule.d)]]⟩ := by rw [← hB1]; simp [upd]
      have d4 : B1 4 = ⟨1, 1, 1, 58, [.omap 29 1]⟩ := by rw [← hB1]; simp [upd, c4]
      obtain ⟨cl, d29⟩ : ∃ c : Int, B1 29 = ⟨1, 3, 0, 58, .int .i64 c :: encM (idxM g.cats.zipIdx)⟩ := ⟨_, by rw [← hB1]; simp [upd, c29]; rfl⟩
      clear hB1
      refine call_boxes (cloneE_c 300 g.entries (by omega) B1) rfl ?_
      rintro dE B2 ⟨hE, kE⟩
      simp (maxSteps := 1000000) (disch := omega) only [go_sem, kE 1 (by omega), Gram.d, strs, q1, q2, d1, d2]
      refine call_boxes (cloneR_c 320 g.rules (by omega) B2) rfl ?_
      rintro dR B3 ⟨hR, kR⟩
      have e1 := (kR 1 (by omega)).trans ((kE 1 (by omega)).trans d1)
      have e2 := (kR 2 (by omega)).trans ((kE 2 (by omega)).trans d2)
      have e4 := (kR 4 (by omega)).trans ((kE 4 (by omega)).trans d4)
      have e29 := (kR 29 (by omega)).trans ((kE 29 (by omega)).trans d29)
      obtain ⟨f1, f2, f3⟩ := Cloned.facts ⟨hE, kE⟩
      obtain ⟨f4, f5, f6⟩ := Cloned.facts ⟨hR, kR⟩
      rw [List.length_map] at f3 f6
      simp (maxSteps := 1000000) (disch := omega) only [go_sem, e2, q1, q2, f1, f2, f3, f4, f5, f6]
      generalize hB4 : upd (upd B3 2 _) 2 _ = B4
      have keep4 : ∀ s, s ≠ 2 → B4 s = B3 s := fun s hs => by rw [← hB4]; simp [upd, hs]
      have g2 : B4 2 = ⟨1, 1, 6, 26, [.agg [.str g.name, .sl 1 (g.cats.map D.str), .str g.start, .int .i64 (num g.cats g.start), dE, dR]]⟩ := by rw [← hB4]; simp [upd]
      clear hB4
      obtain ⟨eE, hdE⟩ : ∃ eE, g.entries ≠ [] → dE = .osl 307 eE 5 0 g.entries.length ∧ B4 307 = ⟨eE, 1, 5, 44, g.entries.map Entry.d⟩ := by
        by_cases he : g.entries = []
        · exact ⟨0, fun h => (h he).elim⟩
        · obtain ⟨e, h1, h2⟩ := Cloned.own ⟨hE, kE⟩ (by simpa using he)
          exact ⟨e, fun _ => ⟨by simpa using h1, (keep4 307 (by omega)).trans ((kR 307 (by omega)).trans h2)⟩⟩
      have hel := hg.elen
      refine cD_for g.entries.length (fun j σ bx => σ 2 = .loc 2 1 0 0 ∧ σ 4 = .loc 4 1 0 0 ∧ σ 75 = .int .i64 g.entries.length ∧ σ 76 = .int .i64 j ∧ (∀ s, s ≠ 307 → bx s = B4 s) ∧ (g.entries ≠ [] → bx 307 = ⟨eE, 1, 5, 44, (upTo (setE g.cats) g.entries j).map Entry.d⟩)) ?_ ?_ ?_
      · simp (maxSteps := 1000000) (disch := omega) only [go_sem, q2, q4, upTo_0]
        exact ⟨fun _ _ => trivial, fun h => (hdE h).2⟩
      · rintro j σ bx hj ⟨q2, q4, q75, q76, hk, h307⟩
        obtain ⟨x, hx⟩ := get_lt hj
        have hne : g.entries ≠ [] := by rintro e; rw [e] at hj; simp at hj
        obtain ⟨rfl, -⟩ := hdE hne
        have b7 := h307 hne
        have b2 := (hk 2 (by omega)).trans g2
        have b4 := (hk 4 (by omega)).trans ((keep4 4 (by omega)).trans e4)
        have b29 := (hk 29 (by omega)).trans ((keep4 29 (by omega)).trans e29)
        have hlt : (j : Int) < (g.entries.length : Int) := by omega
        have hj1 : IntKind.i64.wrap ((j : Int) + 1) = ((j + 1 : Nat) : Int) := wrap_succ (by omega)
        have hget := upTo_get (f := setE g.cats) hx
        have hset := upTo_map (f := setE g.cats) (d := Entry.d) hx
        simp only [setE, Entry.d] at hset
        simp (maxSteps := 1000000) (disch := omega) only [go_sem, q2, q4, q75, q76, hlt, hj1, b2, b4, b29, b7, hget, upTo_len, hlook, Entry.d, strs]
        refine ⟨fun s hs => by rw [if_neg hs]; exact hk s hs, fun _ => ?_⟩
        rw [← hset]; rfl
      · rintro σ bx ⟨q2, q4, q75, q76, hk, h307⟩
        have hlt : ¬ (g.entries.length : Int) < (g.entries.length : Int) := by omega
        have b2 := (hk 2 (by omega)).trans g2
        simp (maxSteps := 1000000) (disch := omega) only [go_sem, q2, q4, q75, q76, hlt, b2, f1, f2, f3, f4, f5, f6]
        rw [upTo_all] at h307
        obtain ⟨eR, hdR⟩ : ∃ eR, g.rules ≠ [] → dR = .osl 327 eR 5 0 g.rules.length ∧ bx 327 = ⟨eR, 1, 5, 42, g.rules.map Rule.d⟩ := by
          by_cases he : g.rules = []
          · exact ⟨0, fun h => (h he).elim⟩
          · obtain ⟨e, h1, h2⟩ := Cloned.own ⟨hR, kR⟩ (by simpa using he)
            exact ⟨e, fun _ => ⟨by simpa using h1, (hk 327 (by omega)).trans ((keep4 327 (by omega)).trans h2)⟩⟩
        have hrl := hg.rlen
        generalize hB5 : bx = B5 at *
        refine cD_forM g.rules.length (fun j σ bx => σ 2 = .loc 2 1 0 0 ∧ σ 4 = .loc 4 1 0 0 ∧ σ 95 = .int .i64 g.rules.length ∧ σ 96 = .int .i64 j ∧ (∀ s, s ≠ 327 → s < 340 → bx s = B5 s) ∧ (g.rules ≠ [] → Half eR ((upTo (setR g.cats) g.rules j).map Rule.d) bx)) ?_ ?_ ?_
        · simp (maxSteps := 1000000) (disch := omega) only [go_sem, q2, q4, upTo_0]
          exact ⟨fun _ _ _ => trivial, fun h => .of (hdR h).2⟩
        · rintro j σ bx hj ⟨q2, q4, q95, q96, hk5, hh⟩
          obtain ⟨x, hx⟩ := get_lt hj
          have hne : g.rules ≠ [] := by rintro e; rw [e] at hj; simp at hj
          obtain ⟨rfl, -⟩ := hdR hne
          obtain ⟨bx0, hm, b27, hk0⟩ := (hh hne).melt
          refine ⟨bx0, .inr ⟨rfl, 327, _, hm.1, hm.2.1, hm.2.2⟩, ?_⟩
          clear hm
          have low : ∀ s, s ≠ 307 → s ≠ 327 → s < 340 → bx0 s = B4 s := fun s h1 h2 h3 => (hk0 s h2 (by omega)).trans ((hk5 s h2 h3).trans (hk s h1))
          have b2 := (low 2 (by omega) (by omega) (by omega)).trans g2
          have b4 := (low 4 (by omega) (by omega) (by omega)).trans ((keep4 4 (by omega)).trans e4)
          have b29 := (low 29 (by omega) (by omega) (by omega)).trans ((keep4 29 (by omega)).trans e29)
          have hlt : (j : Int) < (g.rules.length : Int) := by omega
          have hget := upTo_get (f := setR g.cats) hx
          have hpl : x.parts ≠ [] ∧ x.parts.length ≤ 4 := rule_parts ht (List.mem_of_getElem? hx)
          have hpm : x.parts.map Part.d ≠ [] := by simpa using hpl.1
          have hj1 : IntKind.i64.wrap ((j : Int) + 1) = ((j + 1 : Nat) : Int) := wrap_succ (by omega)
          simp (maxSteps := 1000000) (disch := omega) only [go_sem, q2, q4, q95, q96, hlt, b2, b4, b27, hget, upTo_len]
          refine drawD_mono (Q := fun σ bx => σ 2 = .loc 2 1 0 0 ∧ σ 4 = .loc 4 1 0 0 ∧ σ 10 = .loc 327 eR j 0 ∧ σ 95 = .int .i64 g.rules.length ∧ σ 96 = .int .i64 j ∧ ∃ eP, bx 327 = ⟨eR, 1, 5, 42, ((upTo (setR g.cats) g.rules j).map Rule.d).set j (.agg [.str x.cat, .int .i64 (num g.cats x.cat), .osl 347 eP 3 0 x.parts.length, .sl 2 (x.gives.map Give.d), .int .i64 x.cost])⟩ ∧ bx 347 = ⟨eP, 1, 3, 46, x.parts.map Part.d⟩ ∧ ∀ s, s ≠ 327 → s < 340 → bx s = bx0 s) (fun _ _ h => h) ?_ ?_
          · rintro σ bx ⟨q2, q4, q10, q95, q96, eP, b27, b47, hkb⟩
            have hz := hpl.2
            have hget2 : (((upTo (setR g.cats) g.rules j).map Rule.d).set j (D.agg [.str x.cat, .int .i64 (num g.cats x.cat), .osl 347 eP 3 0 x.parts.length, .sl 2 (x.gives.map Give.d), .int .i64 x.cost]))[j]? = some (D.agg [.str x.cat, .int .i64 (num g.cats x.cat), .osl 347 eP 3 0 x.parts.length, .sl 2 (x.gives.map Give.d), .int .i64 x.cost]) := by
              rw [List.getElem?_set_self (by rw [List.length_map, upTo_len]; exact hj)]
            simp (maxSteps := 1000000) (disch := omega) only [go_sem, q2, q4, q10, q95, q96, b27, b47, hget2]
            have hnum : num g.cats x.cat = (setR g.cats x).no := rfl
            refine cD_for x.parts.length (fun i σ bx => σ 2 = .loc 2 1 0 0 ∧ σ 4 = .loc 4 1 0 0 ∧ σ 10 = .loc 327 eR j 0 ∧ σ 95 = .int .i64 g.rules.length ∧ σ 96 = .int .i64 j ∧ σ 124 = .int .i64 x.parts.length ∧ σ 125 = .int .i64 i ∧ bx 327 = ⟨eR, 1, 5, 42, ((upTo (setR g.cats) g.rules j).map Rule.d).set j (.agg [.str x.cat, .int .i64 (num g.cats x.cat), .osl 347 eP 3 0 x.parts.length, .sl 2 (x.gives.map Give.d), .int .i64 x.cost])⟩ ∧ bx 347 = ⟨eP, 1, 3, 46, (upTo (setP g.cats) x.parts i).map Part.d⟩ ∧ ∀ s, s ≠ 327 → s < 340 → bx s = bx0 s) ?_ ?_ ?_
            · simp (maxSteps := 1000000) (disch := omega) only [go_sem, q2, q4, q10, q95, q96, b27, b47, upTo_0]
              exact hkb
            · rintro i σ bx hi ⟨q2, q4, q10, q95, q96, q124, q125, b27, b47, hkb⟩
              obtain ⟨y, hy⟩ := get_lt hi
              have hlt : (i : Int) < (x.parts.length : Int) := by omega
              have hi1 : IntKind.i64.wrap ((i : Int) + 1) = ((i + 1 : Nat) : Int) := wrap_succ (by omega)
              have hyg := upTo_get (f := setP g.cats) hy
              have hset := upTo_map (f := setP g.cats) (d := Part.d) hy
              have hjl : ∀ d : D, (((upTo (setP g.cats) x.parts i).map Part.d).set i d)[i]? = some d := fun d => List.getElem?_set_self (by rw [List.length_map, upTo_len]; exact hi)
              have b4' := (hkb 4 (by omega) (by omega)).trans b4
              have b29' := (hkb 29 (by omega) (by omega)).trans b29
              simp (maxSteps := 1000000) (disch := omega) only [go_sem, q2, q4, q10, q95, q96, q124, q125, hlt, b27, b47, hget2, hyg, upTo_len, Part.d, hjl, hi1]
              refine condD_dec (fun c1 => ?_) (fun c1 => ?_)
              · simp (maxSteps := 1000000) (disch := omega) only [go_sem, q2, q4, q10, q95, q96, q124, q125, hlt, b27, b47, hget2, hyg, upTo_len, Part.d, hjl, hi1, b4', b29', hlook, List.set_set]
                refine ⟨by rw [← hset]; simp [setP, Part.d, c1], fun s h1 h2 => ?_⟩
                rw [if_neg (by omega), if_neg (by omega)]
                exact hkb s h1 h2
              · simp (maxSteps := 1000000) (disch := omega) only [go_sem, q2, q4, q10, q95, q96, q124, q125, hlt, b27, b47, hget2, hyg, upTo_len, Part.d, hjl, hi1]
                refine ⟨by rw [← hset]; simp [setP, Part.d, c1], fun s h1 h2 => ?_⟩
                rw [if_neg (by omega)]
                exact hkb s h1 h2
            · rintro σ bx ⟨q2, q4, q10, q95, q96, q124, q125, b27, b47, hkb⟩
              have hlt : ¬ (x.parts.length : Int) < (x.parts.length : Int) := by omega
              simp (maxSteps := 1000000) (disch := omega) only [go_sem, q2, q4, q10, q95, q96, q124, q125, hlt, hj1]
              rw [upTo_all] at b47
              refine ⟨fun s h1 h2 => (hkb s h1 h2).trans ((hk0 s h1 (by omega)).trans (hk5 s h1 h2)), fun _ => ⟨_, b27, ?_, fun t ht => ?_⟩⟩
              · rw [← upTo_map hx]
                refine out_set ?_ _ _ _ (out_rules bx _).1
                have := outB_all eP 1 3 46 x.parts.length ((x.parts.map (setP g.cats)).map Part.d) (by decide) (by simp) (pure_part _)
                simp only [outD_agg, outL_cons, outL_nil, outD_osl, b47, this]
                simp [go_sem, Rule.d, setR]
              · rcases names_set _ _ ht with h | h
                · rw [(out_rules bx _).2] at h; simp at h
                · simpa [names, namesL] using h
          · refine draw_by (.light 0 (.light 1 (.load 2 4 (.light 3 (.light 4 (.light 5 (.load 6 327 (.light 8 (.light 9 (.light 10 (.load 11 327 (.both 7 [327] (.both 12 [4, 327] (.light 13 (.light 14 (.both 15 [] (.light 16 (.light 17 (.both 18 [] .fin .stop))) .stop))) .stop) (.both 12 [4, 327] (.both 7 [327] (.light 13 (.light 14 (.both 15 [] (.light 16 (.light 17 (.both 18 [] .fin .stop))) .stop))) .stop) .stop))))))))))))) (by kernel_rfl) ?_
            simp (maxSteps := 1000000) (disch := omega) only [go_sem, q2, q4, q95, q96, b4, b29, b27, hget, upTo_len, hlook, Rule.d]
            have hjl : ∀ d : D, (((upTo (setR g.cats) g.rules j).map Rule.d).set j d)[j]? = some d := fun d => List.getElem?_set_self (by rw [List.length_map, upTo_len]; exact hj)
            refine ⟨?_, ?_⟩
            · refine call_boxes (cloneP_c 340 x.parts (by omega) bx0) rfl ?_
              rintro dP B6 ⟨hP, kP⟩
              obtain ⟨eP, rfl, b47⟩ := Cloned.own ⟨hP, kP⟩ hpm
              rw [List.length_map]
              have c27 := (kP 327 (by omega)).trans b27
              have c4 := kP 4 (by omega)
              simp (maxSteps := 1000000) (disch := omega) only [go_sem, c27, c4, q2, q4, q95, q96, hget, upTo_len, Rule.d, hjl, List.set_set]
              exact ⟨b27.symm, eP, rfl, b47, fun s h1 h2 => by rw [if_neg h1, if_neg h1]; exact kP s (by omega)⟩
            · refine call_boxes (cloneP_c 340 x.parts (by omega) bx0) rfl ?_
              rintro dP B6 ⟨hP, kP⟩
              obtain ⟨eP, rfl, b47⟩ := Cloned.own ⟨hP, kP⟩ hpm
              rw [List.length_map]
              have c27 := (kP 327 (by omega)).trans b27
              have c4 := kP 4 (by omega)
              have c29 := (kP 29 (by omega)).trans b29
              simp (maxSteps := 1000000) (disch := omega) only [go_sem, c27, c4, c29, q2, q4, q95, q96, hget, upTo_len, Rule.d, hjl, List.set_set, b27, hlook]
              exact ⟨eP, rfl, b47, fun s h1 h2 => by rw [if_neg h1, if_neg h1]; exact kP s (by omega)⟩
        · rintro σ bx ⟨q2, q4, q95, q96, hk5, hh⟩
          have hlt : ¬ (g.rules.length : Int) < (g.rules.length : Int) := by omega
          obtain ⟨bx0, hm, hlow, rR, hR1, hR2⟩ : ∃ bx0, (bx0 = bx ∨ ∃ l, (bx 327).k = 1 ∧ outL bx (bx 327).es = some l ∧ bx0 = Go.V.melt bx 327 l) ∧ (∀ s, s ≠ 327 → s < 340 → bx0 s = B5 s) ∧ ∃ r, outD bx0 dR = some r ∧ Weak r (.sl 5 ((g.rules.map (setR g.cats)).map Rule.d)) := by
            by_cases he : g.rules = []
            · refine ⟨bx, .inl rfl, hk5, ?_⟩
              rw [he] at hR ⊢
              have ho := (Cloned.none (bx := B2) ⟨hR, kR⟩).of (bx' := bx) fun t ht => by
                simp at ht; subst ht
                exact (hk5 325 (by omega) (by omega)).trans ((hk 325 (by omega)).trans (keep4 325 (by omega)))
              exact ho.out (by simp [D.pureL])
            · obtain ⟨bx0, hm, b27, hk0⟩ := (hh he).melt
              rw [upTo_all] at b27 hm
              refine ⟨bx0, .inr ⟨_, hm⟩, fun s h1 h2 => (hk0 s h1 (by omega)).trans (hk5 s h1 h2), ?_⟩
              rw [(hdR he).1, outD_osl, b27]
              exact ⟨_, outB_all _ _ _ _ _ _ (by decide) (by simp) (pure_rls _), .refl _⟩
          refine ⟨bx0, ?_, ?_⟩
          · rcases hm with rfl | ⟨l, h1, h2, h3⟩
            · exact .inl rfl
            · exact .inr ⟨rfl, 327, l, h1, h2, h3⟩
          have b2 := (hlow 2 (by omega) (by omega)).trans ((hk 2 (by omega)).trans g2)
          obtain ⟨rE, hE1, hE2⟩ : ∃ r, outD bx0 dE = some r ∧ Weak r (.sl 5 ((g.entries.map (setE g.cats)).map Entry.d)) := by
            by_cases he : g.entries = []
            · rw [he] at hE ⊢
              have ho := (Cloned.none (bx := B1) ⟨hE, kE⟩).of (bx' := bx0) fun t ht => by
                simp at ht; subst ht
                exact (hlow 305 (by omega) (by omega)).trans ((hk 305 (by omega)).trans ((keep4 305 (by omega)).trans (kR 305 (by omega))))
              exact ho.out (by simp [D.pureL])
            · have b7 := (hlow 307 (by omega) (by omega)).trans (h307 he)
              rw [(hdE he).1, outD_osl, b7]
              exact ⟨_, outB_all _ _ _ _ _ _ (by decide) (by simp) (pure_ent _), .refl _⟩
          simp (maxSteps := 1000000) (disch := omega) only [go_sem, q2, q4, q95, q96, hlt, b2, f1, f2, f3, f4, f5, f6]
          have hu : upd bx0 2 ⟨1, 1, 6, 26, [.agg [.str g.name, .sl 1 (g.cats.map D.str), .str g.start, .int .i64 (num g.cats g.start), dE, dR]]⟩ = bx0 := by
            funext s
            by_cases h : s = 2
            · subst h; rw [upd_same, b2]
            · rw [upd_ne h]
          rw [hu]
          refine ⟨.tup [.agg [.str g.name, .sl 1 (g.cats.map D.str), .str g.start, .int .i64 (num g.cats g.start), rE, rR], .int .i64 0], ?_, weak_tup2 (weak_agg6 (.refl _) (.refl _) (.refl _) (.refl _) hE2 hR2) (.refl _)⟩
          simp only [outD_tup, outD_agg, outL_cons, outL_nil, hE1, hR1]
          simp [go_sem]
theorem resolve_c (g : Gram) (hg : SmG g) : CallsTo Tryz.prog 9 [g.d] (resD (resolveL g)) :=
  (fnB_calls mixed (resolve_d g hg) rfl (by kernel_rfl) rfl).to (fun _ _ h => h) (fun d' bx' ⟨r, h1, h2⟩ => ⟨r, h1, h2⟩)
end Go.V.Ty
