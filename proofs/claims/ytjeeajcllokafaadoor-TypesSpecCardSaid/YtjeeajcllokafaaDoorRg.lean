/-
  Types: the reference's worklist finds what chains lead to; its Resolve is the program's.
-/
import Derived.Test.YtjeeajcllokafaaDoorRf
import Derived.Test.YtjeeajcllokafaaDoorTr
namespace Go.V.Ty
open Go.Proofs Go.RowKit Go.V.Lx Go.V.Gr
set_option linter.unusedSimpArgs false
set_option linter.unusedVariables false
set_option maxRecDepth 100000

inductive Way (rs : List Rule) : Str → Str → Prop where
  | one {a b : Str} (h : Edge rs a b) : Way rs a b
  | more {a b c : Str} (h : Way rs a b) (h2 : Edge rs b c) : Way rs a c
theorem Way.trans {rs : List Rule} {a b c : Str} (h : Way rs a b) (h2 : Way rs b c) : Way rs a c := by
  induction h2 with
  | one h2 => exact .more h h2
  | more _ h3 ih => exact .more ih h3
theorem Way.first {rs : List Rule} {a c : Str} (h : Way rs a c) : ∃ b, Edge rs a b ∧ (b = c ∨ Way rs b c) := by
  induction h with
  | one h => exact ⟨_, h, .inl rfl⟩
  | more _ h2 ih =>
    obtain ⟨b, h3, rfl | h4⟩ := ih
    · exact ⟨_, h3, .inr (.one h2)⟩
    · exact ⟨_, h3, .inr (.more h4 h2)⟩
def targets (rs : List Rule) : List Str := rs.filterMap fun x => (edge x).map (·.2)
/-- what holds of the worklist -/
structure Work (rs : List Rule) (s : Str) (out todo : List Str) : Prop where
  nodup : out.Nodup
  sub : ∀ t ∈ out, t ∈ targets rs
  way : ∀ t ∈ out, Way rs s t
  pend : ∀ c ∈ todo, c = s ∨ c ∈ out
  clos : ∀ c, (c = s ∨ c ∈ out) → c ∉ todo → ∀ d, Edge rs c d → d ∈ out
theorem push_grow (c : Str) : ∀ (l : List Rule) (p : List Str × List Str), ∃ m : List Str, l.foldl (push c) p = (p.1 ++ m, p.2 ++ m) ∧ (p.1.Nodup → (p.1 ++ m).Nodup) ∧ (∀ t ∈ m, ∃ x ∈ l, edge x = some (c, t)) ∧ ∀ x ∈ l, ∀ t, edge x = some (c, t) → t ∈ p.1 ++ m
  | [], p => ⟨[], by simp, by simp, by simp, by simp⟩
  | x :: l, p => by
    obtain ⟨m0, h0, n0, e0, f0⟩ : ∃ m0 : List Str, push c p x = (p.1 ++ m0, p.2 ++ m0) ∧ (p.1.Nodup → (p.1 ++ m0).Nodup) ∧ (∀ t ∈ m0, edge x = some (c, t)) ∧ ∀ t, edge x = some (c, t) → t ∈ p.1 ++ m0 := by
      unfold push
      cases he : edge x with
      | none => exact ⟨[], by simp, by simp, by simp, by simp⟩
      | some q =>
        obtain ⟨a, d⟩ := q
        dsimp only
        by_cases hc : a = c ∧ ¬ d ∈ p.1
        · rw [if_pos hc]
          refine ⟨[d], rfl, fun hn => ?_, by simp [hc.1], fun t ht => ?_⟩
          · rw [List.nodup_append]
            exact ⟨hn, by simp, fun u hu v hv e => by simp at hv; subst hv; subst e; exact hc.2 hu⟩
          · simp at ht; simp [ht.2]
        · rw [if_neg hc]
          refine ⟨[], by simp, by simp, by simp, fun t ht => ?_⟩
          simp only [Option.some.injEq, Prod.mk.injEq] at ht
          have : d ∈ p.1 := Classical.byContradiction fun hn => hc ⟨ht.1, hn⟩
          rw [← ht.2]; simp [this]
    obtain ⟨m, h1, n1, e1, f1⟩ := push_grow c l (push c p x)
    rw [List.foldl_cons, h1, h0]
    rw [h0] at n1 f1
    refine ⟨m0 ++ m, by simp, fun hn => by rw [← List.append_assoc]; exact n1 (n0 hn), fun t ht => ?_, fun y hy t hyt => ?_⟩
    · rcases List.mem_append.1 ht with ht | ht
      · exact ⟨x, by simp, e0 t ht⟩
      · obtain ⟨y, hy, hyt⟩ := e1 t ht
        exact ⟨y, by simp [hy], hyt⟩
    · rw [← List.append_assoc]
      rcases List.mem_cons.1 hy with rfl | hy
      · exact List.mem_append_left _ (f0 t hyt)
      · exact f1 y hy t hyt
theorem nodup_le {α : Type} [DecidableEq α] : ∀ {l m : List α}, l.Nodup → (∀ x ∈ l, x ∈ m) → l.length ≤ m.length
  | [], m, _, _ => by simp
  | x :: l, m, hn, h => by
    simp only [List.nodup_cons] at hn
    have hx := h x (by simp)
    have h2 : ∀ y ∈ l, y ∈ m.erase x := fun y hy => by
      have hne : y ≠ x := by rintro rfl; exact hn.1 hy
      exact (List.mem_erase_of_ne hne).2 (h y (by simp [hy]))
    have := nodup_le hn.2 h2
    rw [List.length_erase_of_mem hx] at this
    have := List.length_pos_of_mem hx
    simp only [List.length_cons]; omega
theorem Work.step {rs : List Rule} {s c : Str} {out todo : List Str} (h : Work rs s out (c :: todo)) : ∃ m, rs.foldl (push c) (out, todo) = (out ++ m, todo ++ m) ∧ Work rs s (out ++ m) (todo ++ m) := by
  obtain ⟨m, h1, h2, h3, h4⟩ := push_grow c rs (out, todo)
  dsimp only at h1 h2 h4
  have hc : c = s ∨ c ∈ out := h.pend c (by simp)
  have hm : ∀ t ∈ m, Edge rs c t := fun t ht => h3 t ht
  refine ⟨m, h1, h2 h.nodup, fun t ht => ?_, fun t ht => ?_, fun d hd => ?_, fun d hd hnt t het => ?_⟩
  · rcases List.mem_append.1 ht with ht | ht
    · exact h.sub t ht
    · obtain ⟨x, hx, hxt⟩ := h3 t ht
      exact List.mem_filterMap.2 ⟨x, hx, by rw [hxt]; rfl⟩
  · rcases List.mem_append.1 ht with ht | ht
    · exact h.way t ht
    · rcases hc with rfl | hc
      · exact .one (hm t ht)
      · exact .more (h.way c hc) (hm t ht)
  · rcases List.mem_append.1 hd with hd | hd
    · rcases h.pend d (by simp [hd]) with h | h
      · exact .inl h
      · exact .inr (List.mem_append_left _ h)
    · exact .inr (List.mem_append_right _ hd)
  · by_cases hdc : d = c
    · subst hdc
      obtain ⟨x, hx, hxt⟩ := het
      exact h4 x hx t hxt
    · have hdo : d = s ∨ d ∈ out := by
        rcases hd with hd | hd
        · exact .inl hd
        · rcases List.mem_append.1 hd with hd | hd
          · exact .inr hd
          · exact (hnt (List.mem_append_right _ hd)).elim
      exact List.mem_append_left _ (h.clos d hdo (by simp [hdc]; exact fun hh => hnt (List.mem_append_left _ hh)) t het)
theorem targets_len (rs : List Rule) : (targets rs).length ≤ rs.length := List.length_filterMap_le _ _
theorem run_work {rs : List Rule} {s : Str} : ∀ (k : Nat) (out todo : List Str), Work rs s out todo → todo.length + rs.length ≤ k + out.length → Work rs s (run rs k (out, todo)) []
  | k, out, [], h, _ => by
    have : run rs k (out, []) = out := by unfold run; rfl
    rw [this]; exact h
  | 0, out, c :: todo, h, hk => by
    have := nodup_le h.nodup h.sub
    have := targets_len rs
    simp at hk; omega
  | k + 1, out, c :: todo, h, hk => by
    obtain ⟨m, h1, h2⟩ := h.step
    rw [run, h1]
    refine run_work k _ _ h2 ?_
    simp at hk ⊢; omega
theorem reach_work (rs : List Rule) (s : Str) : Work rs s (reachL rs s) [] := run_work _ _ _ ⟨.nil, by simp, by simp, by simp, fun c hc hn d he => by
  rcases hc with rfl | hc
  · simp at hn
  · simp at hc⟩ (by simp; omega)
theorem reach_len (rs : List Rule) (s : Str) : (reachL rs s).length ≤ rs.length := Nat.le_trans (nodup_le (reach_work rs s).nodup (reach_work rs s).sub) (targets_len rs)
theorem reach_iff (rs : List Rule) (s t : Str) : t ∈ reachL rs s ↔ Way rs s t := by
  have h := reach_work rs s
  constructor
  · exact h.way t
  · intro hw
    induction hw with
    | one he => exact h.clos _ (.inl rfl) (by simp) _ he
    | more _ he ih => exact h.clos _ (.inr ih) (by simp) _ he
theorem full_way {rs : List Rule} : ∀ (n : Nat) (F : List Str), F.length ≤ n → F ≠ [] → (∀ c ∈ F, ∃ d ∈ F, Edge rs c d) → ∃ c ∈ F, Way rs c c
  | 0, F, hl, hne, _ => (hne (List.eq_nil_of_length_eq_zero (by omega))).elim
  | n + 1, F, hl, hne, h => by
    obtain ⟨c, hc⟩ := List.exists_mem_of_ne_nil F hne
    by_cases hw : Way rs c c
    · exact ⟨c, hc, hw⟩
    · have hd : DecidablePred fun d => Way rs c d := fun _ => Classical.propDecidable _
      obtain ⟨d, hd1, hd2⟩ := h c hc
      have hlt : (F.filter fun d => decide (Way rs c d)).length < F.length := by
        have := List.length_filter_le (fun d => decide (Way rs c d)) F
        by_cases he : (F.filter fun d => decide (Way rs c d)).length = F.length
        · have := List.length_filter_eq_length_iff.1 he c hc
          simp at this; exact (hw this).elim
        · omega
      obtain ⟨e, he, hee⟩ := full_way (rs := rs) n (F.filter fun d => decide (Way rs c d)) (by omega)
        (List.ne_nil_of_mem (a := d) (List.mem_filter.2 ⟨hd1, decide_eq_true (.one hd2)⟩))
        (fun x hx => by
          obtain ⟨hx1, hx2⟩ := List.mem_filter.1 hx
          obtain ⟨y, hy, hxy⟩ := h x hx1
          exact ⟨y, List.mem_filter.2 ⟨hy, decide_eq_true (.more (of_decide_eq_true hx2) hxy)⟩, hxy⟩)
      exact ⟨e, (List.mem_filter.1 he).1, hee⟩
theorem circR_eq {g : Gram} (T : Typed g) : circR g = circB g := by
  rw [Bool.eq_iff_iff, circ_iff, circR, List.any_eq_true]
  have hin : ∀ a b, Edge g.rules a b → a ∈ g.cats ∧ b ∈ g.cats := by
    rintro a b ⟨x, hx, he⟩
    unfold edge at he
    split at he
    · rename_i q hq
      split at he
      · rename_i ht
        simp only [Option.some.injEq, Prod.mk.injEq] at he
        rw [← he.1, ← he.2]
        exact ⟨List.contains_iff_mem.1 (T.rul x hx), List.contains_iff_mem.1 (T.part x hx q (by rw [hq]; simp) ht)⟩
      · cases he
    · cases he
  constructor
  · rintro ⟨c, hc, h⟩
    have hw : Way g.rules c c := (reach_iff _ _ _).1 (List.contains_iff_mem.1 h)
    have hd : DecidablePred fun d => Way g.rules c d ∧ Way g.rules d c := fun _ => Classical.propDecidable _
    refine ⟨g.cats.filter fun d => decide (Way g.rules c d ∧ Way g.rules d c), List.ne_nil_of_mem (a := c) (List.mem_filter.2 ⟨hc, decide_eq_true ⟨hw, hw⟩⟩), fun d hd => any_leads.2 ?_, fun x hx => (List.mem_filter.1 hx).1⟩
    obtain ⟨hd1, hd2⟩ := List.mem_filter.1 hd
    have hd3 := of_decide_eq_true hd2
    obtain ⟨e, he, hec⟩ := hd3.2.first
    refine ⟨e, List.mem_filter.2 ⟨(hin _ _ he).2, decide_eq_true ⟨.more hd3.1 he, ?_⟩⟩, he⟩
    rcases hec with rfl | hec
    · exact hw
    · exact hec
  · rintro ⟨F, h1, h2, h3⟩
    obtain ⟨c, hc, hw⟩ := full_way _ F (Nat.le_refl _) h1 (fun c hc => any_leads.1 (h2 c hc))
    exact ⟨c, h3 c hc, List.contains_iff_mem.2 ((reach_iff _ _ _).2 hw)⟩
theorem free_nil : freeB [] = false := by simp [freeB, nameB]
theorem setGR_eq {g : Gram} (T : Typed g) (hf : g.cats.all freeB = true) (hp : ∀ x ∈ g.rules, x.parts.all (partB g.cats.contains) = true) : setGR g = setG g := by
  have hi : ∀ s, g.cats.contains s = true → idxR g.cats s = num g.cats s := fun s h => by simp only [idxR, num, h, if_true]
  have h1 : g.entries.map (setER g.cats) = g.entries.map (setE g.cats) := List.map_congr_left fun x hx => by simp only [setER, setE, hi _ (T.ent x hx)]
  have hnil : ¬ g.cats.contains [] = true := fun h => by
    have := List.all_eq_true.1 hf [] (List.contains_iff_mem.1 h)
    rw [free_nil] at this; cases this
  have h2 : g.rules.map (setRR g.cats) = g.rules.map (setR g.cats) := List.map_congr_left fun x hx => by
    have hps : x.parts.map (setPR g.cats) = x.parts.map (setP g.cats) := List.map_congr_left fun q hq => by
      have hpq := List.all_eq_true.1 (hp x hx) q hq
      by_cases ht : q.text = []
      · have hc := T.part x hx q hq ht
        obtain ⟨k, hk, _⟩ := num_at hc
        simp only [setPR, setP, ht, if_true, hi _ hc]
        congr 1; omega
      · simp [partB, ht] at hpq
        simp only [setPR, setP, ht, if_false, hpq.1, idxR, hnil]
        rfl
    simp only [setRR, setR, hi _ (T.rul x hx), hps]
  simp only [setGR, setG, h1, h2, hi _ T.start]
theorem resolveR_eq (g : Gram) : resolveR g = resolveL g := by
  unfold resolveR resolveL
  split
  · rfl
  · rw [typedR_eq]
    by_cases hn : g.cats.Nodup
    · cases ht : typedB g.cats.contains g
      · simp [hn]
      · have T := typed_of ht
        have h1 : g.cats.all freeB = true := by
          simp only [typedB, Bool.and_eq_true] at ht; exact ht.2.2.1
        have h2 : ∀ x ∈ g.rules, x.parts.all (partB g.cats.contains) = true := fun x hx => by
          simp only [typedB, Bool.and_eq_true, List.all_eq_true] at ht
          have := ht.2.2.2.2.2 x hx
          simp only [ruleB, Bool.and_eq_true] at this
          exact this.2.2.2.2.1
        simp [hn, circR_eq T, setGR_eq T h1 h2]
    · simp [hn]
end Go.V.Ty
