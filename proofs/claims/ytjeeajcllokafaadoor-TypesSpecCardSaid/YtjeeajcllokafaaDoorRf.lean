/-
  Types: the reference's Resolve, given what reach comes to.
-/
import Derived.Test.YtjeeajcllokafaaDoorRd
namespace Go.V.Ty
open Go.Proofs Go.RowKit Go.V.Lx Go.V.Gr
set_option linter.unusedSimpArgs false
set_option linter.unusedVariables false
set_option maxRecDepth 100000

/-- the reference's worklist -/
def push (c : Str) (p : List Str × List Str) (x : Rule) : List Str × List Str := match edge x with
  | some (a, d) => if a = c ∧ ¬ d ∈ p.1 then (p.1 ++ [d], p.2 ++ [d]) else p
  | none => p
def run (rs : List Rule) : Nat → List Str × List Str → List Str
  | _, (out, []) => out
  | 0, (out, _) => out
  | k + 1, (out, c :: todo) => run rs k (rs.foldl (push c) (out, todo))
def reachL (rs : List Rule) (s : Str) : List Str := run rs (rs.length + 1) ([], [s])
def circR (g : Gram) : Bool := g.cats.any fun c => (reachL g.rules c).contains c
def setER (l : List Str) (x : Entry) : Entry := { x with no := idxR l x.cat }
def setPR (l : List Str) (q : Part) : Part := { q with no := max 0 (idxR l q.cat) }
def setRR (l : List Str) (x : Rule) : Rule := { x with no := idxR l x.cat, parts := x.parts.map (setPR l) }
def setGR (g : Gram) : Gram := { g with no := idxR g.cats g.start, entries := g.entries.map (setER g.cats), rules := g.rules.map (setRR g.cats) }
def resolveR (g : Gram) : Gram × Int :=
  if 32 < g.cats.length ∨ 512 < g.entries.length ∨ 128 < g.rules.length then (.zero, 2)
  else if typedR g = false then (.zero, 260)
  else if circR g = true then (.zero, 261) else (setGR g, 0)
def ReachOk : Prop := ∀ (g : Gram) (s : Str), SmG g → g.rules.length ≤ 128 → small s → CallsTo Tryd.prog 27 [g.d, .str s] (strs (reachL g.rules s))
set_option maxHeartbeats 8000000 in
theorem resolveR_d (hre : ReachOk) (hlen : ∀ (g : Gram) s, g.rules.length ≤ 128 → (reachL g.rules s).length ≤ 128) (g : Gram) (hg : SmG g) (hpl : ∀ x ∈ g.rules, x.parts.length ≤ 65536) : fnB Tryd.prog (orac Tryd.prog) [(1000143, []), (8, [(7, 5), (7, 2)])] Tryd.f11 0 [g.d] (fun _ => .none) (Res (resolveR g)) (fun _ _ => False) := by
  refine fnB_intro _ [.cell 2 26, .tmp 3] 147 rfl rfl rfl (by kernel_rfl) ?_
  have hgd : g.d = .agg [.str g.name, .sl 1 (g.cats.map D.str), .str g.start, .int .i64 g.no, .sl 5 (g.entries.map Entry.d), .sl 5 (g.rules.map Rule.d)] := rfl
  have hcl := hg.clen
  simp (maxSteps := 1000000) (disch := omega) only [go_sem, hgd]
  by_cases hlim : 32 < g.cats.length ∨ 512 < g.entries.length ∨ 128 < g.rules.length
  · have hr : resolveR g = (.zero, 2) := by unfold resolveR; rw [if_pos hlim]
    rw [hr]
    by_cases l1 : (32 : Int) < (g.cats.length : Int)
    · simp (maxSteps := 1000000) (disch := omega) only [go_sem, l1, decide_true]
      exact res_zero _ _
    by_cases l2 : (512 : Int) < (g.entries.length : Int)
    · simp (maxSteps := 1000000) (disch := omega) only [go_sem, l1, l2, decide_true, decide_false]
      exact res_zero _ _
    have l3 : (128 : Int) < (g.rules.length : Int) := by omega
    simp (maxSteps := 1000000) (disch := omega) only [go_sem, l1, l2, l3, decide_true, decide_false]
    exact res_zero _ _
  have l1 : ¬ (32 : Int) < (g.cats.length : Int) := by omega
  have l2 : ¬ (512 : Int) < (g.entries.length : Int) := by omega
  have l3 : ¬ (128 : Int) < (g.rules.length : Int) := by omega
  simp (maxSteps := 1000000) (disch := omega) only [go_sem, l1, l2, l3, decide_false, hgd]
  refine call_pure (typedR_c g hg) (pg g) ?_
  cases ht : typedR g
  · have hr : resolveR g = (.zero, 260) := by unfold resolveR; rw [if_neg hlim, if_pos ht]
    rw [hr]
    simp (maxSteps := 1000000) (disch := omega) only [go_sem, Bool.not_false]
    exact res_zero _ _
  simp (maxSteps := 1000000) (disch := omega) only [go_sem, Bool.not_true]
  refine cD_for g.cats.length (fun i σ bx => σ 1 = .loc 1 1 0 0 ∧ σ 2 = .loc 2 1 0 0 ∧ σ 4 = .int .i64 i ∧ bx 1 = ⟨1, 1, 6, 26, [g.d]⟩ ∧ bx 2 = ⟨1, 1, 6, 26, [zeroG]⟩ ∧ (g.cats.take i).any (fun c => (reachL g.rules c).contains c) = false) ?_ ?_ ?_
  · simp (maxSteps := 1000000) (disch := omega) only [go_sem, hgd, zeroG, List.take_zero, List.any_nil]
  · rintro i σ bx hi ⟨q1, q2, q4, b1, b2, hb⟩
    obtain ⟨y, hy⟩ := get_lt hi
    have hlt : (i : Int) < (g.cats.length : Int) := by omega
    have hi1 : IntKind.i64.wrap ((i : Int) + 1) = ((i + 1 : Nat) : Int) := wrap_succ (by omega)
    simp (maxSteps := 1000000) (disch := omega) only [go_sem, q1, q2, q4, hlt, b1, hgd, hy]
    refine call_pure (hre g y hg (by omega) (hg.cats y (List.mem_of_getElem? hy))) (pgs g y) ?_
    simp (maxSteps := 1000000) (disch := omega) only [go_sem, q1, q2, q4, hlt, b1, hgd, hy]
    refine call_pure (indexR_c (reachL g.rules y) y (by have := hlen g y (by omega); omega)) (by simp [go_sem, strs, pureL_strs]) ?_
    simp (maxSteps := 1000000) (disch := omega) only [go_sem, idxR_ge]
    cases hc : (reachL g.rules y).contains y
    · simp (maxSteps := 1000000) (disch := omega) only [go_sem, hc, q1, q2, q4, hi1, b1, b2, hgd]
      rw [List.take_add_one, hy, List.any_append, hb]
      simp only [Option.toList_some, List.any_cons, hc, List.any_nil, Bool.or_false]
    · have hr : resolveR g = (.zero, 261) := by
        have : circR g = true := by rw [circR, List.any_eq_true]; exact ⟨y, List.mem_of_getElem? hy, hc⟩
        unfold resolveR; rw [if_neg hlim, if_neg (by simp [ht]), if_pos this]
      rw [hr]
      simp (maxSteps := 1000000) (disch := omega) only [go_sem, hc, q2, b2, zeroG]
      exact res_zero _ _
  · rintro σ bx ⟨q1, q2, q4, b1, b2, hb⟩
    have hlt : ¬ (g.cats.length : Int) < (g.cats.length : Int) := by omega
    rw [List.take_length] at hb
    have hr : resolveR g = (setGR g, 0) := by
      have : circR g = false := hb
      unfold resolveR; rw [if_neg hlim, if_neg (by simp [ht]), if_neg (by simp [this])]
    rw [hr]
    simp (maxSteps := 1000000) (disch := omega) only [go_sem, q1, q2, q4, hlt, b1, b2, hgd]
    refine call_pure (indexR_c g.cats g.start hcl) (by simp [go_sem, strs, pureL_strs]) ?_
    simp (maxSteps := 1000000) (disch := omega) only [go_sem, q1, q2, q4]
    generalize hE5 : (bx 5).ep + 1 = E5
    refine cD_for g.entries.length (fun j σ bx => σ 1 = .loc 1 1 0 0 ∧ σ 2 = .loc 2 1 0 0 ∧ σ 5 = .loc 5 E5 0 0 ∧ σ 6 = .int .i64 j ∧ bx 1 = ⟨1, 1, 6, 26, [g.d]⟩ ∧ bx 2 = ⟨1, 1, 6, 26, [zeroG]⟩ ∧
      ∃ x, bx 5 = ⟨E5, 1, 6, 26, [.agg [.str g.name, .sl 1 (g.cats.map D.str), .str g.start, .int .i64 (idxR g.cats g.start), x, .nilsl]]⟩ ∧ OwnV bx [86] 36 5 x (((g.entries.map (setER g.cats)).take j).map Entry.d)) ?_ ?_ ?_
    · simp (maxSteps := 1000000) (disch := omega) only [go_sem, q1, q2, b1, b2, hE5, hgd]
      exact ⟨.nilsl, rfl, by simpa using OwnV.nil _ _ _ _⟩
    · rintro j σ bx hj ⟨q1, q2, q5, q6, b1, b2, x', b5, ov⟩
      obtain ⟨x, hx⟩ := get_lt hj
      have hlt : (j : Int) < (g.entries.length : Int) := by omega
      have hj1 : IntKind.i64.wrap ((j : Int) + 1) = ((j + 1 : Nat) : Int) := wrap_succ (by omega)
      have hxd : x.d = .agg [.str x.text, .str x.cat, .int .i64 x.no, .sl 1 (x.gives.map D.str), .int .i64 x.cost] := rfl
      obtain ⟨v1, v2, v3⟩ := ov.facts
      simp (maxSteps := 1000000) (disch := omega) only [go_sem, q1, q2, q5, q6, hlt, b1, hgd, hx, hxd]
      refine call_pure (indexR_c g.cats x.cat hcl) (by simp [go_sem, strs, pureL_strs]) ?_
      simp (maxSteps := 1000000) (disch := omega) only [go_sem, q1, q2, q5, q6, b5, v1, v2, v3]
      refine append_all (ov.of (by simp [upd])) (by simp [go_sem]) (by simp; omega) (by omega) (by omega) (by omega) fun y bx' h1 h2 => ?_
      obtain ⟨v1, v2, v3⟩ := h1.facts
      have c1 := (h2 1 (by omega)).trans ((upd_ne (by omega)).trans ((upd_ne (by omega)).trans ((upd_ne (by omega)).trans b1)))
      have c2 := (h2 2 (by omega)).trans ((upd_ne (by omega)).trans ((upd_ne (by omega)).trans ((upd_ne (by omega)).trans b2)))
      have c5 := (h2 5 (by omega)).trans ((upd_ne (by omega)).trans ((upd_ne (by omega)).trans ((upd_ne (by omega)).trans b5)))
      simp (maxSteps := 1000000) (disch := omega) only [go_sem, q1, q2, q5, q6, c1, c2, c5, v1, v2, v3, hj1]
      rw [take_map hx, List.map_append]
      exact ⟨y, rfl, h1.of (by simp [upd])⟩
    · rintro σ bx ⟨q1, q2, q5, q6, b1, b2, x', b5, ov⟩
      have hlt : ¬ (g.entries.length : Int) < (g.entries.length : Int) := by omega
      rw [List.take_of_length_le (by simp)] at ov
      simp (maxSteps := 1000000) (disch := omega) only [go_sem, q1, q2, q5, q6, b1, hlt, hgd]
      clear hlt
      refine cD_forM g.rules.length (fun j σ bx => σ 1 = .loc 1 1 0 0 ∧ σ 2 = .loc 2 1 0 0 ∧ σ 5 = .loc 5 E5 0 0 ∧ σ 8 = .int .i64 j ∧ bx 1 = ⟨1, 1, 6, 26, [g.d]⟩ ∧ bx 2 = ⟨1, 1, 6, 26, [zeroG]⟩ ∧
        ∃ x y, bx 5 = ⟨E5, 1, 6, 26, [.agg [.str g.name, .sl 1 (g.cats.map D.str), .str g.start, .int .i64 (idxR g.cats g.start), x, y]]⟩ ∧ OwnV bx [86] 36 5 x ((g.entries.map (setER g.cats)).map Entry.d) ∧ Hoard 144 138 40 y (((g.rules.map (setRR g.cats)).take j).map Rule.d) bx) ?_ ?_ ?_
      · simp (maxSteps := 1000000) (disch := omega) only [go_sem, q1, q2, q5, hgd]
        exact ⟨b1, b2, x', .nilsl, b5, ov, .inl ⟨rfl, by simp⟩⟩
      · rintro j σ bx hj ⟨q1, q2, q5, q8, b1, b2, x', y, b5, ov, hh⟩
        obtain ⟨x, hx⟩ := get_lt hj
        obtain ⟨bx0, hm, hk0, l, ol, hw, hpp⟩ := hh.melt (by decide)
        refine ⟨bx0, ?_, ?_⟩
        · rcases hm with rfl | ⟨l, h1, h2, h3⟩
          · exact .inl rfl
          · exact .inr ⟨rfl, 144, l, h1, h2, h3⟩
        clear hm hh
        replace b1 := (hk0 1 (by omega) (by omega)).trans b1
        replace b2 := (hk0 2 (by omega) (by omega)).trans b2
        replace b5 := (hk0 5 (by omega) (by omega)).trans b5
        replace ov := ov.of (bx' := bx0) fun q hq => hk0 q (by simp at hq; omega) (by simp at hq; omega)
        have hlt : (j : Int) < (g.rules.length : Int) := by omega
        have hj1 : IntKind.i64.wrap ((j : Int) + 1) = ((j + 1 : Nat) : Int) := wrap_succ (by omega)
        have hxp := hpl x (List.mem_of_getElem? hx)
        have hxd : x.d = .agg [.str x.cat, .int .i64 x.no, .sl 3 (x.parts.map Part.d), .sl 2 (x.gives.map Give.d), .int .i64 x.cost] := rfl
        obtain ⟨v1, v2, v3⟩ := ol.facts
        simp (maxSteps := 1000000) (disch := omega) only [go_sem, q1, q2, q5, q8, hlt, b1, hgd, hx, hxd]
        refine call_pure (indexR_c g.cats x.cat hcl) (by simp [go_sem, strs, pureL_strs]) ?_
        simp (maxSteps := 1000000) (disch := omega) only [go_sem, q1, q2, q5, q8, b1, hgd]
        generalize hE9 : (bx0 9).ep + 1 = E9
        refine cD_for x.parts.length (fun i σ bx => σ 1 = .loc 1 1 0 0 ∧ σ 2 = .loc 2 1 0 0 ∧ σ 5 = .loc 5 E5 0 0 ∧ σ 8 = .int .i64 j ∧ σ 9 = .loc 9 E9 0 0 ∧ σ 10 = .int .i64 i ∧ (∀ q, q ≠ 9 → q ≠ 11 → q ≠ 138 → bx q = bx0 q) ∧
          ∃ p', bx 9 = ⟨E9, 1, 5, 40, [.agg [.str x.cat, .int .i64 (idxR g.cats x.cat), p', .sl 2 (x.gives.map Give.d), .int .i64 x.cost]]⟩ ∧ OwnV bx [138] 42 3 p' (((x.parts.map (setPR g.cats)).take i).map Part.d)) ?_ ?_ ?_
        · simp (maxSteps := 1000000) (disch := omega) only [go_sem, q1, q2, q5, q8, hE9]
          exact ⟨fun q h1 h2 h3 => by simp [h1], .nilsl, rfl, by simpa using OwnV.nil _ _ _ _⟩
        · rintro i σ bx hi ⟨q1, q2, q5, q8, q9, q10, hkb, p', b9, op⟩
          obtain ⟨q, hq⟩ := get_lt hi
          have hlti : (i : Int) < (x.parts.length : Int) := by omega
          have hi1 : IntKind.i64.wrap ((i : Int) + 1) = ((i + 1 : Nat) : Int) := wrap_succ (by omega)
          have c1 := (hkb 1 (by omega) (by omega) (by omega)).trans b1
          have hqd : q.d = .agg [.str q.cat, .int .i64 q.no, .str q.text] := rfl
          obtain ⟨w1, w2, w3⟩ := op.facts
          simp (maxSteps := 1000000) (disch := omega) only [go_sem, q1, q2, q5, q8, q9, q10, hlt, hlti, c1, hgd, hx, hxd, hq, hqd]
          refine call_pure (indexR_c g.cats q.cat hcl) (by simp [go_sem, strs, pureL_strs]) ?_
          simp (maxSteps := 1000000) (disch := omega) only [go_sem, q1, q2, q5, q8, q9, q10, b9, w1, w2, w3]
          refine append_all (op.of (by simp [upd])) (by simp [go_sem]) (by simp; omega) (by omega) (by omega) (by omega) fun z bx' h1 h2 => ?_
          obtain ⟨w1, w2, w3⟩ := h1.facts
          have d9 := (h2 9 (by omega)).trans ((upd_ne (by omega)).trans ((upd_ne (by omega)).trans ((upd_ne (by omega)).trans b9)))
          simp (maxSteps := 1000000) (disch := omega) only [go_sem, q1, q2, q5, q8, q9, q10, d9, w1, w2, w3, hi1]
          refine ⟨fun r g1 g2 g3 => by rw [if_neg g1]; exact (h2 r g3).trans (by simp (disch := omega) only [upd_ne]; exact hkb r g1 g2 g3), z, rfl, ?_⟩
          rw [take_map hq, List.map_append]
          exact h1.of (by simp [upd])
        · rintro σ bx ⟨q1, q2, q5, q8, q9, q10, hkb, p', b9, op⟩
          have hlti : ¬ (x.parts.length : Int) < (x.parts.length : Int) := by omega
          have c1 := (hkb 1 (by omega) (by omega) (by omega)).trans b1
          have c5 := (hkb 5 (by omega) (by omega) (by omega)).trans b5
          rw [List.take_of_length_le (by simp)] at op
          obtain ⟨w1, w2, w3⟩ := op.facts
          simp (maxSteps := 1000000) (disch := omega) only [go_sem, q1, q2, q5, q8, q9, q10, hlt, hlti, c1, hgd, hx, hxd, b9, c5, v1, v2, v3, w1, w2, w3]
          rw [elems_one (upd_same _ _ _)]
          simp only [Option.bind_some]
          have hll := hw.len
          simp at hll
          refine append_own (ts := [144]) (xs := l) (ol.of fun q hq => by simp at hq; subst hq; exact (upd_ne (by omega)).trans (hkb 144 (by omega) (by omega) (by omega))) (by simp) (by simp [go_sem]) (by simp; omega) (by omega) (by omega) (by simp) fun e' bx' h1 h2 => ?_
          have k5 := (h2 5 (by omega) (by simp)).trans ((upd_ne (by omega)).trans c5)
          have k1 := (h2 1 (by omega) (by simp)).trans ((upd_ne (by omega)).trans c1)
          have k2 := (h2 2 (by omega) (by simp)).trans ((upd_ne (by omega)).trans ((hkb 2 (by omega) (by omega) (by omega)).trans b2))
          have k86 := (h2 86 (by omega) (by simp)).trans ((upd_ne (by omega)).trans (hkb 86 (by omega) (by omega) (by omega)))
          have k138 := (h2 138 (by omega) (by simp)).trans (upd_ne (by omega))
          simp (maxSteps := 1000000) (disch := omega) only [go_sem, q1, q2, q5, q8, k5, k1, k2, hj1]
          generalize hB : upd bx' 5 _ = B
          have m138 : B 138 = bx 138 := by rw [← hB]; exact (upd_ne (by omega)).trans k138
          have m86 : B 86 = bx0 86 := by rw [← hB]; exact (upd_ne (by omega)).trans k86
          have m144 : B 144 = bx' 144 := by rw [← hB]; exact upd_ne (by omega)
          rw [h1] at m144
          clear hB
          refine ⟨x', _, rfl, ov.of fun q hq => by simp at hq; subst hq; exact m86, ?_⟩
          rw [take_map hx, List.map_append]
          obtain ⟨r, hr1, hr2, hr3⟩ := out_weak (op.of (bx' := B) fun q hq => by simp at hq; subst hq; exact m138) (pure_part _) (.refl _)
          refine Hoard.add (d' := .agg [.str x.cat, .int .i64 (idxR g.cats x.cat), r, .sl 2 (x.gives.map Give.d), .int .i64 x.cost]) hw hpp m144 ?_ (by simp [D.pure, D.pureL, hr3, pure_give]) rfl ?_ ?_
          · simp only [outD_agg, outL_cons, outL_nil, hr1]
            simp [go_sem]
          · intro k c c' hc hc'
            match k with
            | 0 => simp [D.cells, setRR, Rule.d] at hc hc'; subst hc; subst hc'; exact .refl _
            | 1 => simp [D.cells, setRR, Rule.d] at hc hc'; subst hc; subst hc'; exact .refl _
            | 2 => simp [D.cells, setRR, Rule.d] at hc hc'; subst hc; subst hc'; simpa using hr2
            | 3 => simp [D.cells, setRR, Rule.d] at hc hc'; subst hc; subst hc'; exact .refl _
            | 4 => simp [D.cells, setRR, Rule.d] at hc hc'; subst hc; subst hc'; exact .refl _
            | k + 5 => simp [D.cells] at hc
          · intro q hq
            simp only [names, namesL, List.mem_append, List.not_mem_nil, false_or, or_false] at hq
            have := OwnV.names op q hq
            simpa using this
      · rintro σ bx ⟨q1, q2, q5, q8, b1, b2, x', y, b5, ov, hh⟩
        have hlt : ¬ (g.rules.length : Int) < (g.rules.length : Int) := by omega
        obtain ⟨bx0, hm, hk0, l, ol, hw, hpp⟩ := hh.melt (by decide)
        refine ⟨bx0, ?_, ?_⟩
        · rcases hm with rfl | ⟨l, h1, h2, h3⟩
          · exact .inl rfl
          · exact .inr ⟨rfl, 144, l, h1, h2, h3⟩
        clear hm hh
        replace b1 := (hk0 1 (by omega) (by omega)).trans b1
        replace b2 := (hk0 2 (by omega) (by omega)).trans b2
        replace b5 := (hk0 5 (by omega) (by omega)).trans b5
        replace ov := ov.of (bx' := bx0) fun q hq => hk0 q (by simp at hq; omega) (by simp at hq; omega)
        obtain ⟨v1, v2, v3⟩ := ol.facts
        obtain ⟨w1, w2, w3⟩ := ov.facts
        rw [List.take_of_length_le (by simp)] at hw
        simp (maxSteps := 1000000) (disch := omega) only [go_sem, q1, q2, q5, q8, hlt, b1, b2, b5, v1, v2, v3, w1, w2, w3, hgd, zeroG]
        obtain ⟨rE, hE1, hE2, -⟩ := out_weak (ov.of (bx' := upd bx0 2 ⟨1, 1, 6, 26, [.agg [.str g.name, .sl 1 (g.cats.map D.str), .str g.start, .int .i64 (idxR g.cats g.start), x', y]]⟩) fun q hq => by simp at hq; subst hq; exact upd_ne (by omega)) (pure_ent _) (.refl _)
        obtain ⟨rR, hR1, hR2, -⟩ := out_weak (ol.of (bx' := upd bx0 2 ⟨1, 1, 6, 26, [.agg [.str g.name, .sl 1 (g.cats.map D.str), .str g.start, .int .i64 (idxR g.cats g.start), x', y]]⟩) fun q hq => by simp at hq; subst hq; exact upd_ne (by omega)) hpp hw
        refine ⟨.tup [.agg [.str g.name, .sl 1 (g.cats.map D.str), .str g.start, .int .i64 (idxR g.cats g.start), rE, rR], .int .i64 0], ?_, weak_tup2 (weak_agg6 (.refl _) (.refl _) (.refl _) (.refl _) hE2 hR2) (.refl _)⟩
        simp only [outD_tup, outD_agg, outL_cons, outL_nil, hE1, hR1]
        simp [go_sem]
end Go.V.Ty
