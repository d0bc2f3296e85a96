/-
  Types: bare.
-/
import Derived.Test.YtgcbdhnkigmfpaaGreatDoorTn
namespace Go.V.Ty
open Go.Proofs Go.RowKit Go.V.Lx Go.V.Gr
set_option linter.unusedSimpArgs false
set_option linter.unusedVariables false
set_option maxRecDepth 100000

def bareE (n : Int) (x : Entry) : Entry := { x with no := n }
def bareP (n : Int) (x : Part) : Part := { x with no := n }
def bareR (n : Int) (x : Rule) : Rule := { x with no := n, parts := x.parts.map (bareP n) }
def bareG (g : Gram) (n : Int) : Gram := { g with no := n, entries := g.entries.map (bareE n), rules := g.rules.map (bareR n) }
theorem take_map {α β : Type} {f : α → β} {l : List α} {k : Nat} {x : α} (h : l[k]? = some x) : (l.map f).take (k + 1) = (l.map f).take k ++ [f x] := by
  rw [List.take_add_one, List.getElem?_map, h]; rfl
theorem elems_one {bx : Bxs} {t e esz ty : Nat} {d : D} (h : bx t = ⟨e, 1, esz, ty, [d]⟩) : elemsD bx esz (.osl t e esz 0 1) = some [d] := by
  simp [elemsD, h, lv]
theorem bare_d (g : Gram) (n : Int) (he : g.entries.length ≤ 65536) (hr : g.rules.length ≤ 65536) (hp : ∀ x ∈ g.rules, x.parts.length ≤ 65536) :
    fnB Tryz.prog (orac Tryz.prog) [(1000062, [])] Tryz.f7 0 [g.d, .int .i64 n] (fun _ => .none) (fun d bx' => ∃ r, outD bx' d = some r ∧ Weak r (bareG g n).d) (fun _ _ => False) := by
  refine fnB_intro _ [.cell 4 26] 67 rfl rfl rfl (by kernel_rfl) ?_
  simp (maxSteps := 1000000) (disch := omega) only [go_sem, Gram.d, strs]
  refine cD_for g.entries.length (fun j σ bx => σ 1 = .int .i64 n ∧ σ 2 = .loc 2 1 0 0 ∧ σ 4 = .loc 4 1 0 0 ∧ σ 5 = .loc 5 1 0 0 ∧ σ 19 = .sl 5 (g.entries.map Entry.d) ∧ σ 20 = .int .i64 g.entries.length ∧ σ 21 = .int .i64 j ∧ bx 2 = ⟨1, 1, 6, 26, [g.d]⟩ ∧ bx 4 = ⟨1, 1, 6, 26, [zeroG]⟩ ∧
    ∃ x, bx 5 = ⟨1, 1, 6, 26, [.agg [.str g.name, strs g.cats, .str g.start, .int .i64 n, x, .nilsl]]⟩ ∧ OwnV bx [31] 44 5 x (((g.entries.map (bareE n)).take j).map Entry.d)) ?_ ?_ ?_
  · simp (maxSteps := 1000000) (disch := omega) only [go_sem, Gram.d, strs, zeroG]
    exact ⟨_, rfl, by simpa using OwnV.nil _ _ _ _⟩
  · rintro j σ bx hj ⟨q1, q2, q4, q5, q19, q20, q21, b2, b4, x', b5, ov⟩
    obtain ⟨x, hx⟩ := get_lt hj
    have hlt : (j : Int) < (g.entries.length : Int) := by omega
    have hj1 : IntKind.i64.wrap ((j : Int) + 1) = ((j + 1 : Nat) : Int) := wrap_succ (by omega)
    obtain ⟨v1, v2, v3⟩ := ov.facts
    simp (maxSteps := 1000000) (disch := omega) only [go_sem, q1, q2, q4, q5, q19, q20, q21, b2, b4, b5, hlt, hx, Entry.d, strs, v1, v2, v3]
    refine append_all (ov.of (by simp [upd])) (by simp [go_sem]) (by simp; omega) (by omega) (by omega) (by omega) fun y bx' h1 h2 => ?_
    obtain ⟨v1, v2, v3⟩ := h1.facts
    have c2 := (h2 2 (by omega)).trans ((upd_ne (by omega)).trans ((upd_ne (by omega)).trans ((upd_ne (by omega)).trans b2)))
    have c4 := (h2 4 (by omega)).trans ((upd_ne (by omega)).trans ((upd_ne (by omega)).trans ((upd_ne (by omega)).trans b4)))
    have c5 := (h2 5 (by omega)).trans ((upd_ne (by omega)).trans ((upd_ne (by omega)).trans ((upd_ne (by omega)).trans b5)))
    simp (maxSteps := 1000000) (disch := omega) only [go_sem, q1, q2, q4, q5, q19, q20, q21, c2, c4, c5, v1, v2, v3, hj1, strs]
    rw [take_map hx, List.map_append]
    exact ⟨y, rfl, h1.of (by simp [upd])⟩
  · rintro σ bx ⟨q1, q2, q4, q5, q19, q20, q21, b2, b4, x', b5, ov⟩
    have hlt : ¬ (g.entries.length : Int) < (g.entries.length : Int) := by omega
    rw [List.take_of_length_le (by simp)] at ov
    simp (maxSteps := 1000000) (disch := omega) only [go_sem, q1, q2, q4, q5, q19, q20, q21, b2, hlt, Gram.d, strs]
    clear hlt
    refine cD_forM g.rules.length (fun j σ bx => σ 1 = .int .i64 n ∧ σ 2 = .loc 2 1 0 0 ∧ σ 4 = .loc 4 1 0 0 ∧ σ 5 = .loc 5 1 0 0 ∧ σ 35 = .sl 5 (g.rules.map Rule.d) ∧ σ 36 = .int .i64 g.rules.length ∧ σ 37 = .int .i64 j ∧ bx 4 = ⟨1, 1, 6, 26, [zeroG]⟩ ∧
      ∃ x y, bx 5 = ⟨1, 1, 6, 26, [.agg [.str g.name, strs g.cats, .str g.start, .int .i64 n, x, y]]⟩ ∧ OwnV bx [31] 44 5 x ((g.entries.map (bareE n)).map Entry.d) ∧ Hoard 63 55 42 y (((g.rules.map (bareR n)).take j).map Rule.d) bx) ?_ ?_ ?_
    · simp (maxSteps := 1000000) (disch := omega) only [go_sem, q1, q2, q4, q5, b4, b5, strs]
      exact ⟨x', .nilsl, rfl, ov, .inl ⟨rfl, by simp⟩⟩
    · rintro j σ bx hj ⟨q1, q2, q4, q5, q35, q36, q37, b4, x', y, b5, ov, hh⟩
      obtain ⟨x, hx⟩ := get_lt hj
      obtain ⟨bx0, hm, hk0, l, ol, hw, hpl⟩ := hh.melt (by decide)
      refine ⟨bx0, ?_, ?_⟩
      · rcases hm with rfl | ⟨l, h1, h2, h3⟩
        · exact .inl rfl
        · exact .inr ⟨rfl, 63, l, h1, h2, h3⟩
      clear hm hh
      replace b4 := (hk0 4 (by omega) (by omega)).trans b4
      replace b5 := (hk0 5 (by omega) (by omega)).trans b5
      replace ov := ov.of (bx' := bx0) fun q hq => hk0 q (by simp at hq; omega) (by simp at hq; omega)
      have hlt : (j : Int) < (g.rules.length : Int) := by omega
      have hj1 : IntKind.i64.wrap ((j : Int) + 1) = ((j + 1 : Nat) : Int) := wrap_succ (by omega)
      have hxp := hp x (List.mem_of_getElem? hx)
      obtain ⟨v1, v2, v3⟩ := ol.facts
      simp (maxSteps := 1000000) (disch := omega) only [go_sem, q1, q2, q4, q5, q35, q36, q37, hlt, hx, Rule.d]
      obtain ⟨e9, he9⟩ : ∃ e9, (bx0 9).ep + 1 = e9 := ⟨_, rfl⟩
      rw [he9]
      refine cD_for x.parts.length (fun i σ bx => σ 1 = .int .i64 n ∧ σ 2 = .loc 2 1 0 0 ∧ σ 4 = .loc 4 1 0 0 ∧ σ 5 = .loc 5 1 0 0 ∧ σ 35 = .sl 5 (g.rules.map Rule.d) ∧ σ 36 = .int .i64 g.rules.length ∧ σ 37 = .int .i64 j ∧ σ 9 = .loc 9 e9 0 0 ∧ σ 44 = .sl 3 (x.parts.map Part.d) ∧ σ 45 = .int .i64 x.parts.length ∧ σ 46 = .int .i64 i ∧
        bx 9 = ⟨e9, 1, 5, 42, [.agg [.str x.cat, .int .i64 n, .sl 3 (x.parts.map Part.d), .sl 2 (x.gives.map Give.d), .int .i64 x.cost]]⟩ ∧ (∀ q, q ≠ 9 → q ≠ 12 → q ≠ 55 → bx q = bx0 q) ∧ OwnV bx [55] 46 3 (σ 10) (((x.parts.map (bareP n)).take i).map Part.d)) ?_ ?_ ?_
      · simp (maxSteps := 1000000) (disch := omega) only [go_sem, q1, q2, q4, q5, q35, q36, q37, he9]
        exact ⟨fun q h1 h2 h3 => by simp [h1], by simpa using OwnV.nil _ _ _ _⟩
      · rintro i σ bx hi ⟨q1, q2, q4, q5, q35, q36, q37, q9, q44, q45, q46, b9, hkb, op⟩
        obtain ⟨y, hy⟩ := get_lt hi
        have hlt : (i : Int) < (x.parts.length : Int) := by omega
        have hi1 : IntKind.i64.wrap ((i : Int) + 1) = ((i + 1 : Nat) : Int) := wrap_succ (by omega)
        generalize hp' : σ 10 = p' at op
        simp (maxSteps := 1000000) (disch := omega) only [go_sem, q1, q2, q4, q5, q35, q36, q37, q9, q44, q45, q46, hlt, hy, Part.d, hp']
        refine append_all (op.of (by simp [upd])) (by simp [go_sem]) (by simp; omega) (by omega) (by omega) (by omega) fun z bx' h1 h2 => ?_
        simp (maxSteps := 1000000) (disch := omega) only [go_sem, q1, q2, q4, q5, q35, q36, q37, q9, q44, q45, q46, hi1]
        refine ⟨(h2 9 (by omega)).trans (by simp [upd, b9]), fun q g1 g2 g3 => (h2 q g3).trans (by simp (disch := omega) only [upd_ne]; exact hkb q g1 g2 g3), ?_⟩
        rw [take_map hy, List.map_append]
        exact h1
      · rintro σ bx ⟨q1, q2, q4, q5, q35, q36, q37, q9, q44, q45, q46, b9, hkb, op⟩
        have hlt : ¬ (x.parts.length : Int) < (x.parts.length : Int) := by omega
        rw [List.take_of_length_le (by simp)] at op
        generalize hp' : σ 10 = p' at op
        have c5 := (hkb 5 (by omega) (by omega) (by omega)).trans b5
        obtain ⟨w1, w2, w3⟩ := op.facts
        simp (maxSteps := 1000000) (disch := omega) only [go_sem, q1, q2, q4, q5, q35, q36, q37, q9, q44, q45, q46, b9, hlt, hp', w1, w2, w3, c5, v1, v2, v3]
        rw [elems_one (upd_same _ _ _)]
        simp only [Option.bind_some]
        have hll := hw.len
        simp at hll
        refine append_own (ts := [63]) (xs := l) (ol.of fun q hq => by simp at hq; subst hq; exact (upd_ne (by omega)).trans ((upd_ne (by omega)).trans (hkb 63 (by omega) (by omega) (by omega)))) (by simp) (by simp [go_sem]) (by simp; omega) (by omega) (by omega) (by simp) fun e' bx' h1 h2 => ?_
        have k5 := (h2 5 (by omega) (by simp)).trans ((upd_ne (by omega)).trans ((upd_ne (by omega)).trans c5))
        have k4 := (h2 4 (by omega) (by simp)).trans ((upd_ne (by omega)).trans ((upd_ne (by omega)).trans ((hkb 4 (by omega) (by omega) (by omega)).trans b4)))
        have k31 := (h2 31 (by omega) (by simp)).trans ((upd_ne (by omega)).trans ((upd_ne (by omega)).trans (hkb 31 (by omega) (by omega) (by omega))))
        have k55 := (h2 55 (by omega) (by simp)).trans ((upd_ne (by omega)).trans (upd_ne (by omega)))
        simp (maxSteps := 1000000) (disch := omega) only [go_sem, q1, q2, q4, q5, q35, q36, q37, k5, k4, hj1, strs]
        generalize hB : upd bx' 5 _ = B
        have m55 : B 55 = bx 55 := by rw [← hB]; exact (upd_ne (by omega)).trans k55
        have m31 : B 31 = bx0 31 := by rw [← hB]; exact (upd_ne (by omega)).trans k31
        have m63 : B 63 = bx' 63 := by rw [← hB]; exact upd_ne (by omega)
        rw [h1] at m63
        clear hB
        refine ⟨x', _, rfl, ov.of fun q hq => by simp at hq; subst hq; exact m31, ?_⟩
        rw [take_map hx, List.map_append]
        obtain ⟨r, hr1, hr2, hr3⟩ := out_weak (op.of (bx' := B) fun q hq => by simp at hq; subst hq; exact m55) (pure_part _) (.refl _)
        refine Hoard.add (d' := .agg [.str x.cat, .int .i64 n, r, .sl 2 (x.gives.map Give.d), .int .i64 x.cost]) hw hpl m63 ?_ (by simp [D.pure, D.pureL, hr3, pure_give]) rfl ?_ ?_
        · simp only [outD_agg, outL_cons, outL_nil, hr1]
          simp [go_sem]
        · intro k c c' hc hc'
          match k with
          | 0 => simp [D.cells, bareR, Rule.d] at hc hc'; subst hc; subst hc'; exact .refl _
          | 1 => simp [D.cells, bareR, Rule.d] at hc hc'; subst hc; subst hc'; exact .refl _
          | 2 => simp [D.cells, bareR, Rule.d] at hc hc'; subst hc; subst hc'; simpa using hr2
          | 3 => simp [D.cells, bareR, Rule.d] at hc hc'; subst hc; subst hc'; exact .refl _
          | 4 => simp [D.cells, bareR, Rule.d] at hc hc'; subst hc; subst hc'; exact .refl _
          | k + 5 => simp [D.cells] at hc
        · intro q hq
          simp only [names, namesL, List.mem_append, List.not_mem_nil, false_or, or_false] at hq
          have := OwnV.names op q hq
          simpa using this
    · rintro σ bx ⟨q1, q2, q4, q5, q35, q36, q37, b4, x', y, b5, ov, hh⟩
      have hlt : ¬ (g.rules.length : Int) < (g.rules.length : Int) := by omega
      obtain ⟨bx0, hm, hk0, l, ol, hw, hpl⟩ := hh.melt (by decide)
      refine ⟨bx0, ?_, ?_⟩
      · rcases hm with rfl | ⟨l, h1, h2, h3⟩
        · exact .inl rfl
        · exact .inr ⟨rfl, 63, l, h1, h2, h3⟩
      clear hm hh
      replace b4 := (hk0 4 (by omega) (by omega)).trans b4
      replace b5 := (hk0 5 (by omega) (by omega)).trans b5
      replace ov := ov.of (bx' := bx0) fun q hq => hk0 q (by simp at hq; omega) (by simp at hq; omega)
      obtain ⟨v1, v2, v3⟩ := ol.facts
      obtain ⟨w1, w2, w3⟩ := ov.facts
      rw [List.take_of_length_le (by simp)] at hw
      simp (maxSteps := 1000000) (disch := omega) only [go_sem, q1, q2, q4, q5, q35, q36, q37, hlt, b4, b5, v1, v2, v3, w1, w2, w3, zeroG, strs]
      obtain ⟨rE, hE1, hE2, -⟩ := out_weak (ov.of (bx' := upd bx0 4 ⟨1, 1, 6, 26, [.agg [.str g.name, .sl 1 (g.cats.map D.str), .str g.start, .int .i64 n, x', y]]⟩) fun q hq => by simp at hq; subst hq; exact upd_ne (by omega)) (pure_ent _) (.refl _)
      obtain ⟨rR, hR1, hR2, -⟩ := out_weak (ol.of (bx' := upd bx0 4 ⟨1, 1, 6, 26, [.agg [.str g.name, .sl 1 (g.cats.map D.str), .str g.start, .int .i64 n, x', y]]⟩) fun q hq => by simp at hq; subst hq; exact upd_ne (by omega)) hpl hw
      refine ⟨.agg [.str g.name, .sl 1 (g.cats.map D.str), .str g.start, .int .i64 n, rE, rR], ?_, weak_agg6 (.refl _) (.refl _) (.refl _) (.refl _) hE2 hR2⟩
      simp only [outD_agg, outL_cons, outL_nil, hE1, hR1]
      simp [go_sem]
theorem bare_c (g : Gram) (n : Int) (he : g.entries.length ≤ 65536) (hr : g.rules.length ≤ 65536) (hp : ∀ x ∈ g.rules, x.parts.length ≤ 65536) : CallsTo Tryz.prog 7 [g.d, .int .i64 n] (bareG g n).d :=
  (fnB_calls mixed (bare_d g n he hr hp) rfl (by kernel_rfl) rfl).to (fun _ _ h => h) (fun d' bx' ⟨r, h1, h2⟩ => ⟨r, h1, h2⟩)
end Go.V.Ty
