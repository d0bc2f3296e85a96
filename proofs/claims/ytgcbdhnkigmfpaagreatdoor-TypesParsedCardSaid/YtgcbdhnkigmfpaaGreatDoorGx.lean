/-
  Grammar: the parser's head, entries and rules.
-/
import Derived.Test.YtgcbdhnkigmfpaaGreatDoorGw
namespace Go.V.Gr
open Go.Proofs Go.RowKit Go.V.Lx
set_option linter.unusedSimpArgs false
set_option linter.unusedVariables false
set_option maxRecDepth 100000

variable {bx : Bxs} {l : List Tk} {n e : Nat} {g : G6}
theorem pure_entry (x : Entry) : (Entry.d x).pure = true := by simp [Entry.d, strs, go_sem, pureL_strs]
theorem pure_rule (x : Rule) : (Rule.d x).pure = true := by simp [Rule.d, go_sem, pureL_parts, pureL_gives]
theorem pureL_entries (l : List Entry) : D.pureL (l.map Entry.d) = true := pureL_map _ _ pure_entry
theorem pureL_rules (l : List Rule) : D.pureL (l.map Rule.d) = true := pureL_map _ _ pure_rule
theorem entries_d (hl : l.length ≤ 1000000) (hb : PSt bx e l n g) : fnB Tryz.prog (orac Tryz.prog) [] Tryz.f39 0 [.loc 14 e 0 0] bx (fun d bx' => ∃ es r, some' (isT wWord) entryP l = .ok (es, r) ∧ d = .tup [] ∧ PSt bx' e r n { g with e := .sl 5 (es.map Entry.d) } ∧ Below14 130 bx bx') (ErB (some' (isT wWord) entryP) n 130 bx l) := by
  refine fnB_intro _ [] 11 rfl rfl rfl (by kernel_rfl) ?_
  simp (maxSteps := 1000000) (disch := omega) only [go_sem]
  refine call_boxes (begins_c (bx := bx) (e := e) 130 wWord) rfl ?_
  rintro d bx4 ⟨k4, k5, rfl, b1, b2, b3⟩
  have p4 : PSt bx4 e l n g := (b3 14 (by decide) (by decide)).trans hb
  have fr4 : Below14 130 bx bx4 := fun q q1 q2 => b3 q (by omega) (by omega)
  simp (maxSteps := 1000000) (disch := omega) only [go_sem]
  have hb1 : ∀ (b' : Bxs) (l' : List Tk), JJ e n g bx4 140 b' l' → Ptr b' 132 k4 e ∧ Txt b' 133 k5 wWord := fun b' l' hj => ⟨(hj.2.2 132 (by decide) (by decide)).trans b1, (hj.2.2 133 (by decide) (by decide)).trans b2⟩
  refine call_out (someEnt_c 140 (J := JJ e n g bx4 140) (Z := Below14 140 bx4) (more := isT wWord) (item := entryP) (n := n) (JJ.rests (by decide) (by decide))
    (more_of fun b' l' hj => begins1_c 132 133 k4 k5 wWord (by have := hj.2.1; omega) hj.1 (hb1 b' l' hj).1 (hb1 b' l' hj).2)
    (item_okB (M := 160) fwd_entry (by decide) (by decide) (by decide) fun b' l' hj => entry_c hj.2.1 hj.1)
    JJ.tok eats_entry rfl (fun _ _ _ h => h) (fun _ _ _ h => h) (l := l) ⟨p4, hl, fun _ _ _ => rfl⟩) rfl (fun d bx5 hp => ?_) (fun d bx5 hp => ?_)
  rotate_left
  · obtain ⟨r, h4, rfl, f5⟩ := hp
    simp (maxSteps := 1000000) (disch := omega) only [go_sem]
    exact ⟨r, h4, rfl, fun q q1 q2 => (f5 q q1 (by omega)).trans (fr4 q q1 q2)⟩
  obtain ⟨xs, r4, h4, hv, p5, _, f5⟩ := hp
  obtain ⟨y, hy, hw⟩ := hv.out (pureL_entries xs)
  refine ⟨y, _, hy, hw, ?_⟩
  have hz : ∀ q, q ≠ 151 → frzL bx5 [d] q = bx5 q := fun q hq => by rw [frzL_one]; exact frz_own hv q (by simpa using hq)
  replace p5 : PSt (frzL bx5 [d]) e r4 n g := (hz 14 (by decide)).trans p5
  have fr5 : Below14 130 bx (frzL bx5 [d]) := fun q q1 q2 => ((hz q (by omega)).trans (f5 q q1 (by omega))).trans (fr4 q q1 q2)
  generalize frzL bx5 [d] = bx6 at *
  have p6 : bx6 14 = ⟨e, 1, 8, 86, [pd r4 n g]⟩ := p5
  simp (maxSteps := 1000000) (disch := omega) only [go_sem, p6, pd]
  refine ⟨xs, r4, h4, ?_, fun q q1 q2 => ?_⟩
  · simp [PSt, upd, pd]
  · simp only [upd_ne q1]; exact fr5 q q1 q2
theorem entries_c (hl : l.length ≤ 1000000) (hb : PSt bx e l n g) : CallsB Tryz.prog 39 0 [.loc 14 e 0 0] bx (fun d bx' => ∃ es r, some' (isT wWord) entryP l = .ok (es, r) ∧ d = .tup [] ∧ PSt bx' e r n { g with e := .sl 5 (es.map Entry.d) } ∧ Below14 130 bx bx') (ErB (some' (isT wWord) entryP) n 130 bx l) := fnB_calls mixed (entries_d hl hb) rfl (by kernel_rfl) rfl
theorem rules_d (hl : l.length ≤ 1000000) (hb : PSt bx e l n g) : fnB Tryz.prog (orac Tryz.prog) [] Tryz.f40 0 [.loc 14 e 0 0] bx (fun d bx' => ∃ es r, some' (isT wRule) ruleP l = .ok (es, r) ∧ d = .tup [] ∧ PSt bx' e r n { g with f := .sl 5 (es.map Rule.d) } ∧ Below14 220 bx bx') (ErB (some' (isT wRule) ruleP) n 220 bx l) := by
  refine fnB_intro _ [] 11 rfl rfl rfl (by kernel_rfl) ?_
  simp (maxSteps := 1000000) (disch := omega) only [go_sem]
  refine call_boxes (begins_c (bx := bx) (e := e) 220 wRule) rfl ?_
  rintro d bx4 ⟨k4, k5, rfl, b1, b2, b3⟩
  have p4 : PSt bx4 e l n g := (b3 14 (by decide) (by decide)).trans hb
  have fr4 : Below14 220 bx bx4 := fun q q1 q2 => b3 q (by omega) (by omega)
  simp (maxSteps := 1000000) (disch := omega) only [go_sem]
  have hb1 : ∀ (b' : Bxs) (l' : List Tk), JJ e n g bx4 230 b' l' → Ptr b' 222 k4 e ∧ Txt b' 223 k5 wRule := fun b' l' hj => ⟨(hj.2.2 222 (by decide) (by decide)).trans b1, (hj.2.2 223 (by decide) (by decide)).trans b2⟩
  refine call_out (someRul_c 230 (J := JJ e n g bx4 230) (Z := Below14 230 bx4) (more := isT wRule) (item := ruleP) (n := n) (JJ.rests (by decide) (by decide))
    (more_of fun b' l' hj => begins1_c 222 223 k4 k5 wRule (by have := hj.2.1; omega) hj.1 (hb1 b' l' hj).1 (hb1 b' l' hj).2)
    (item_okB (M := 250) fwd_rule (by decide) (by decide) (by decide) fun b' l' hj => rule_c hj.2.1 hj.1)
    JJ.tok eats_rule rfl (fun _ _ _ h => h) (fun _ _ _ h => h) (l := l) ⟨p4, hl, fun _ _ _ => rfl⟩) rfl (fun d bx5 hp => ?_) (fun d bx5 hp => ?_)
  rotate_left
  · obtain ⟨r, h4, rfl, f5⟩ := hp
    simp (maxSteps := 1000000) (disch := omega) only [go_sem]
    exact ⟨r, h4, rfl, fun q q1 q2 => (f5 q q1 (by omega)).trans (fr4 q q1 q2)⟩
  obtain ⟨xs, r4, h4, hv, p5, _, f5⟩ := hp
  obtain ⟨y, hy, hw⟩ := hv.out (pureL_rules xs)
  refine ⟨y, _, hy, hw, ?_⟩
  have hz : ∀ q, q ≠ 241 → frzL bx5 [d] q = bx5 q := fun q hq => by rw [frzL_one]; exact frz_own hv q (by simpa using hq)
  replace p5 : PSt (frzL bx5 [d]) e r4 n g := (hz 14 (by decide)).trans p5
  have fr5 : Below14 220 bx (frzL bx5 [d]) := fun q q1 q2 => ((hz q (by omega)).trans (f5 q q1 (by omega))).trans (fr4 q q1 q2)
  generalize frzL bx5 [d] = bx6 at *
  have p6 : bx6 14 = ⟨e, 1, 8, 86, [pd r4 n g]⟩ := p5
  simp (maxSteps := 1000000) (disch := omega) only [go_sem, p6, pd]
  refine ⟨xs, r4, h4, ?_, fun q q1 q2 => ?_⟩
  · simp [PSt, upd, pd]
  · simp only [upd_ne q1]; exact fr5 q q1 q2
theorem rules_c (hl : l.length ≤ 1000000) (hb : PSt bx e l n g) : CallsB Tryz.prog 40 0 [.loc 14 e 0 0] bx (fun d bx' => ∃ es r, some' (isT wRule) ruleP l = .ok (es, r) ∧ d = .tup [] ∧ PSt bx' e r n { g with f := .sl 5 (es.map Rule.d) } ∧ Below14 220 bx bx') (ErB (some' (isT wRule) ruleP) n 220 bx l) := fnB_calls mixed (rules_d hl hb) rfl (by kernel_rfl) rfl
theorem head_d (hl : l.length ≤ 1000000) (hb : PSt bx e l n g) : fnB Tryz.prog (orac Tryz.prog) [] Tryz.f38 0 [.loc 14 e 0 0] bx (fun d bx' => ∃ h r, headP l = .ok (h, r) ∧ d = .tup [] ∧ PSt bx' e r n { g with a := .str h.1, b := strs h.2.1, c := .str h.2.2 } ∧ Below14 100 bx bx') (ErB headP n 100 bx l) := by
  refine fnB_intro _ [] 27 rfl rfl rfl (by kernel_rfl) ?_
  simp (maxSteps := 1000000) (disch := omega) only [go_sem]
  refine call_pan (name_p wGrammar (by omega) hb) rfl (fun d bx1 hp => ?_) (fun d bx1 hp => ?_)
  rotate_left
  · obtain ⟨r, h1, rfl, h3⟩ := hp
    simp (maxSteps := 1000000) (disch := omega) only [go_sem]
    exact ⟨r, by simp only [headP, Rd.bind, h1], rfl, fun q q1 q2 => h3 q q1⟩
  obtain ⟨a1, r1, h1, rfl, p1, f1⟩ := hp
  have l1 := (eats_name wGrammar) _ _ _ h1
  have p1' : bx1 14 = ⟨e, 1, 8, 86, [pd r1 n g]⟩ := p1
  simp (maxSteps := 1000000) (disch := omega) only [go_sem, p1', pd]
  refine call_pan (want_c (l := r1) (n := n) (g := { g with a := .str a1 }) [59] (by omega) (by simp [PSt, upd, pd])) rfl (fun d bx2 hp => ?_) (fun d bx2 hp => ?_)
  rotate_left
  · obtain ⟨r, h2, rfl, h3⟩ := hp
    simp (maxSteps := 1000000) (disch := omega) only [go_sem]
    exact ⟨r, by simp only [headP, Rd.bind, h1, h2], rfl, fun q q1 q2 => by rw [h3 q q1, upd_ne q1]; exact f1 q q1⟩
  obtain ⟨_, r2, h2, rfl, p2, f2⟩ := hp
  have l2 := want_len h2
  have fr2 : Below14 100 bx bx2 := fun q q1 q2 => by rw [f2 q q1, upd_ne q1]; exact f1 q q1
  clear f1 f2
  simp (maxSteps := 1000000) (disch := omega) only [go_sem]
  refine call_boxes (begins_c (bx := bx2) (e := e) 100 wCategory) rfl ?_
  rintro d bx4 ⟨k4, k5, rfl, b1, b2, b3⟩
  have p4 : PSt bx4 e r2 n { g with a := .str a1 } := (b3 14 (by decide) (by decide)).trans p2
  have fr4 : Below14 100 bx bx4 := fun q q1 q2 => (b3 q (by omega) (by omega)).trans (fr2 q q1 q2)
  simp (maxSteps := 1000000) (disch := omega) only [go_sem]
  have hb1 : ∀ (b' : Bxs) (l' : List Tk), JJ e n { g with a := .str a1 } bx4 110 b' l' → Ptr b' 102 k4 e ∧ Txt b' 103 k5 wCategory := fun b' l' hj => ⟨(hj.2.2 102 (by decide) (by decide)).trans b1, (hj.2.2 103 (by decide) (by decide)).trans b2⟩
  refine call_out (someStr_c 110 (J := JJ e n { g with a := .str a1 } bx4 110) (Z := Below14 110 bx4) (more := isT wCategory) (item := category) (n := n) (JJ.rests (by decide) (by decide))
    (more_of fun b' l' hj => begins1_c 102 103 k4 k5 wCategory (by have := hj.2.1; omega) hj.1 (hb1 b' l' hj).1 (hb1 b' l' hj).2)
    (item_okB (M := 122) fwd_category (by decide) (by decide) (by decide) fun b' l' hj => (category_c (by have := hj.2.1; omega) hj.1).mono (fun d bx' h => h.toB 122 fun a => plain_str _ _) (fun d bx' h => h.toB 122))
    JJ.tok eats_category rfl (fun _ _ _ h => h) (fun _ _ _ h => h) (l := r2) ⟨p4, by omega, fun _ _ _ => rfl⟩) rfl (fun d bx5 hp => ?_) (fun d bx5 hp => ?_)
  rotate_left
  · obtain ⟨r, h4, rfl, f5⟩ := hp
    simp (maxSteps := 1000000) (disch := omega) only [go_sem]
    exact ⟨r, by simp only [headP, Rd.bind, h1, h2, h4], rfl, fun q q1 q2 => (f5 q q1 (by omega)).trans (fr4 q q1 q2)⟩
  obtain ⟨xs, r4, h4, hv, p5, _, f5⟩ := hp
  have l4 := some_len eats_category h4
  obtain ⟨y, hy, hw⟩ := hv.out (pureL_strs xs)
  refine ⟨y, _, hy, hw, ?_⟩
  have hz : ∀ q, q ≠ 121 → frzL bx5 [d] q = bx5 q := fun q hq => by rw [frzL_one]; exact frz_own hv q (by simpa using hq)
  replace p5 : PSt (frzL bx5 [d]) e r4 n { g with a := .str a1 } := (hz 14 (by decide)).trans p5
  have fr5 : Below14 100 bx (frzL bx5 [d]) := fun q q1 q2 => ((hz q (by omega)).trans (f5 q q1 (by omega))).trans (fr4 q q1 q2)
  clear hz f5 hv hy hw fr4 b1 b2 b3 hb1
  generalize frzL bx5 [d] = bx6 at *
  have p6 : bx6 14 = ⟨e, 1, 8, 86, [pd r4 n { g with a := .str a1 }]⟩ := p5
  simp (maxSteps := 1000000) (disch := omega) only [go_sem, p6, pd]
  refine call_pan (name_p (l := r4) (n := n) (g := { g with a := .str a1, b := strs xs }) wStart (by omega) (by simp [PSt, upd, pd, strs])) rfl (fun d bx7 hp => ?_) (fun d bx7 hp => ?_)
  rotate_left
  · obtain ⟨r, h5, rfl, h3⟩ := hp
    simp (maxSteps := 1000000) (disch := omega) only [go_sem]
    exact ⟨r, by simp only [headP, Rd.bind, h1, h2, h4, h5], rfl, fun q q1 q2 => by rw [h3 q q1, upd_ne q1]; exact fr5 q q1 q2⟩
  obtain ⟨a5, r5, h5, rfl, p7, f7⟩ := hp
  have l5 := (eats_name wStart) _ _ _ h5
  have fr7 : Below14 100 bx bx7 := fun q q1 q2 => by rw [f7 q q1, upd_ne q1]; exact fr5 q q1 q2
  have p7' : bx7 14 = ⟨e, 1, 8, 86, [pd r5 n { g with a := .str a1, b := strs xs }]⟩ := p7
  simp (maxSteps := 1000000) (disch := omega) only [go_sem, p7', pd]
  refine call_pan (want_c (l := r5) (n := n) (g := { g with a := .str a1, b := strs xs, c := .str a5 }) [59] (by omega) (by simp [PSt, upd, pd, strs])) rfl (fun d bx8 hp => ?_) (fun d bx8 hp => ?_)
  rotate_left
  · obtain ⟨r, h6, rfl, h3⟩ := hp
    simp (maxSteps := 1000000) (disch := omega) only [go_sem]
    exact ⟨r, by simp only [headP, Rd.bind, h1, h2, h4, h5, h6], rfl, fun q q1 q2 => by rw [h3 q q1, upd_ne q1]; exact fr7 q q1 q2⟩
  obtain ⟨_, r6, h6, rfl, p8, f8⟩ := hp
  simp (maxSteps := 1000000) (disch := omega) only [go_sem]
  exact ⟨(a1, xs, a5), r6, by simp only [headP, Rd.bind, h1, h2, h4, h5, h6, Rd.pure], p8, fun q q1 q2 => by rw [f8 q q1, upd_ne q1]; exact fr7 q q1 q2⟩
theorem head_c (hl : l.length ≤ 1000000) (hb : PSt bx e l n g) : CallsB Tryz.prog 38 0 [.loc 14 e 0 0] bx (fun d bx' => ∃ h r, headP l = .ok (h, r) ∧ d = .tup [] ∧ PSt bx' e r n { g with a := .str h.1, b := strs h.2.1, c := .str h.2.2 } ∧ Below14 100 bx bx') (ErB headP n 100 bx l) := fnB_calls mixed (head_d hl hb) rfl (by kernel_rfl) rfl
end Go.V.Gr
