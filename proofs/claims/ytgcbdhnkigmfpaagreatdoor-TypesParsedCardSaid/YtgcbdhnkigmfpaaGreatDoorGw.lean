/-
  Grammar: the parser's rules.
-/
import Derived.Test.YtgcbdhnkigmfpaaGreatDoorGu
namespace Go.V.Gr
open Go.Proofs Go.RowKit Go.V.Lx
set_option linter.unusedSimpArgs false
set_option linter.unusedVariables false
set_option maxRecDepth 100000

variable {bx : Bxs} {l : List Tk} {n e : Nat} {g : G6}
theorem rule_d (hl : l.length ≤ 1000000) (hb : PSt bx e l n g) : fnB Tryz.prog (orac Tryz.prog) [(2000004, []), (2000007, []), (1000010, []), (1000024, []), (4, [(7, 3)]), (7, [(7, 3)])] Tryz.f80 250 [.loc 14 e 0 0] bx (OkB ruleP Rule.d e n g 250 bx l) (ErB ruleP n 250 bx l) := by
  refine fnB_intro _ [.cell 2 42] 38 rfl rfl rfl (by kernel_rfl) ?_
  have hb0 : bx 14 = _ := hb
  simp (maxSteps := 1000000) (disch := omega) only [go_sem]
  generalize (bx 251).ep + 1 = k1
  generalize (upd bx 251 ⟨k1, 1, 1, 84, [.loc 14 e 0 0]⟩ 252).ep + 1 = k2
  refine call_pan (name_p (l := l) (n := n) (g := g) wRule (by omega) (by simp [PSt, upd, hb0])) rfl (fun d bx1 hp => ?_) (fun d bx1 hp => ?_)
  rotate_left
  · obtain ⟨r, h1, rfl, h3⟩ := hp
    simp (maxSteps := 1000000) (disch := omega) only [go_sem]
    exact ⟨r, by simp only [ruleP, Rd.bind, h1], rfl, fun q q1 q2 => by rw [h3 q q1]; simp (disch := omega) only [upd_ne]⟩
  obtain ⟨a1, r1, h1, rfl, p1, f1⟩ := hp
  have l1 := (eats_name wRule) _ _ _ h1
  have q1 : bx1 251 = ⟨k1, 1, 1, 84, [.loc 14 e 0 0]⟩ := (f1 251 (by decide)).trans (by simp [upd])
  have q2 : bx1 252 = ⟨k2, 1, 5, 42, [.agg [.str [], .int .i64 0, .nilsl, .nilsl, .int .i64 0]]⟩ := (f1 252 (by decide)).trans (by simp [upd])
  have fr1 : Below14 250 bx bx1 := fun q q1 q2 => by rw [f1 q q1]; simp (disch := omega) only [upd_ne]
  have p1' : bx1 14 = _ := p1
  clear f1 p1
  simp (maxSteps := 1000000) (disch := omega) only [go_sem, q1, q2]
  refine call_pan (want_c (l := r1) (n := n) (g := g) [61] (by omega) (by simp [PSt, upd, p1'])) rfl (fun d bx2 hp => ?_) (fun d bx2 hp => ?_)
  rotate_left
  · obtain ⟨r, h2, rfl, h3⟩ := hp
    simp (maxSteps := 1000000) (disch := omega) only [go_sem]
    exact ⟨r, by simp only [ruleP, Rd.bind, h1, h2], rfl, fun q q1 q2 => by
      rw [h3 q q1]
      simp (disch := omega) only [upd_ne]
      exact fr1 q q1 q2⟩
  obtain ⟨_, r2, h2, rfl, p2, f2⟩ := hp
  have l2 := want_len h2
  replace q1 : bx2 251 = ⟨k1, 1, 1, 84, [.loc 14 e 0 0]⟩ := (f2 251 (by decide)).trans (by simp [upd, q1])
  replace q2 : bx2 252 = ⟨k2, 1, 5, 42, [.agg [.str a1, .int .i64 0, .nilsl, .nilsl, .int .i64 0]]⟩ := (f2 252 (by decide)).trans (by simp [upd])
  have fr2 : Below14 250 bx bx2 := fun q q1 q2 => by
    rw [f2 q q1]
    simp (disch := omega) only [upd_ne]
    exact fr1 q q1 q2
  clear f2 fr1 p1'
  simp (maxSteps := 1000000) (disch := omega) only [go_sem, q1, q2]
  refine call_out (part_c 290 (by decide) (by omega) p2) rfl (fun d bx3 hp => ?_) (fun d bx3 hp => ?_)
  rotate_left
  · obtain ⟨r, h3, rfl, f3⟩ := hp
    simp (maxSteps := 1000000) (disch := omega) only [go_sem]
    exact ⟨r, by simp only [ruleP, Rd.bind, h1, h2, h3], rfl, fun q q1 q2 => (f3 q q1 (by omega)).trans (fr2 q q1 q2)⟩
  obtain ⟨a3, r3, h3, ⟨x, hx, hw⟩, p3, f3⟩ := hp
  refine ⟨x, _, hx, hw, ?_⟩
  have l3 := eats_part _ _ _ h3
  replace q1 : frzL bx3 [d] 251 = _ := (f3 251 (by decide) (by decide)).trans q1
  replace q2 : frzL bx3 [d] 252 = _ := (f3 252 (by decide) (by decide)).trans q2
  have fr3 : Below14 250 bx (frzL bx3 [d]) := fun q q1 q2 => (f3 q q1 (by omega)).trans (fr2 q q1 q2)
  clear f3 fr2 p2 hx hw
  generalize frzL bx3 [d] = bx4 at *
  have p4 : bx4 14 = _ := p3
  simp (maxSteps := 1000000) (disch := omega) only [go_sem, q1, q2, Part.d]
  refine draw_by (.light 0 (.load 1 2 (.light 2 (.load 3 1 (.light 4 (.both 5 [2] (.both 6 [] (.light 7 (.both 8 [] .fin .stop)) .stop) .stop)))))) (by kernel_rfl) ?_
  generalize (bx4 260).ep + 1 = k3
  simp (maxSteps := 1000000) (disch := omega) only [go_sem, q1, q2]
  generalize hB : upd (upd bx4 260 ⟨k3, 1, 3, 46, [.agg [.str a3.cat, .int .i64 a3.no, .str a3.text]]⟩) 252 ⟨k2, 1, 5, 42, [.agg [.str a1, .int .i64 0, .osl 260 k3 3 0 1, .nilsl, .int .i64 0]]⟩ = B
  have q3 : B 260 = ⟨k3, 1, 3, 46, [a3.d]⟩ := by rw [← hB]; simp [upd, Part.d]
  replace q1 : B 251 = ⟨k1, 1, 1, 84, [.loc 14 e 0 0]⟩ := by rw [← hB]; simp [upd, q1]
  replace q2 : B 252 = ⟨k2, 1, 5, 42, [.agg [.str a1, .int .i64 0, .osl 260 k3 3 0 1, .nilsl, .int .i64 0]]⟩ := by rw [← hB]; simp [upd]
  have p5 : PSt B e r3 n g := by rw [← hB]; simp [PSt, upd, p4]
  have fr4 : Below14 250 bx B := fun q q1 q2 => by
    rw [← hB]
    simp (disch := omega) only [upd_ne]
    exact fr3 q q1 q2
  clear hB fr3 p3 p4
  have q24 := q2
  have hb1 : ∀ (b' : Bxs) (l' : List Tk), JJ e n g B 290 b' l' → Ptr b' 251 k1 e := fun b' l' hj => (hj.2.2 251 (by decide) (by decide)).trans q1
  refine call_out (somePar_c 300 (J := JJ e n g B 290) (Z := Below14 290 B) (more := moreP) (item := partP) (n := n) (JJ.rests (by decide) (by decide))
    (more_of fun b' l' hj => rule1_c 251 k1 (by have := hj.2.1; omega) hj.1 (hb1 b' l' hj))
    (item_okB (M := 320) fwd_part (by decide) (by decide) (by decide) fun b' l' hj => part_c 320 (by decide) (by have := hj.2.1; omega) hj.1)
    JJ.tok eats_part rfl (fun _ _ _ h => h) (fun _ _ _ h => h) (l := r3) ⟨p5, by omega, fun _ _ _ => rfl⟩) rfl (fun d bx5 hp => ?_) (fun d bx5 hp => ?_)
  rotate_left
  · obtain ⟨r, h4, rfl, f5⟩ := hp
    simp (maxSteps := 1000000) (disch := omega) only [go_sem]
    exact fun _ => ⟨r, by simp only [ruleP, Rd.bind, h1, h2, h3, h4], rfl, fun q q1 q2 => (f5 q q1 (by omega)).trans (fr4 q q1 q2)⟩
  obtain ⟨xs, r4, h4, hv, p6, _, f5⟩ := hp
  obtain ⟨y, hy, hw⟩ := hv.out (pureL_parts xs)
  refine ⟨y, _, hy, hw, ?_⟩
  have hz : ∀ q, q ≠ 311 → frzL bx5 [d] q = bx5 q := fun q hq => by rw [frzL_one]; exact frz_own hv q (by simpa using hq)
  have l4 := some_len eats_part h4
  replace q1 : frzL bx5 [d] 251 = _ := ((hz 251 (by decide)).trans (f5 251 (by decide) (by decide))).trans q1
  replace q2 : frzL bx5 [d] 252 = _ := ((hz 252 (by decide)).trans (f5 252 (by decide) (by decide))).trans q2
  replace q3 : frzL bx5 [d] 260 = _ := ((hz 260 (by decide)).trans (f5 260 (by decide) (by decide))).trans q3
  replace p6 : PSt (frzL bx5 [d]) e r4 n g := (hz 14 (by decide)).trans p6
  have fr5 : Below14 250 bx (frzL bx5 [d]) := fun q q1 q2 => ((hz q (by omega)).trans (f5 q q1 (by omega))).trans (fr4 q q1 q2)
  clear hz f5 hv hy hw fr4 hb1 p5
  generalize frzL bx5 [d] = bx6 at *
  simp (maxSteps := 1000000) (disch := omega) only [go_sem, q1, q2, q24]
  refine append_any (ts := [260]) (xs := [a3.d]) (show OwnV bx6 [260] 46 3 (.osl 260 k3 3 0 1) [a3.d] from OwnV.mk (by simp) q3) (by simp [go_sem]) ?_ (by omega) (by omega) (by simp) (fun x' bx7 hv hf => ?_)
  · simp only [List.length_map, List.length_cons, List.length_nil]; omega
  replace q1 : bx7 251 = _ := (hf 251 (by decide) (by decide)).trans q1
  replace q2 : bx7 252 = _ := (hf 252 (by decide) (by decide)).trans q2
  have p7 : bx7 14 = _ := (hf 14 (by decide) (by decide)).trans p6
  have fr7 : Below14 250 bx bx7 := fun q q1 q2 => (hf q (by omega) (by simp; omega)).trans (fr5 q q1 q2)
  obtain ⟨v1, v2, v3⟩ := hv.facts
  clear hf fr5 p6 q3 q24
  simp (maxSteps := 1000000) (disch := omega) only [go_sem, q1, q2, v1, v2, v3]
  refine call_pan (want_c (l := r4) (n := n) (g := g) wGives (by omega) (by simp [PSt, upd, p7])) rfl (fun d bx8 hp => ?_) (fun d bx8 hp => ?_)
  rotate_left
  · obtain ⟨r, h5, rfl, f8⟩ := hp
    simp (maxSteps := 1000000) (disch := omega) only [go_sem]
    exact ⟨r, by simp only [ruleP, Rd.bind, h1, h2, h3, h4, h5], rfl, fun q q1 q2 => by
      rw [f8 q q1]
      simp (disch := omega) only [upd_ne]
      exact fr7 q q1 q2⟩
  obtain ⟨_, r5, h5, rfl, p8, f8⟩ := hp
  have l5 := want_len h5
  replace q1 : bx8 251 = ⟨k1, 1, 1, 84, [.loc 14 e 0 0]⟩ := (f8 251 (by decide)).trans (by simp [upd, q1])
  replace q2 : bx8 252 = ⟨k2, 1, 5, 42, [.agg [.str a1, .int .i64 0, x', .nilsl, .int .i64 0]]⟩ := (f8 252 (by decide)).trans (by simp [upd])
  replace hv : OwnV bx8 [268, 260] 46 3 x' ((a3 :: xs).map Part.d) := (show OwnV bx7 [268, 260] _ 3 x' ((a3 :: xs).map Part.d) from hv).of fun q hq => by
    have : q ≠ 14 ∧ q ≠ 252 := by simp at hq; omega
    rw [f8 q this.1]; simp [upd, this.2]
  have fr8 : Below14 250 bx bx8 := fun q q1 q2 => by
    rw [f8 q q1]
    simp (disch := omega) only [upd_ne]
    exact fr7 q q1 q2
  clear f8 fr7 p7
  simp (maxSteps := 1000000) (disch := omega) only [go_sem, q1, q2, v1, v2, v3]
  refine call_out (give_c 330 (by decide) (by omega) p8) rfl (fun d bx3 hp => ?_) (fun d bx3 hp => ?_)
  rotate_left
  · obtain ⟨r, h6, rfl, f3⟩ := hp
    simp (maxSteps := 1000000) (disch := omega) only [go_sem]
    exact ⟨r, by simp only [ruleP, Rd.bind, h1, h2, h3, h4, h5, h6], rfl, fun q q1 q2 => (f3 q q1 (by omega)).trans (fr8 q q1 q2)⟩
  obtain ⟨a6, r6, h6, ⟨x, hx, hw⟩, p3, f3⟩ := hp
  refine ⟨x, _, hx, hw, ?_⟩
  have l6 := eats_give _ _ _ h6
  replace q1 : frzL bx3 [d] 251 = _ := (f3 251 (by decide) (by decide)).trans q1
  replace q2 : frzL bx3 [d] 252 = _ := (f3 252 (by decide) (by decide)).trans q2
  replace hv : OwnV (frzL bx3 [d]) [268, 260] 46 3 x' ((a3 :: xs).map Part.d) := hv.of fun q hq => f3 q (by simp at hq; omega) (by simp at hq; omega)
  have fr3 : Below14 250 bx (frzL bx3 [d]) := fun q q1 q2 => (f3 q q1 (by omega)).trans (fr8 q q1 q2)
  clear f3 fr8 p8 hx hw
  generalize frzL bx3 [d] = bx4 at *
  have p4 : bx4 14 = _ := p3
  simp (maxSteps := 1000000) (disch := omega) only [go_sem, q1, q2, Give.d, v1, v2, v3]
  refine draw_by (.light 0 (.load 1 2 (.light 2 (.load 3 1 (.light 4 (.both 5 [2] (.both 6 [] (.light 7 (.both 8 [] .fin .stop)) .stop) .stop)))))) (by kernel_rfl) ?_
  generalize (bx4 274).ep + 1 = k4
  simp (maxSteps := 1000000) (disch := omega) only [go_sem, q1, q2, v1, v2, v3]
  generalize hB : upd (upd bx4 274 ⟨k4, 1, 2, 70, [.agg [.int .i64 a6.part, .str a6.text]]⟩) 252 ⟨k2, 1, 5, 42, [.agg [.str a1, .int .i64 0, x', .osl 274 k4 2 0 1, .int .i64 0]]⟩ = B
  have q3 : B 274 = ⟨k4, 1, 2, 70, [a6.d]⟩ := by rw [← hB]; simp [upd, Give.d]
  replace q1 : B 251 = ⟨k1, 1, 1, 84, [.loc 14 e 0 0]⟩ := by rw [← hB]; simp [upd, q1]
  replace q2 : B 252 = ⟨k2, 1, 5, 42, [.agg [.str a1, .int .i64 0, x', .osl 274 k4 2 0 1, .int .i64 0]]⟩ := by rw [← hB]; simp [upd]
  replace hv : OwnV B [268, 260] 46 3 x' ((a3 :: xs).map Part.d) := hv.of fun q hq => by
    have : q ≠ 274 ∧ q ≠ 252 := by simp at hq; omega
    rw [← hB]; simp [upd, this]
  have p5 : PSt B e r6 n g := by rw [← hB]; simp [PSt, upd, p4]
  have fr4 : Below14 250 bx B := fun q q1 q2 => by
    rw [← hB]
    simp (disch := omega) only [upd_ne]
    exact fr3 q q1 q2
  clear hB fr3 p3 p4
  have q24 := q2
  have hb1 : ∀ (b' : Bxs) (l' : List Tk), JJ e n g B 290 b' l' → Ptr b' 251 k1 e := fun b' l' hj => (hj.2.2 251 (by decide) (by decide)).trans q1
  refine call_out (someGiv_c 340 (J := JJ e n g B 290) (Z := Below14 290 B) (more := moreG) (item := giveP) (n := n) (JJ.rests (by decide) (by decide))
    (more_of fun b' l' hj => rule2_c 251 k1 (by have := hj.2.1; omega) hj.1 (hb1 b' l' hj))
    (item_okB (M := 360) fwd_give (by decide) (by decide) (by decide) fun b' l' hj => give_c 360 (by decide) (by have := hj.2.1; omega) hj.1)
    JJ.tok eats_give rfl (fun _ _ _ h => h) (fun _ _ _ h => h) (l := r6) ⟨p5, by omega, fun _ _ _ => rfl⟩) rfl (fun d bx5 hp => ?_) (fun d bx5 hp => ?_)
  rotate_left
  · obtain ⟨r, h7, rfl, f5⟩ := hp
    simp (maxSteps := 1000000) (disch := omega) only [go_sem]
    exact fun _ => ⟨r, by simp only [ruleP, Rd.bind, h1, h2, h3, h4, h5, h6, h7], rfl, fun q q1 q2 => (f5 q q1 (by omega)).trans (fr4 q q1 q2)⟩
  obtain ⟨gs, r7, h7, hg, p6, _, f5⟩ := hp
  obtain ⟨y, hy, hw⟩ := hg.out (pureL_gives gs)
  refine ⟨y, _, hy, hw, ?_⟩
  have hz : ∀ q, q ≠ 351 → frzL bx5 [d] q = bx5 q := fun q hq => by rw [frzL_one]; exact frz_own hg q (by simpa using hq)
  have l7 := some_len eats_give h7
  replace q1 : frzL bx5 [d] 251 = _ := ((hz 251 (by decide)).trans (f5 251 (by decide) (by decide))).trans q1
  replace q2 : frzL bx5 [d] 252 = _ := ((hz 252 (by decide)).trans (f5 252 (by decide) (by decide))).trans q2
  replace q3 : frzL bx5 [d] 274 = _ := ((hz 274 (by decide)).trans (f5 274 (by decide) (by decide))).trans q3
  replace hv : OwnV (frzL bx5 [d]) [268, 260] 46 3 x' ((a3 :: xs).map Part.d) := hv.of fun q hq => (hz q (by simp at hq; omega)).trans (f5 q (by simp at hq; omega) (by simp at hq; omega))
  replace p6 : PSt (frzL bx5 [d]) e r7 n g := (hz 14 (by decide)).trans p6
  have fr5 : Below14 250 bx (frzL bx5 [d]) := fun q q1 q2 => ((hz q (by omega)).trans (f5 q q1 (by omega))).trans (fr4 q q1 q2)
  clear hz f5 hg hy hw fr4 hb1 p5
  generalize frzL bx5 [d] = bx6 at *
  simp (maxSteps := 1000000) (disch := omega) only [go_sem, q1, q2, q24, v1, v2, v3]
  refine append_any (ts := [274]) (xs := [a6.d]) (show OwnV bx6 [274] 70 2 (.osl 274 k4 2 0 1) [a6.d] from OwnV.mk (by simp) q3) (by simp [go_sem]) ?_ (by omega) (by omega) (by simp) (fun y' bx7 hg hf => ?_)
  · simp only [List.length_map, List.length_cons, List.length_nil]; omega
  replace q1 : bx7 251 = _ := (hf 251 (by decide) (by decide)).trans q1
  replace q2 : bx7 252 = _ := (hf 252 (by decide) (by decide)).trans q2
  replace hv : OwnV bx7 [268, 260] 46 3 x' ((a3 :: xs).map Part.d) := hv.of fun q hq => hf q (by simp at hq; omega) (by simp at hq; simp; omega)
  have p7 : bx7 14 = _ := (hf 14 (by decide) (by decide)).trans p6
  have fr7 : Below14 250 bx bx7 := fun q q1 q2 => (hf q (by omega) (by simp; omega)).trans (fr5 q q1 q2)
  obtain ⟨w1, w2, w3⟩ := hg.facts
  clear hf fr5 p6 q3 q24
  simp (maxSteps := 1000000) (disch := omega) only [go_sem, q1, q2, v1, v2, v3, w1, w2, w3]
  refine call_pan (cost_c (l := r7) (n := n) (g := g) (by omega) (by simp [PSt, upd, p7])) rfl (fun d bx8 hp => ?_) (fun d bx8 hp => ?_)
  rotate_left
  · obtain ⟨r, h8, rfl, f8⟩ := hp
    simp (maxSteps := 1000000) (disch := omega) only [go_sem]
    exact ⟨r, by simp only [ruleP, Rd.bind, h1, h2, h3, h4, h5, h6, h7, h8], rfl, fun q q1 q2 => by
      rw [f8 q q1]
      simp (disch := omega) only [upd_ne]
      exact fr7 q q1 q2⟩
  obtain ⟨c, r8, h8, rfl, p8, f8⟩ := hp
  replace q1 : bx8 251 = ⟨k1, 1, 1, 84, [.loc 14 e 0 0]⟩ := (f8 251 (by decide)).trans (by simp [upd, q1])
  replace q2 : bx8 252 = ⟨k2, 1, 5, 42, [.agg [.str a1, .int .i64 0, x', y', .int .i64 0]]⟩ := (f8 252 (by decide)).trans (by simp [upd])
  have hv8 : OwnV bx8 [268, 260] 46 3 x' ((a3 :: xs).map Part.d) := hv.of fun q hq => by
    have : q ≠ 14 ∧ q ≠ 252 := by simp at hq; omega
    rw [f8 q this.1]; simp [upd, this.2]
  have hg8 : OwnV bx8 [282, 274] 70 2 y' ((a6 :: gs).map Give.d) := (show OwnV bx7 [282, 274] _ 2 y' ((a6 :: gs).map Give.d) from hg).of fun q hq => by
    have : q ≠ 14 ∧ q ≠ 252 := by simp at hq; omega
    rw [f8 q this.1]; simp [upd, this.2]
  have fr8 : Below14 250 bx bx8 := fun q q1 q2 => by
    rw [f8 q q1]
    simp (disch := omega) only [upd_ne]
    exact fr7 q q1 q2
  have p8' : bx8 14 = _ := p8
  clear f8 hv hg fr7 p7
  simp (maxSteps := 1000000) (disch := omega) only [go_sem, q1, q2, v1, v2, v3, w1, w2, w3]
  generalize hB : upd (upd bx8 252 ⟨k2, 1, 5, 42, [.agg [.str a1, .int .i64 0, x', y', .int .i64 c]]⟩) 252 ⟨k2, 1, 5, 42, [.agg [.str a1, .int .i64 0, x', y', .int .i64 c]]⟩ = B
  have hBq : ∀ q, q ≠ 252 → B q = bx8 q := fun q hq => by rw [← hB]; simp [upd, hq]
  clear hB
  replace hv8 : OwnV B [268, 260] 46 3 x' ((a3 :: xs).map Part.d) := hv8.of fun q hq => hBq q (by simp at hq; omega)
  replace hg8 : OwnV B [282, 274] 70 2 y' ((a6 :: gs).map Give.d) := hg8.of fun q hq => hBq q (by simp at hq; omega)
  obtain ⟨y, hy, hw⟩ := hv8.out (pureL_parts _)
  obtain ⟨z, hz, hwz⟩ := hg8.out (pureL_gives _)
  have hg9 : OwnV (frzD B x') [282, 274] 70 2 y' ((a6 :: gs).map Give.d) := hg8.of fun q hq => frz_own hv8 q (by simp at hq; simp; omega)
  have hfz : ∀ q, q ≠ 268 → q ≠ 260 → q ≠ 282 → q ≠ 274 → frzD (frzD B x') y' q = B q := fun q q1 q2 q3 q4 => by
    rw [frz_own hg9 q (by simp [q3, q4]), frz_own hv8 q (by simp [q1, q2])]
  refine ⟨⟨a1, 0, a3 :: xs, a6 :: gs, c⟩, r8, ?_, ⟨.agg [.str a1, .int .i64 0, y, z, .int .i64 c], ?_, weak_agg5 (.refl _) (.refl _) hw hwz (.refl _)⟩, ?_, fun q q1 q2 => ?_⟩
  · simp only [ruleP, Rd.bind, h1, h2, h3, h4, h5, h6, h7, h8, Rd.pure]
  · simp only [outD, outL, hy, hz, consO, Option.map_some]
  · simp only [frzL, frzD, PSt]
    rw [hfz 14 (by decide) (by decide) (by decide) (by decide), hBq 14 (by decide), p8']
  · simp only [frzL, frzD]
    rw [hfz q (by omega) (by omega) (by omega) (by omega), hBq q (by omega)]
    exact fr8 q q1 q2
theorem rule_c (hl : l.length ≤ 1000000) (hb : PSt bx e l n g) : CallsB Tryz.prog 80 0 [.loc 14 e 0 0] bx (OkB ruleP Rule.d e n g 250 bx l) (ErB ruleP n 250 bx l) :=
  (fnB_calls mixed (rule_d hl hb) rfl (by kernel_rfl) rfl : CallsB _ _ 250 _ _ _ _)
end Go.V.Gr
