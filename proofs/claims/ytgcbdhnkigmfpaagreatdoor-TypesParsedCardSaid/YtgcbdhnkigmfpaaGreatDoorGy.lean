/-
  Grammar: reading.
-/
import Derived.Test.YtgcbdhnkigmfpaaGreatDoorGx
namespace Go.V.Gr
open Go.Proofs Go.RowKit Go.V.Lx
set_option linter.unusedSimpArgs false
set_option linter.unusedVariables false
set_option maxRecDepth 100000

variable {e2 e3 e4 : Nat} {x3 x4 : D} {bx : Bxs} {y0 y1 y2 y3 y4 y5 : D}
theorem caught_ret (h2 : bx 4 = ⟨e2, 1, 6, 26, [.agg [y0, y1, y2, y3, y4, y5]]⟩) (h3 : bx 5 = ⟨e3, 1, 1, 3, [x3]⟩) (h4 : bx 6 = ⟨e4, 1, 1, 29, [x4]⟩) :
    fnR Tryz.prog (orac Tryz.prog) [(5, [(3, 2)])] Tryz.f37 42 [.loc 4 e2 0 0, .loc 5 e3 0 0, .loc 6 e4 0 0] bx .ret fun m' bx' => m' = .ret ∧ bx' = bx := by
  refine fnR_intro (t := 6) _ _ 20 rfl rfl rfl (by kernel_rfl) (by kernel_rfl) (upd (upd (argsF 0 [.loc 4 e2 0 0, .loc 5 e3 0 0, .loc 6 e4 0 0]) 6 (.raw .nilIface)) 3 (.raw .nilIface)) ?_ ?_
  · simp (maxSteps := 1000000) (disch := omega) only [go_sem, put]
  · simp (maxSteps := 1000000) (disch := omega) only [go_sem, h2, h3, h4, nilE]
theorem caught_pan (i : Int) (o3 : ∀ c, setD x3 0 [c] = some c) (o4 : ∀ c, setD x4 0 [c] = some c) (h2 : bx 4 = ⟨e2, 1, 6, 26, [.agg [y0, y1, y2, y3, y4, y5]]⟩) (h3 : bx 5 = ⟨e3, 1, 1, 3, [x3]⟩) (h4 : bx 6 = ⟨e4, 1, 1, 29, [x4]⟩) :
    fnR Tryz.prog (orac Tryz.prog) [(5, [(3, 2)])] Tryz.f37 42 [.loc 4 e2 0 0, .loc 5 e3 0 0, .loc 6 e4 0 0] bx (.pan (.ifc 82 (.agg [.int .i64 i]))) fun m' bx' => m' = .ret ∧ bx' 4 = ⟨e2, 1, 6, 26, [.agg [.str [], .nilsl, .str [], .int .i64 0, .nilsl, .nilsl]]⟩ ∧ bx' 5 = ⟨e3, 1, 1, 3, [.int .i64 i]⟩ ∧ bx' 6 = ⟨e4, 1, 1, 29, [.int .i64 250]⟩ := by
  refine fnR_intro (t := 6) _ _ 20 rfl rfl rfl (by kernel_rfl) (by kernel_rfl) (upd (upd (argsF 0 [.loc 4 e2 0 0, .loc 5 e3 0 0, .loc 6 e4 0 0]) 6 (.ifc 82 (.agg [.int .i64 i]))) 3 (.ifc 82 (.agg [.int .i64 i]))) ?_ ?_
  · simp (maxSteps := 1000000) (disch := omega) only [go_sem, put]
  · simp (maxSteps := 1000000) (disch := omega) only [go_sem, h2, h3, h4, nilE, o3, o4]
def g00 : G6 := ⟨.str [], .nilsl, .str [], .int .i64 0, .nilsl, .nilsl⟩
/-- how far the steps have come -/
def Prog (l : List Tk) : Nat → List Tk → G6 → Prop
  | 0, r, g => r = l ∧ g = g00
  | 1, r, g => ∃ h, headP l = .ok (h, r) ∧ g = { g00 with a := .str h.1, b := strs h.2.1, c := .str h.2.2 }
  | 2, r, g => ∃ h r1 es, headP l = .ok (h, r1) ∧ some' (isT wWord) entryP r1 = .ok (es, r) ∧ g = { g00 with a := .str h.1, b := strs h.2.1, c := .str h.2.2, e := .sl 5 (es.map Entry.d) }
  | _, r, g => ∃ h r1 es r2 rs, headP l = .ok (h, r1) ∧ some' (isT wWord) entryP r1 = .ok (es, r2) ∧ some' (isT wRule) ruleP r2 = .ok (rs, r) ∧ g = { g00 with a := .str h.1, b := strs h.2.1, c := .str h.2.2, e := .sl 5 (es.map Entry.d), f := .sl 5 (rs.map Rule.d) }
def readD (r : Gram × Int × Int) : D := .tup [r.1.d, .int .i64 r.2.1, .int .i64 r.2.2]
theorem weak_agg6 {a b c d f k a' b' c' d' f' k' : D} (h1 : Weak a a') (h2 : Weak b b') (h3 : Weak c c') (h4 : Weak d d') (h5 : Weak f f') (h6 : Weak k k') : Weak (.agg [a, b, c, d, f, k]) (.agg [a', b', c', d', f', k']) := by
  refine .agg rfl fun i x x' hx hx' => ?_
  match i with
  | 0 => simp at hx hx'; subst hx; subst hx'; exact h1
  | 1 => simp at hx hx'; subst hx; subst hx'; exact h2
  | 2 => simp at hx hx'; subst hx; subst hx'; exact h3
  | 3 => simp at hx hx'; subst hx; subst hx'; exact h4
  | 4 => simp at hx hx'; subst hx; subst hx'; exact h5
  | 5 => simp at hx hx'; subst hx; subst hx'; exact h6
  | i + 6 => simp at hx
theorem weak_tup3 {a b c a' b' c' : D} (h1 : Weak a a') (h2 : Weak b b') (h3 : Weak c c') : Weak (.tup [a, b, c]) (.tup [a', b', c']) := by
  refine .tup rfl fun i x x' hx hx' => ?_
  match i with
  | 0 => simp at hx hx'; subst hx; subst hx'; exact h1
  | 1 => simp at hx hx'; subst hx; subst hx'; exact h2
  | 2 => simp at hx hx'; subst hx; subst hx'; exact h3
  | i + 3 => simp at hx
theorem weak_zero : Weak (.agg [.str [], .nilsl, .str [], .int .i64 0, .nilsl, .nilsl]) Gram.zero.d := weak_agg6 (.refl _) (.nil _) (.refl _) (.refl _) (.nil _) (.nil _)
theorem read_err {l r : List Tk} {n : Nat} (h : gramP l = .error r) : Weak (.tup [.agg [.str [], .nilsl, .str [], .int .i64 0, .nilsl, .nilsl], .int .i64 (placeT n r), .int .i64 250]) (readD (readL l n)) := by
  unfold readL
  rw [h]
  exact weak_tup3 weak_zero (.refl _) (.refl _)
theorem fwd_head : Fwd headP := (fwd_name _).bind fun _ => (fwd_want _).bind fun _ => (fwd_some fwd_category).bind fun _ => (fwd_name _).bind fun _ => (fwd_want _).bind fun _ => fwd_pure _
set_option maxHeartbeats 4000000 in
theorem read_d (l : List Tk) (n : Nat) (hl : l.length ≤ 1000000) : fnP Tryz.prog (orac Tryz.prog) [(1000021, [])] Tryz.f16 0 [.sl 4 (l.map Tok.d), .int .i64 (n : Int)] (fun _ => .none) (fun d bx' => ∃ r, outD bx' d = some r ∧ Weak r (readD (readL l n))) (fun _ _ => False) := by
  refine fnP_intro _ [.cell 4 26, .cell 5 3, .cell 6 29] 42 rfl rfl rfl (by kernel_rfl) (by kernel_rfl) ?_
  simp (maxSteps := 1000000) (disch := omega) only [go_sem]
  refine cD_for 3 (fun k σ bx => ∃ r g, σ 4 = .loc 4 1 0 0 ∧ σ 5 = .loc 5 1 0 0 ∧ σ 6 = .loc 6 1 0 0 ∧ σ 7 = .loc 14 1 0 0 ∧ σ 21 = .osl 21 1 1 0 3 ∧ σ 22 = .int .i64 3 ∧ σ 23 = .int .i64 k ∧
      σ dfS = .any [.tup [.fn (.func 37) [.loc 4 1 0 0, .loc 5 1 0 0, .loc 6 1 0 0]]] ∧ bx 4 = ⟨1, 1, 6, 26, [.agg [.str [], .nilsl, .str [], .int .i64 0, .nilsl, .nilsl]]⟩ ∧ bx 5 = ⟨1, 1, 1, 3, [.int .i64 0]⟩ ∧ bx 6 = ⟨1, 1, 1, 29, [.int .i64 0]⟩ ∧
      bx 21 = ⟨1, 1, 1, 1, [.bfn 38 [.loc 14 1 0 0], .bfn 39 [.loc 14 1 0 0], .bfn 40 [.loc 14 1 0 0]]⟩ ∧ PSt bx 1 r n g ∧ Prog l k r g ∧ r.length ≤ l.length) ?_ ?_ ?_
  · refine ⟨l, g00, ?_, ?_, ?_, ?_, ?_, ?_, ?_, ?_, ?_, ?_, ?_, ?_, ?_, ⟨rfl, rfl⟩, Nat.le_refl _⟩
    all_goals first
      | (simp (disch := omega) only [go_sem, argsF, upd, pd, g00, PSt, reduceIte, Nat.reduceEqDiff]; done)
      | (simp (disch := omega) only [go_sem, argsF, upd, pd, g00, PSt, reduceIte, Nat.reduceEqDiff]; rfl)
      | rfl
  · rintro k σ bx hk ⟨r, g, h4, h5, h6, h7, h21, h22, h23, hd, b4, b5, b6, b21, hp, hpr, hr⟩
    have hk3 : (k : Int) < 3 := by omega
    have hcases : k = 0 ∨ k = 1 ∨ k = 2 := by omega
    rcases hcases with rfl | rfl | rfl
    · obtain ⟨rfl, rfl⟩ := hpr
      simp (maxSteps := 1000000) (disch := omega) only [go_sem, h4, h5, h6, h7, h21, h22, h23, b21, hk3]
      refine call_pan (head_c (by omega) hp) rfl (fun d bx1 hq => ?_) (fun d bx1 hq => ?_)
      · obtain ⟨v, r9, k9, rfl, p9, f9⟩ := hq
        have q4 : bx1 4 = _ := (f9 4 (by decide) (by decide)).trans b4
        have q5 : bx1 5 = _ := (f9 5 (by decide) (by decide)).trans b5
        have q6 : bx1 6 = _ := (f9 6 (by decide) (by decide)).trans b6
        have q21 : bx1 21 = _ := (f9 21 (by decide) (by decide)).trans b21
        simp (maxSteps := 1000000) (disch := omega) only [go_sem, h4, h5, h6, h7, h21, h22, h23, hd]
        exact ⟨_, _, rfl, q4, q5, q6, q21, p9, ⟨v, k9, rfl⟩, Nat.le_trans (fwd_head.len k9) hr⟩
      · obtain ⟨r9, k9, rfl, f9⟩ := hq
        have q4 : bx1 4 = _ := (f9 4 (by decide) (by decide)).trans b4
        have q5 : bx1 5 = _ := (f9 5 (by decide) (by decide)).trans b5
        have q6 : bx1 6 = _ := (f9 6 (by decide) (by decide)).trans b6
        simp (maxSteps := 1000000) (disch := omega) only [go_sem, h4, h5, h6, h7, h21, h22, h23, hd, placeD]
        refine leave_call _ (fnR_calls (caught_pan _ (fun c => by simp [go_sem]) (fun c => by simp [go_sem]) q4 q5 q6) rfl (by kernel_rfl) rfl) fun m' bx2 hq => ?_
        obtain ⟨rfl, g2, g3, g4⟩ := hq
        simp (maxSteps := 1000000) (disch := omega) only [go_sem, h4, h5, h6, g2, g3, g4]
        exact ⟨_, rfl, read_err (by simp only [gramP, Rd.bind, k9])⟩
    · obtain ⟨h, k1, rfl⟩ := hpr
      simp (maxSteps := 1000000) (disch := omega) only [go_sem, h4, h5, h6, h7, h21, h22, h23, b21, hk3]
      refine call_pan (entries_c (by omega) hp) rfl (fun d bx1 hq => ?_) (fun d bx1 hq => ?_)
      · obtain ⟨v, r9, k9, rfl, p9, f9⟩ := hq
        have q4 : bx1 4 = _ := (f9 4 (by decide) (by decide)).trans b4
        have q5 : bx1 5 = _ := (f9 5 (by decide) (by decide)).trans b5
        have q6 : bx1 6 = _ := (f9 6 (by decide) (by decide)).trans b6
        have q21 : bx1 21 = _ := (f9 21 (by decide) (by decide)).trans b21
        simp (maxSteps := 1000000) (disch := omega) only [go_sem, h4, h5, h6, h7, h21, h22, h23, hd]
        exact ⟨_, _, rfl, q4, q5, q6, q21, p9, ⟨h, _, v, k1, k9, rfl⟩, Nat.le_trans ((fwd_some fwd_entry).len k9) hr⟩
      · obtain ⟨r9, k9, rfl, f9⟩ := hq
        have q4 : bx1 4 = _ := (f9 4 (by decide) (by decide)).trans b4
        have q5 : bx1 5 = _ := (f9 5 (by decide) (by decide)).trans b5
        have q6 : bx1 6 = _ := (f9 6 (by decide) (by decide)).trans b6
        simp (maxSteps := 1000000) (disch := omega) only [go_sem, h4, h5, h6, h7, h21, h22, h23, hd, placeD]
        refine leave_call _ (fnR_calls (caught_pan _ (fun c => by simp [go_sem]) (fun c => by simp [go_sem]) q4 q5 q6) rfl (by kernel_rfl) rfl) fun m' bx2 hq => ?_
        obtain ⟨rfl, g2, g3, g4⟩ := hq
        simp (maxSteps := 1000000) (disch := omega) only [go_sem, h4, h5, h6, g2, g3, g4]
        exact ⟨_, rfl, read_err (by simp only [gramP, Rd.bind, k1, k9])⟩
    · obtain ⟨h, r1, es, k1, k2, rfl⟩ := hpr
      simp (maxSteps := 1000000) (disch := omega) only [go_sem, h4, h5, h6, h7, h21, h22, h23, b21, hk3]
      refine call_pan (rules_c (by omega) hp) rfl (fun d bx1 hq => ?_) (fun d bx1 hq => ?_)
      · obtain ⟨v, r9, k9, rfl, p9, f9⟩ := hq
        have q4 : bx1 4 = _ := (f9 4 (by decide) (by decide)).trans b4
        have q5 : bx1 5 = _ := (f9 5 (by decide) (by decide)).trans b5
        have q6 : bx1 6 = _ := (f9 6 (by decide) (by decide)).trans b6
        have q21 : bx1 21 = _ := (f9 21 (by decide) (by decide)).trans b21
        simp (maxSteps := 1000000) (disch := omega) only [go_sem, h4, h5, h6, h7, h21, h22, h23, hd]
        exact ⟨_, _, rfl, q4, q5, q6, q21, p9, ⟨h, _, es, _, v, k1, k2, k9, rfl⟩, Nat.le_trans ((fwd_some fwd_rule).len k9) hr⟩
      · obtain ⟨r9, k9, rfl, f9⟩ := hq
        have q4 : bx1 4 = _ := (f9 4 (by decide) (by decide)).trans b4
        have q5 : bx1 5 = _ := (f9 5 (by decide) (by decide)).trans b5
        have q6 : bx1 6 = _ := (f9 6 (by decide) (by decide)).trans b6
        simp (maxSteps := 1000000) (disch := omega) only [go_sem, h4, h5, h6, h7, h21, h22, h23, hd, placeD]
        refine leave_call _ (fnR_calls (caught_pan _ (fun c => by simp [go_sem]) (fun c => by simp [go_sem]) q4 q5 q6) rfl (by kernel_rfl) rfl) fun m' bx2 hq => ?_
        obtain ⟨rfl, g2, g3, g4⟩ := hq
        simp (maxSteps := 1000000) (disch := omega) only [go_sem, h4, h5, h6, g2, g3, g4]
        exact ⟨_, rfl, read_err (by simp only [gramP, Rd.bind, k1, k2, k9])⟩
  · rintro σ bx ⟨r, g, h4, h5, h6, h7, h21, h22, h23, hd, b4, b5, b6, b21, hp, hpr, hr⟩
    obtain ⟨h, r1, es, r2, rs, k1, k2, k3, rfl⟩ := hpr
    have hp' : bx 14 = ⟨1, 1, 8, 86, [pd r n _]⟩ := hp
    have h33 : ¬ ((3 : Nat) : Int) < 3 := by omega
    cases r with
    | nil =>
      have hgr : gramP l = .ok (⟨h.1, h.2.1, h.2.2, 0, es, rs⟩, []) := by simp only [gramP, Rd.bind, k1, k2, k3, endP, Rd.pure]
      simp (maxSteps := 1000000) (disch := omega) only [go_sem, h4, h5, h6, h7, h21, h22, h23, hp', pd, b4, b5, b6, h33, hd, strs, g00]
      refine leave_call _ (fnR_calls (caught_ret (e2 := 1) (e3 := 1) (e4 := 1) (y0 := .str h.1) (y1 := .sl 1 (h.2.1.map D.str)) (y2 := .str h.2.2) (y3 := .int .i64 0) (y4 := .sl 5 (es.map Entry.d)) (y5 := .sl 5 (rs.map Rule.d)) (x3 := .int .i64 0) (x4 := .int .i64 0) (by simp [upd]) (by simp [upd]) (by simp [upd])) rfl (by kernel_rfl) rfl) fun m' bx2 hq => ?_
      obtain ⟨rfl, rfl⟩ := hq
      simp (maxSteps := 1000000) (disch := omega) only [go_sem, h4, h5, h6]
      refine ⟨_, rfl, weak_eq ?_⟩
      unfold readL
      rw [hgr]
      rfl
    | cons x r =>
      have hgr : gramP l = .error (x :: r) := by simp only [gramP, Rd.bind, k1, k2, k3, endP]
      have h0 : (0 : Int) < ((r.length + 1 : Nat) : Int) := by omega
      simp (maxSteps := 1000000) (disch := omega) only [go_sem, h4, h5, h6, h7, h21, h22, h23, hp', pd, h0, h33]
      refine call_pan (fail_c (by have := hr; omega) hp) rfl (fun d bx1 hq => hq.elim) (fun d bx1 hq => ?_)
      obtain ⟨rfl, rfl⟩ := hq
      simp (maxSteps := 1000000) (disch := omega) only [go_sem, h4, h5, h6, h7, h21, h22, h23, hd, placeD]
      refine leave_call _ (fnR_calls (caught_pan _ (fun c => by simp [go_sem]) (fun c => by simp [go_sem]) b4 b5 b6) rfl (by kernel_rfl) rfl) fun m' bx2 hq => ?_
      obtain ⟨rfl, g2, g3, g4⟩ := hq
      simp (maxSteps := 1000000) (disch := omega) only [go_sem, h4, h5, h6, g2, g3, g4]
      exact ⟨_, rfl, read_err hgr⟩
theorem read_c (l : List Tk) (n : Nat) (hl : l.length ≤ 1000000) : CallsTo Tryz.prog 16 [.sl 4 (l.map Tok.d), .int .i64 (n : Int)] (readD (readL l n)) :=
  (fnP_calls (read_d l n hl) rfl (by kernel_rfl) rfl).to (fun _ _ h => h) fun d' bx' h => h
end Go.V.Gr
