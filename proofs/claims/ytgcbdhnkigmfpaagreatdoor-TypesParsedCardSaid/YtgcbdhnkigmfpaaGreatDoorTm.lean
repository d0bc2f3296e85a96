/-
  Types: the examples hold.
-/
import Derived.Test.YtgcbdhnkigmfpaaGreatDoorTl
namespace Go.V.Ty
open Go.Proofs Go.RowKit Go.V.Lx Go.V.Gr
set_option linter.unusedSimpArgs false
set_option linter.unusedVariables false
set_option maxRecDepth 100000

theorem sm_of {g : Gram} (h : (g.name.length ≤ 99 ∧ g.start.length ≤ 99 ∧ g.cats.length ≤ 99 ∧ g.entries.length ≤ 99 ∧ g.rules.length ≤ 99) ∧ (∀ s ∈ g.cats, s.length ≤ 99) ∧
    (∀ x ∈ g.entries, (x.text.length ≤ 99 ∧ x.cat.length ≤ 99 ∧ x.gives.length ≤ 99) ∧ ∀ s ∈ x.gives, s.length ≤ 99) ∧
    (∀ x ∈ g.rules, (x.cat.length ≤ 99 ∧ x.parts.length ≤ 99 ∧ x.gives.length ≤ 99) ∧ (∀ q ∈ x.parts, q.text.length ≤ 99 ∧ q.cat.length ≤ 99) ∧ ∀ y ∈ x.gives, y.text.length ≤ 99)) : SmG g := by
  obtain ⟨⟨h1, h2, h3, h4, h5⟩, hc, he, hr⟩ := h
  refine ⟨?_, ?_, by omega, by omega, by omega, fun s hs => ?_, fun x hx => ?_, fun x hx => ?_⟩
  · unfold small; omega
  · unfold small; omega
  · have := hc s hs; unfold small; omega
  · obtain ⟨⟨a1, a2, a3⟩, a4⟩ := he x hx
    refine ⟨?_, ?_, by omega, fun s hs => ?_⟩
    · unfold small; omega
    · unfold small; omega
    · have := a4 s hs; unfold small; omega
  · obtain ⟨⟨a1, a2, a3⟩, a4, a5⟩ := hr x hx
    refine ⟨?_, by omega, by omega, fun q hq => ?_, fun y hy => ?_⟩
    · unfold small; omega
    · have := a4 q hq
      refine ⟨?_, ?_⟩ <;> unfold small <;> omega
    · have := a5 y hy; unfold small; omega
theorem sm_ex : SmG exG := sm_of (by decide +kernel)
theorem sm_left : SmG leftG := sm_of (by decide +kernel)
theorem sm_word : SmG wordG := sm_of (by decide +kernel)
theorem sm_circle : SmG circleG := sm_of (by decide +kernel)
theorem sm_large : SmG largeG := sm_of (by decide +kernel)
theorem sm_one : SmG oneG := sm_of (by decide +kernel)
theorem sm_zero : SmG .zero := sm_of (by decide +kernel)
theorem sm_set : SmG (setG exG) := sm_of (by decide +kernel)
theorem set_d : (setG exG).d = .agg [.str german, .sl 1 [.str sN, .str sS], .str sS, .int .i64 1, .sl 5 [.agg [.str [104, 117, 110, 100], .str sN, .int .i64 0, .sl 1 [.str [100, 111, 103]], .int .i64 0]],
    .sl 5 [.agg [.str sS, .int .i64 1, .sl 3 [.agg [.str sN, .int .i64 0, .str []], .agg [.str [], .int .i64 0, .str [117, 110, 100]], .agg [.str sN, .int .i64 0, .str []]], .sl 2 [.agg [.int .i64 2, .str []], .agg [.int .i64 0, .str [97, 110, 100]], .agg [.int .i64 0, .str []]], .int .i64 3],
      .agg [.str sS, .int .i64 1, .sl 3 [.agg [.str sN, .int .i64 0, .str []]], .sl 2 [.agg [.int .i64 0, .str []]], .int .i64 0]]] := by rfl
theorem outG {bx : Bxs} {n s : Str} {cs : List Str} {i : Int} {t1 t2 e1 e2 m1 m2 : Nat} {es rs : List D} {ty1 ty2 : Nat} (h1 : bx t1 = ⟨e1, 1, 5, ty1, es⟩) (h2 : bx t2 = ⟨e2, 1, 5, ty2, rs⟩) (p1 : D.pureL es = true) (p2 : D.pureL rs = true) (l1 : m1 = es.length) (l2 : m2 = rs.length) :
    outL bx [.agg [.str n, .sl 1 (cs.map D.str), .str s, .int .i64 i, .osl t1 e1 5 0 m1, .osl t2 e2 5 0 m2]] = some [.agg [.str n, .sl 1 (cs.map D.str), .str s, .int .i64 i, .sl 5 es, .sl 5 rs]] := by
  simp only [outL_cons, outL_nil, outD_agg, outD_osl, h1, h2, outB_all e1 1 5 ty1 m1 es (by decide) l1 p1, outB_all e2 1 5 ty2 m2 rs (by decide) l2 p2]
  simp [go_sem]
theorem i1 : ((1 : Nat) : Int) = 1 := rfl
theorem i2 : ((2 : Nat) : Int) = 2 := rfl
theorem i3 : ((3 : Nat) : Int) = 3 := rfl
theorem i33 : ((33 : Nat) : Int) = 33 := rfl
set_option maxHeartbeats 8000000 in
theorem sane_d : fnB Tryz.prog (orac Tryz.prog) [(1000140, []), (8, [(5, 4), (5, 3)])] Tryz.f4 0 [] (fun _ => .none) (fun d _ => d = .bool true) (fun _ _ => False) := by
  refine fnB_intro _ [.tmp 0] 205 rfl rfl rfl (by kernel_rfl) ?_
  have hex : exG.d = .agg [.str german, .sl 1 [.str sN, .str sS], .str sS, .int .i64 0, .sl 5 [exE.d], .sl 5 [exR.d, (chainR sS sN).d]] := rfl
  have kx := resolve_c exG sm_ex
  rw [r_ex, resD] at kx
  have ps := pure_gram (setG exG)
  simp only [set_d] at kx ps
  rw [hex] at kx
  simp (maxSteps := 1000000) (disch := omega) only [go_sem]
  refine call_pure exG_c (by simp [go_sem]) ?_
  rw [hex]
  simp (maxSteps := 1000000) (disch := omega) only [go_sem]
  refine call_pure kx (show D.pureL [exG.d] = true by simp [D.pureL, pure_gram]) ?_
  simp (maxSteps := 1000000) (disch := omega) only [go_sem, i1, i2, i3, decide_true, Bool.not_true]
  refine call_boxes (exO300_c _) rfl ?_
  rintro d B1 ⟨e1, e2, rfl, b1, b2, hk1⟩
  simp (maxSteps := 1000000) (disch := omega) only [go_sem]
  refine call_boxes (exO340_c _) rfl ?_
  rintro d B2 ⟨e3, e4, rfl, b3, b4, hk2⟩
  simp (maxSteps := 1000000) (disch := omega) only [go_sem]
  refine call_boxes (exO380_c _) rfl ?_
  rintro d B3 ⟨e5, e6, rfl, b5, b6, hk3⟩
  simp (maxSteps := 1000000) (disch := omega) only [go_sem]
  refine call_pure exG_c (by simp [go_sem]) ?_
  rw [hex]
  replace b3 := (hk3 354 (by omega)).trans b3
  replace b4 := (hk3 357 (by omega)).trans b4
  replace b1 := (hk3 314 (by omega)).trans ((hk2 314 (by omega)).trans b1)
  replace b2 := (hk3 317 (by omega)).trans ((hk2 317 (by omega)).trans b2)
  have b0 := (hk3 1 (by omega)).trans ((hk2 1 (by omega)).trans (hk1 1 (by omega)))
  rw [upd_same] at b0
  have hER : exR.d = .agg [.str sS, .int .i64 0, .sl 3 [.agg [.str sN, .int .i64 0, .str []], .agg [.str [], .int .i64 0, .str [117, 110, 100]], .agg [.str sN, .int .i64 0, .str []]], .sl 2 [.agg [.int .i64 2, .str []], .agg [.int .i64 0, .str [97, 110, 100]], .agg [.int .i64 0, .str []]], .int .i64 3] := rfl
  have hEE : exE.d = .agg [.str [104, 117, 110, 100], .str sN, .int .i64 0, .sl 1 [.str [100, 111, 103]], .int .i64 0] := rfl
  have hCR : (chainR sS sN).d = .agg [.str sS, .int .i64 0, .sl 3 [.agg [.str sN, .int .i64 0, .str []]], .sl 2 [.agg [.int .i64 0, .str []]], .int .i64 0] := rfl
  have hCN : (chainR sN sN).d = .agg [.str sN, .int .i64 0, .sl 3 [.agg [.str sN, .int .i64 0, .str []]], .sl 2 [.agg [.int .i64 0, .str []]], .int .i64 0] := rfl
  rw [hER, hCR] at b2 b4 b6
  rw [hEE] at b1 b3 b5
  simp (maxSteps := 1000000) (disch := omega) only [go_sem, exO, b0, b1, b2, b3, b4, b5, b6]
  refine call_pure (chain_c sN sN) (by simp [go_sem]) ?_
  rw [hCN]
  simp (maxSteps := 1000000) (disch := omega) only [go_sem, b0, b1, b2, b3, b4, b5, b6]
  generalize hE4 : (B3 4).ep + 1 = E4
  generalize hE5 : (B3 5).ep + 1 = E5
  generalize hE6 : (B3 6).ep + 1 = E6
  generalize hE7 : (B3 7).ep + 1 = E7
  refine append_own (ts := [397]) (xs := [exR.d, (chainR sS sN).d]) (.inr ⟨397, e6, by simp, rfl, ?_⟩) (by simp) (by simp [go_sem]) (by simp) (by omega) (by omega) (by simp) fun e7 B4 h1 h2 => ?_
  · rw [hER, hCR]; simp (disch := omega) only [upd_ne, b6]
  have c0 := h2 1 (by omega) (by simp)
  have c4 := h2 4 (by omega) (by simp)
  have c5 := h2 5 (by omega) (by simp)
  have c6 := h2 6 (by omega) (by simp)
  have c7 := h2 7 (by omega) (by simp)
  have c14 := h2 314 (by omega) (by simp)
  have c17 := h2 317 (by omega) (by simp)
  have c54 := h2 354 (by omega) (by simp)
  have c57 := h2 357 (by omega) (by simp)
  have c94 := h2 394 (by omega) (by simp)
  clear h2
  simp (disch := omega) only [upd_ne, upd_same, b0, b1, b2, b3, b4, b5] at c0 c4 c5 c6 c7 c14 c17 c54 c57 c94
  rw [hER, hCR] at h1
  simp (maxSteps := 1000000) (disch := omega) only [go_sem, c0, c4, c5, c6, c7, c14, c17, c54, c57, h1, hE4, hE5, hE6, hE7]
  have m33 : (33 : Int) * ((16 : Nat) : Int) ≤ 140737488355328 := by decide
  simp (maxSteps := 1000000) (disch := omega) only [go_sem, c0, c4, c5, c6, c7, c14, c17, c54, c57, h1, hE4, hE5, hE6, hE7, m33, List.length_replicate]
  generalize hB5 : upd (upd _ 140 _) 7 _ = B5
  have d0 : B5 1 = ⟨1, 1, 6, 26, [(setG exG).d]⟩ := by rw [← hB5, set_d]; simp (disch := omega) only [upd_ne, upd_same, c0]
  have d4 : B5 4 = ⟨E4, 1, 6, 26, [.agg [.str german, .sl 1 [.str sN, .str sS], .str sS, .int .i64 0, .osl 314 e1 5 0 1, .osl 317 e2 5 0 2]]⟩ := by rw [← hB5]; simp (disch := omega) only [upd_ne, upd_same, c4]
  have d5 : B5 5 = ⟨E5, 1, 6, 26, [.agg [.str german, .sl 1 [.str sN, .str sS], .str sS, .int .i64 0, .osl 354 e3 5 0 1, .osl 357 e4 5 0 2]]⟩ := by rw [← hB5]; simp (disch := omega) only [upd_ne, upd_same, c5]
  have d6 : B5 6 = ⟨E6, 1, 6, 26, [.agg [.str german, .sl 1 [.str sN, .str sS], .str sS, .int .i64 0, .osl 394 e5 5 0 1, .osl 138 e7 5 0 3]]⟩ := by rw [← hB5]; simp (disch := omega) only [upd_ne, upd_same, c6]
  obtain ⟨e8, d7, d40⟩ : ∃ e8, B5 7 = ⟨E7, 1, 6, 26, [.agg [.str german, .osl 140 e8 1 0 33, .str sS, .int .i64 0, .sl 5 [exE.d], .sl 5 [exR.d, (chainR sS sN).d]]]⟩ ∧ B5 140 = ⟨e8, 1, 1, 9, List.replicate 33 (.str [])⟩ := by
    rw [← hB5]; simp (disch := omega) only [upd_ne, upd_same]
    exact ⟨_, rfl, rfl⟩
  have d14 : B5 314 = ⟨e1, 1, 5, 44, leftG.entries.map Entry.d⟩ := by rw [← hB5]; simp (disch := omega) only [upd_ne, upd_same, c14]; rfl
  have d17 : B5 317 = ⟨e2, 1, 5, 42, leftG.rules.map Rule.d⟩ := by rw [← hB5]; simp (disch := omega) only [upd_ne, upd_same, c17]; rfl
  have d54 : B5 354 = ⟨e3, 1, 5, 44, wordG.entries.map Entry.d⟩ := by rw [← hB5]; simp (disch := omega) only [upd_ne, upd_same, c54]; rfl
  have d57 : B5 357 = ⟨e4, 1, 5, 42, wordG.rules.map Rule.d⟩ := by rw [← hB5]; simp (disch := omega) only [upd_ne, upd_same, c57]; rfl
  have d94 : B5 394 = ⟨e5, 1, 5, 44, circleG.entries.map Entry.d⟩ := by rw [← hB5]; simp (disch := omega) only [upd_ne, upd_same, c94]; rfl
  have d38 : B5 138 = ⟨e7, 1, 5, 42, circleG.rules.map Rule.d⟩ := by rw [← hB5]; simp (disch := omega) only [upd_ne, upd_same, h1]; rfl
  clear hB5 c0 c4 c5 c6 c7 c14 c17 c54 c57 c94 h1 b0 b1 b2 b3 b4 b5 b6
  have q1 := resolve_c leftG sm_left
  have q2 := resolve_c wordG sm_word
  have q3 := resolve_c circleG sm_circle
  have q4 := resolve_c largeG sm_large
  have q5 := resolve_c .zero sm_zero
  rw [r_left] at q1
  rw [r_word] at q2
  rw [r_circle] at q3
  rw [r_large] at q4
  rw [r_zero] at q5
  have keepF : ∀ (b : Bxs) (ds : List D) (s : Nat), s ∉ namesL ds → frzL b ds s = b s := fun b ds s h => by rw [frzL_at, if_neg h]
  have hz : ∀ n : Int, resD (.zero, n) = .tup [.agg [.str [], .sl 1 [], .str [], .int .i64 0, .sl 5 [], .sl 5 []], .int .i64 n] := fun _ => rfl
  rw [hz] at q1 q2 q3 q4 q5
  refine call_frz q1 (outG (n := german) (s := sS) (cs := [sN, sS]) (i := 0) (m1 := 1) (m2 := 2) d14 d17 (pure_ent leftG.entries) (pure_rls leftG.rules) rfl rfl) rfl ?_
  generalize hB6 : frzL B5 [.agg [.str german, .sl 1 [.str sN, .str sS], .str sS, .int .i64 0, .osl 314 e1 5 0 1, .osl 317 e2 5 0 2]] = B6
  have k6 : ∀ s, s ≠ 314 → s ≠ 317 → B6 s = B5 s := fun s h1 h2 => by rw [← hB6]; exact keepF _ _ _ (by simp [namesL, names, h1, h2])
  clear hB6
  simp (maxSteps := 1000000) (disch := omega) only [go_sem, (k6 5 (by omega) (by omega)).trans d5, hE5]
  generalize hB7 : upd (upd B6 8 _) 8 _ = B7
  have k7 : ∀ s, s ≠ 314 → s ≠ 317 → s ≠ 8 → B7 s = B5 s := fun s h1 h2 h3 => by rw [← hB7, upd_ne h3, upd_ne h3]; exact k6 s h1 h2
  clear hB7 k6
  refine call_frz q2 (outG (n := german) (s := sS) (cs := [sN, sS]) (i := 0) (m1 := 1) (m2 := 2) ((k7 354 (by omega) (by omega) (by omega)).trans d54) ((k7 357 (by omega) (by omega) (by omega)).trans d57) (pure_ent wordG.entries) (pure_rls wordG.rules) rfl rfl) rfl ?_
  generalize hB8 : frzL B7 _ = B8
  have k8 : ∀ s, s ≠ 314 → s ≠ 317 → s ≠ 8 → s ≠ 354 → s ≠ 357 → B8 s = B5 s := fun s h1 h2 h3 h4 h5 => by rw [← hB8, keepF _ _ _ (by simp [namesL, names, h4, h5])]; exact k7 s h1 h2 h3
  clear hB8 k7
  simp (maxSteps := 1000000) (disch := omega) only [go_sem, (k8 6 (by omega) (by omega) (by omega) (by omega) (by omega)).trans d6, hE6]
  generalize hB9 : upd (upd B8 10 _) 10 _ = B9
  have k9 : ∀ s, s ≠ 314 → s ≠ 317 → s ≠ 8 → s ≠ 354 → s ≠ 357 → s ≠ 10 → B9 s = B5 s := fun s h1 h2 h3 h4 h5 h6 => by rw [← hB9, upd_ne h6, upd_ne h6]; exact k8 s h1 h2 h3 h4 h5
  clear hB9 k8
  refine call_frz q3 (outG (n := german) (s := sS) (cs := [sN, sS]) (i := 0) (m1 := 1) (m2 := 3) ((k9 394 (by omega) (by omega) (by omega) (by omega) (by omega) (by omega)).trans d94) ((k9 138 (by omega) (by omega) (by omega) (by omega) (by omega) (by omega)).trans d38) (pure_ent circleG.entries) (pure_rls circleG.rules) rfl rfl) rfl ?_
  generalize hB10 : frzL B9 _ = B10
  have k10 : ∀ s, s = 1 ∨ s = 7 ∨ s = 140 → B10 s = B5 s := fun s h => by rw [← hB10, keepF _ _ _ (by simp [namesL, names]; omega)]; exact k9 s (by omega) (by omega) (by omega) (by omega) (by omega) (by omega)
  clear hB10 k9
  simp (maxSteps := 1000000) (disch := omega) only [go_sem, (k10 7 (by omega)).trans d7, hE7]
  generalize hB11 : upd (upd B10 12 _) 12 _ = B11
  have k11 : ∀ s, s = 1 ∨ s = 7 ∨ s = 140 → B11 s = B5 s := fun s h => by rw [← hB11, upd_ne (by omega), upd_ne (by omega)]; exact k10 s h
  clear hB11 k10
  refine call_frz (ds' := [largeG.d]) q4 ?_ rfl ?_
  · simp only [outL_cons, outL_nil, outD_agg, outD_osl, (k11 140 (by omega)).trans d40, outB_all e8 1 1 9 33 (List.replicate 33 (.str [])) (by decide) (by simp) (by decide)]
    simp [go_sem]
    rfl
  generalize hB12 : frzL B11 _ = B12
  have k12 : B12 1 = B5 1 := by rw [← hB12, keepF _ _ _ (by simp [namesL, names])]; exact k11 1 (by omega)
  clear hB12 k11
  simp (maxSteps := 1000000) (disch := omega) only [go_sem]
  refine call_pure (q5.weak1 (x := .agg [.str [], .nilsl, .str [], .int .i64 0, .nilsl, .nilsl]) (weak_agg6 (.refl _) (.nil _) (.refl _) (.refl _) (.nil _) (.nil _))) (by simp [go_sem]) ?_
  have kone := check_c oneG sm_one
  have kset := check_c (setG exG) sm_set
  have kexx := check_c exG sm_ex
  rw [k_one] at kone
  rw [k_set] at kset
  rw [k_ex] at kexx
  simp (maxSteps := 1000000) (disch := omega) only [go_sem, i1, decide_true]
  refine call_pure (kone.weak1 (x := .agg [.str [103, 101, 114, 109, 97, 110], .sl 1 [.str [115]], .str [115], .int .i64 0, .nilsl, .nilsl]) (weak_agg6 (.refl _) (.refl _) (.refl _) (.refl _) (.nil _) (.nil _))) (by simp [go_sem]) ?_
  rw [set_d] at kset
  rw [set_d] at d0
  simp (maxSteps := 1000000) (disch := omega) only [go_sem, i1, decide_true, k12, d0]
  refine call_pure kset (by simp [go_sem]) ?_
  simp (maxSteps := 1000000) (disch := omega) only [go_sem, i1, decide_true]
  refine call_pure exG_c (by simp [go_sem]) ?_
  simp (maxSteps := 1000000) (disch := omega) only [go_sem, i1, decide_true]
  refine call_pure kexx (by simp [D.pureL, pure_gram]) ?_
  simp (maxSteps := 1000000) (disch := omega) only [go_sem, i1, decide_true]
theorem sane_c : CallsTo Tryz.prog 4 [] (.bool true) :=
  (fnB_calls mixed sane_d rfl (by kernel_rfl) rfl).to (fun _ _ h => h) (fun d' bx' h => ⟨.bool true, by rw [h]; rfl, .refl _⟩)
end Go.V.Ty
