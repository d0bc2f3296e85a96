/-
  Types: TypesLinear.
-/
import Derived.Test.YtjeeajcllokafaaDoorTr
namespace Go.V.Ty
open Go.Proofs Go.RowKit Go.V.Lx Go.V.Gr
set_option linter.unusedSimpArgs false
set_option linter.unusedVariables false
set_option maxRecDepth 100000

theorem rule_nat {g : Gram} (hs : setG g = g) (T : Typed g) {x : Rule} (hx : x ∈ g.rules) : ∃ k : Nat, x.no = k ∧ k < g.cats.length := by
  have e1 : g.rules.map (setR g.cats) = g.rules := congrArg Gram.rules hs
  obtain ⟨i, hi⟩ := List.mem_iff_getElem?.1 hx
  have hx2 := congrArg (·[i]?) e1
  simp only [List.getElem?_map, hi, Option.map_some, Option.some.injEq] at hx2
  obtain ⟨k, hk, hkc⟩ := num_at (T.rul x hx)
  exact ⟨k, (congrArg Rule.no hx2).symm.trans hk, (List.getElem?_eq_some_iff.1 hkc).1⟩
theorem count_lt : ∀ {L : List Bool}, L.count true < L.length → ∃ i : Nat, L[i]? = some false
  | [], h => by simp at h
  | false :: L, _ => ⟨0, rfl⟩
  | true :: L, h => by
    simp at h
    obtain ⟨i, hi⟩ := count_lt h
    exact ⟨i + 1, by simpa using hi⟩
theorem count_set' {L : List Bool} {i : Nat} (h : L[i]? = some false) : (L.set i true).count true = L.count true + 1 := by
  obtain ⟨hi, h2⟩ := List.getElem?_eq_some_iff.1 h
  rw [List.count_set hi, h2]; simp
theorem check_ok {g : Gram} (h : checkL g = 0) : (resolveL g).2 = 0 ∧ setG g = g := by
  by_cases h0 : (resolveL g).2 = 0
  · exact ⟨h0, (check_iff h0).1.1 h⟩
  · rw [check_no h0] at h; exact (h0 h).elim
set_option maxHeartbeats 8000000 in
theorem linear_d (g : Gram) (hg : SmG g) : fnB Tryd.prog (orac Tryd.prog) [] Tryd.f5 0 [g.d] (fun _ => .none) (fun d _ => d = .bool true) (fun _ _ => False) := by
  refine fnB_intro _ [.tmp 2] 175 rfl rfl rfl (by kernel_rfl) ?_
  simp (maxSteps := 1000000) (disch := omega) only [go_sem, Gram.d, strs]
  refine call_pure sane_c rfl ?_
  simp (maxSteps := 1000000) (disch := omega) only [go_sem, Bool.not_true, Gram.d, strs]
  refine call_pure (few_c g hg.sz hg.name hg.start) (pg g) ?_
  cases hf : fewG g
  · simp (maxSteps := 1000000) (disch := omega) only [go_sem, hf, Bool.not_false]
  obtain ⟨l1, l2, l3, l4, l5⟩ := few_le hf
  simp (maxSteps := 1000000) (disch := omega) only [go_sem, hf, Bool.not_true, Gram.d, strs]
  refine call_pure (check_c g hg) (pg g) ?_
  by_cases hck : checkL g = 0
  rotate_left
  · simp (maxSteps := 1000000) (disch := omega) only [go_sem, hck, decide_false, Bool.not_false]
  obtain ⟨h0, hset⟩ := check_ok hck
  obtain ⟨hnd, hty, hcirc⟩ := res_typed h0
  have T := typed_of hty
  have hgd : g.d = .agg [.str g.name, .sl 1 (g.cats.map D.str), .str g.start, .int .i64 g.no, .sl 5 (g.entries.map Entry.d), .sl 5 (g.rules.map Rule.d)] := rfl
  simp (maxSteps := 1000000) (disch := omega) only [go_sem, hck, decide_true, Bool.not_true, Gram.d, strs]
  refine cD_for g.rules.length (fun j σ bx => σ 1 = .loc 1 1 0 0 ∧ σ 27 = .sl 5 (g.rules.map Rule.d) ∧ σ 28 = .int .i64 g.rules.length ∧ σ 29 = .int .i64 j ∧ bx 1 = ⟨1, 1, 6, 26, [g.d]⟩) ?_ ?_ ?_
  · simp (maxSteps := 1000000) (disch := omega) only [go_sem, hgd]
  · rintro j σ bx hj ⟨q1, q27, q28, q29, b1⟩
    obtain ⟨x, hx⟩ := get_lt hj
    have hlt : (j : Int) < (g.rules.length : Int) := by omega
    have hj1 : IntKind.i64.wrap ((j : Int) + 1) = ((j + 1 : Nat) : Int) := wrap_succ (by omega)
    have hxm := List.mem_of_getElem? hx
    have O := once_of hty hxm
    have hpl := (l5 x hxm).1
    have hgl := (l5 x hxm).2
    have k0 : (0 : Int) ≤ (x.parts.length : Int) := by omega
    have k1 : (x.parts.length : Int) ≤ (x.parts.length : Int) := by omega
    have k2 : (x.parts.length : Int) * ((1 : Nat) : Int) ≤ 140737488355328 := by omega
    have hz := mets_nil x.parts.length
    have hxd : x.d = .agg [.str x.cat, .int .i64 x.no, .sl 3 (x.parts.map Part.d), .sl 2 (x.gives.map Give.d), .int .i64 x.cost] := rfl
    obtain ⟨e4, he4⟩ : ∃ e4, (bx 4).ep + 1 = e4 := ⟨_, rfl⟩
    obtain ⟨e5, he5⟩ : ∃ e5, (bx 36).ep + 1 = e5 := ⟨_, rfl⟩
    simp (maxSteps := 1000000) (disch := omega) only [go_sem, q1, q27, q28, q29, hlt, hx, hxd, hz, k0, k1, k2, he4, he5, mets_len]
    refine cD_for x.gives.length (fun i σ bx => σ 1 = .loc 1 1 0 0 ∧ σ 27 = .sl 5 (g.rules.map Rule.d) ∧ σ 28 = .int .i64 g.rules.length ∧ σ 29 = .int .i64 j ∧ bx 1 = ⟨1, 1, 6, 26, [g.d]⟩ ∧ σ 4 = .loc 4 e4 0 0 ∧ bx 4 = ⟨e4, 1, 5, 40, [x.d]⟩ ∧ σ 5 = .osl 36 e5 1 0 x.parts.length ∧ bx 36 = ⟨e5, 1, 1, 4, mets (x.gives.take i) x.parts.length⟩ ∧ σ 38 = .sl 2 (x.gives.map Give.d) ∧ σ 39 = .int .i64 x.gives.length ∧ σ 40 = .int .i64 i) ?_ ?_ ?_
    · simp (maxSteps := 1000000) (disch := omega) only [go_sem, q1, q27, q28, q29, b1, he4, he5, mets_len, List.take_zero, hxd]
    · rintro i σ bx hi ⟨q1, q27, q28, q29, b1, q4, b4, q5, b36, q38, q39, q40⟩
      obtain ⟨y, hy⟩ := get_lt hi
      have hlt : (i : Int) < (x.gives.length : Int) := by omega
      have hi1 : IntKind.i64.wrap ((i : Int) + 1) = ((i + 1 : Nat) : Int) := wrap_succ (by omega)
      have htk : x.gives.take (i + 1) = x.gives.take i ++ [y] := by rw [List.take_add_one, hy]; rfl
      have hyd : y.d = .agg [.int .i64 y.part, .str y.text] := rfl
      by_cases ht : y.text = []
      · obtain ⟨hr1, hr2⟩ := O.give y (List.mem_of_getElem? hy) ht
        obtain ⟨k, hk⟩ : ∃ k : Nat, y.part = k := ⟨y.part.toNat, by omega⟩
        obtain ⟨q, hq, hqt, hq0⟩ := once_at O hy ht hk
        have hkl : k < x.parts.length := by omega
        have m1 : ¬ (k : Int) < 0 := by omega
        have m2 : ¬ (x.parts.length : Int) ≤ (k : Int) := by omega
        have m3 : (k : Int) < (x.parts.length : Int) := by omega
        have hmk : (mets (x.gives.take i) x.parts.length)[k]? = some (.bool false) := by rw [mets_at hkl, hq0]; rfl
        have hqd : q.d = .agg [.str q.cat, .int .i64 q.no, .str q.text] := rfl
        have hms := mets_set (gs := x.gives.take i) ht hk hkl
        simp (maxSteps := 1000000) (disch := omega) only [go_sem, q1, q27, q28, q29, q4, q5, q38, q39, q40, hlt, hi1, hy, hyd, ht, decide_true, decide_false, Bool.not_true, Bool.not_false, hk, m1, m2, m3, b36, hmk, b4, hxd, hq, hqd, hqt, mets_len, hms, b1]
        rw [htk]
      · simp (maxSteps := 1000000) (disch := omega) only [go_sem, q1, q27, q28, q29, q4, q5, q38, q39, q40, hlt, hi1, hy, hyd, ht, decide_true, decide_false, Bool.not_true, Bool.not_false, b1, b4, b36]
        rw [htk, mets_text ht]
    · rintro σ bx ⟨q1, q27, q28, q29, b1, q4, b4, q5, b36, q38, q39, q40⟩
      have hlt : ¬ (x.gives.length : Int) < (x.gives.length : Int) := by omega
      rw [List.take_length] at b36
      simp (maxSteps := 1000000) (disch := omega) only [go_sem, q1, q27, q28, q29, q4, q5, q38, q39, q40, hlt, b4, hxd]
      refine cD_for x.parts.length (fun i σ bx => σ 1 = .loc 1 1 0 0 ∧ σ 27 = .sl 5 (g.rules.map Rule.d) ∧ σ 28 = .int .i64 g.rules.length ∧ σ 29 = .int .i64 j ∧ bx 1 = ⟨1, 1, 6, 26, [g.d]⟩ ∧ σ 5 = .osl 36 e5 1 0 x.parts.length ∧ bx 36 = ⟨e5, 1, 1, 4, mets x.gives x.parts.length⟩ ∧ σ 80 = .sl 3 (x.parts.map Part.d) ∧ σ 81 = .int .i64 x.parts.length ∧ σ 82 = .int .i64 i) ?_ ?_ ?_
      · simp (maxSteps := 1000000) (disch := omega) only [go_sem, q1, q27, q28, q29, q5, b1, b36]
      · rintro i σ bx hi ⟨q1, q27, q28, q29, b1, q5, b36, q80, q81, q82⟩
        obtain ⟨q, hq⟩ := get_lt hi
        have hlt : (i : Int) < (x.parts.length : Int) := by omega
        have hi1 : IntKind.i64.wrap ((i : Int) + 1) = ((i + 1 : Nat) : Int) := wrap_succ (by omega)
        have hqd : q.d = .agg [.str q.cat, .int .i64 q.no, .str q.text] := rfl
        obtain ⟨o1, o2⟩ := O.part i q hq
        have hbb : (decide (cnt x.gives i ≠ 0) == !decide (q.text = [])) = false := by
          by_cases ht : q.text = []
          · have := o2.2 ht
            simp [ht, this]
          · have : cnt x.gives i = 0 := by
              by_cases h1 : cnt x.gives i = 1
              · exact (ht (o2.1 h1)).elim
              · omega
            simp [ht, this]
        simp (maxSteps := 1000000) (disch := omega) only [go_sem, q1, q27, q28, q29, q5, q80, q81, q82, hlt, hi1, hq, hqd, b36, mets_at hi, b1, hbb]
      · rintro σ bx ⟨q1, q27, q28, q29, b1, q5, b36, q80, q81, q82⟩
        have hlt : ¬ (x.parts.length : Int) < (x.parts.length : Int) := by omega
        simp (maxSteps := 1000000) (disch := omega) only [go_sem, q1, q27, q28, q29, q5, q80, q81, q82, hlt, hj1, b1]
  · rintro σ bx ⟨q1, q27, q28, q29, b1⟩
    have hlt : ¬ (g.rules.length : Int) < (g.rules.length : Int) := by omega
    have k0 : (0 : Int) ≤ (g.cats.length : Int) := by omega
    have k1 : (g.cats.length : Int) ≤ (g.cats.length : Int) := by omega
    have k2 : (g.cats.length : Int) * ((1 : Nat) : Int) ≤ 140737488355328 := by omega
    obtain ⟨e6, he6⟩ : ∃ e6, (bx 100).ep + 1 = e6 := ⟨_, rfl⟩
    simp (maxSteps := 1000000) (disch := omega) only [go_sem, q1, q27, q28, q29, hlt, b1, hgd, k0, k1, k2, he6]
    refine cD_for g.cats.length (fun k σ bx => σ 1 = .loc 1 1 0 0 ∧ σ 10 = .osl 100 e6 1 0 g.cats.length ∧ σ 103 = .int .i64 g.cats.length ∧ σ 104 = .int .i64 k ∧ bx 1 = ⟨1, 1, 6, 26, [g.d]⟩ ∧ ∃ L : List Bool, bx 100 = ⟨e6, 1, 1, 4, L.map D.bool⟩ ∧ L.length = g.cats.length ∧ L.count true = k) ?_ ?_ ?_
    · simp (maxSteps := 1000000) (disch := omega) only [go_sem, q1, b1, hgd, he6, List.length_replicate]
      exact ⟨List.replicate g.cats.length false, by rw [List.map_replicate], List.length_replicate, by rw [List.count_replicate]; rfl⟩
    · rintro k σ bx hk ⟨q1, q10, q103, q104, b1, L, b100, hL, hcn⟩
      have hlt : (k : Int) < (g.cats.length : Int) := by omega
      have hk1 : IntKind.i64.wrap ((k : Int) + 1) = ((k + 1 : Nat) : Int) := wrap_succ (by omega)
      simp (maxSteps := 1000000) (disch := omega) only [go_sem, q1, q10, q103, q104, hlt, b1, hgd]
      refine cD_for g.cats.length (fun i σ bx => σ 1 = .loc 1 1 0 0 ∧ σ 10 = .osl 100 e6 1 0 g.cats.length ∧ σ 103 = .int .i64 g.cats.length ∧ σ 104 = .int .i64 k ∧ σ 108 = .int .i64 g.cats.length ∧ σ 109 = .int .i64 i ∧ bx 1 = ⟨1, 1, 6, 26, [g.d]⟩ ∧ bx 100 = ⟨e6, 1, 1, 4, L.map D.bool⟩ ∧ ∀ i', i' < i → freeI g L i' = false) ?_ ?_ ?_
      · simp (maxSteps := 1000000) (disch := omega) only [go_sem, q1, q10, q103, q104, b1, b100, hgd]
        exact fun i' h => by omega
      · rintro i σ bx hi ⟨q1, q10, q103, q104, q108, q109, b1, b100, hno⟩
        have hlt : (i : Int) < (g.cats.length : Int) := by omega
        have hi1 : IntKind.i64.wrap ((i : Int) + 1) = ((i + 1 : Nat) : Int) := wrap_succ (by omega)
        obtain ⟨b, hb⟩ := get_lt (show i < L.length by omega)
        have hbm : (L.map D.bool)[i]? = some (.bool b) := by rw [List.getElem?_map, hb]; rfl
        simp (maxSteps := 1000000) (disch := omega) only [go_sem, q1, q10, q103, q104, q108, q109, hlt, b100, hb, b1, hgd]
        refine cD_for g.rules.length (fun m σ bx => σ 1 = .loc 1 1 0 0 ∧ σ 10 = .osl 100 e6 1 0 g.cats.length ∧ σ 103 = .int .i64 g.cats.length ∧ σ 104 = .int .i64 k ∧ σ 108 = .int .i64 g.cats.length ∧ σ 109 = .int .i64 i ∧ σ 12 = .int .i64 i ∧ σ 118 = .sl 5 (g.rules.map Rule.d) ∧ σ 119 = .int .i64 g.rules.length ∧ σ 120 = .int .i64 m ∧ bx 1 = ⟨1, 1, 6, 26, [g.d]⟩ ∧ bx 100 = ⟨e6, 1, 1, 4, L.map D.bool⟩ ∧ σ 13 = .bool (!b && (g.rules.take m).all fun x => !blk L i x)) ?_ ?_ ?_
        · simp (maxSteps := 1000000) (disch := omega) only [go_sem, q1, q10, q103, q104, q108, q109, b1, b100, List.take_zero, List.all_nil, Bool.and_true]
        · rintro m σ bx hm ⟨q1, q10, q103, q104, q108, q109, q12, q118, q119, q120, b1, b100, q13⟩
          obtain ⟨x, hx⟩ := get_lt hm
          have hxm := List.mem_of_getElem? hx
          obtain ⟨kk, hkk, hkl⟩ := rule_nat hset T hxm
          obtain ⟨c, hc⟩ := get_lt (show kk < L.length by omega)
          have hlt : (m : Int) < (g.rules.length : Int) := by omega
          have hm1 : IntKind.i64.wrap ((m : Int) + 1) = ((m + 1 : Nat) : Int) := wrap_succ (by omega)
          have hxd : x.d = .agg [.str x.cat, .int .i64 x.no, .sl 3 (x.parts.map Part.d), .sl 2 (x.gives.map Give.d), .int .i64 x.cost] := rfl
          have htk : (g.rules.take (m + 1)).all (fun x => !blk L i x) = ((g.rules.take m).all (fun x => !blk L i x) && !blk L i x) := by
            rw [List.take_add_one, hx, List.all_append]; simp
          have m1 : ¬ (kk : Int) < 0 := by omega
          have m2 : ¬ (g.cats.length : Int) ≤ (kk : Int) := by omega
          have m3 : (kk : Int) < (g.cats.length : Int) := by omega
          simp (maxSteps := 1000000) (disch := omega) only [go_sem, q1, q10, q103, q104, q108, q109, q12, q118, q119, q120, hlt, hx, hxd]
          by_cases h1 : (x.parts.length : Int) = 1
          · obtain ⟨q, hq⟩ := List.length_eq_one_iff.1 (show x.parts.length = 1 by omega)
            have hq0 : x.parts[0]? = some q := by rw [hq]; rfl
            have hqd : q.d = .agg [.str q.cat, .int .i64 q.no, .str q.text] := rfl
            by_cases ht : q.text = []
            · by_cases hqn : q.no = (i : Int)
              · cases c
                · have hbk : blk L i x = true := by simp [blk, hq, ht, hqn, hkk, hc]
                  simp (maxSteps := 1000000) (disch := omega) only [go_sem, h1, decide_true, hq0, hqd, ht, hqn, hkk, m1, m2, m3, decide_false, hc, q1, q10, q103, q104, q108, q109, q12, q118, q119, q120, q13, hm1, b1, b100, htk, hbk, Bool.not_true, Bool.not_false, Bool.and_true, Bool.and_false]
                · have hbk : blk L i x = false := by simp [blk, hq, ht, hqn, hkk, hc]
                  simp (maxSteps := 1000000) (disch := omega) only [go_sem, h1, decide_true, hq0, hqd, ht, hqn, hkk, m1, m2, m3, decide_false, hc, q1, q10, q103, q104, q108, q109, q12, q118, q119, q120, q13, hm1, b1, b100, htk, hbk, Bool.not_true, Bool.not_false, Bool.and_true, Bool.and_false]
              · have hbk : blk L i x = false := by simp [blk, hq, hqn]
                simp (maxSteps := 1000000) (disch := omega) only [go_sem, h1, decide_true, hq0, hqd, ht, hqn, decide_false, q1, q10, q103, q104, q108, q109, q12, q118, q119, q120, q13, hm1, b1, b100, htk, hbk, Bool.not_true, Bool.not_false, Bool.and_true, Bool.and_false]
            · have hbk : blk L i x = false := by simp [blk, hq, ht]
              simp (maxSteps := 1000000) (disch := omega) only [go_sem, h1, decide_true, hq0, hqd, ht, decide_false, q1, q10, q103, q104, q108, q109, q12, q118, q119, q120, q13, hm1, b1, b100, htk, hbk, Bool.not_true, Bool.not_false, Bool.and_true, Bool.and_false]
          · have hbk : blk L i x = false := by
              unfold blk; split
              · rename_i q hq; rw [hq] at h1; exact (h1 rfl).elim
              · rfl
            simp (maxSteps := 1000000) (disch := omega) only [go_sem, h1, decide_false, q1, q10, q103, q104, q108, q109, q12, q118, q119, q120, q13, hm1, b1, b100, htk, hbk, Bool.not_true, Bool.not_false, Bool.and_true, Bool.and_false]
        · rintro σ bx ⟨q1, q10, q103, q104, q108, q109, q12, q118, q119, q120, b1, b100, q13⟩
          have hlt : ¬ (g.rules.length : Int) < (g.rules.length : Int) := by omega
          rw [List.take_length] at q13
          have hfr : freeI g L i = (!b && g.rules.all fun x => !blk L i x) := by rw [freeI, hb]; rfl
          rw [← hfr] at q13
          cases hfi : freeI g L i
          · rw [hfi] at q13
            simp (maxSteps := 1000000) (disch := omega) only [go_sem, q1, q10, q103, q104, q108, q109, q12, q118, q119, q120, q13, hlt, hi1, b1, b100]
            intro i' h
            by_cases e : i' = i
            · rw [e]; exact hfi
            · exact hno i' (by omega)
          · rw [hfi] at q13
            have m1 : ¬ (i : Int) < 0 := by omega
            have hb0 : b = false := by cases b <;> simp_all
            simp (maxSteps := 1000000) (disch := omega) only [go_sem, q1, q10, q103, q104, q108, q109, q12, q118, q119, q120, q13, hlt, hk1, b1, b100, m1, hi, hb]
            exact ⟨L.set i true, by rw [List.map_set], by simp [hL], by rw [count_set' (by rw [hb, hb0]), hcn]⟩
      · rintro σ bx ⟨q1, q10, q103, q104, q108, q109, b1, b100, hno⟩
        obtain ⟨i, h1, h2⟩ := some_free hset T hnd hcirc hL (count_lt (by omega))
        rw [hno i (by omega)] at h2; cases h2
    · rintro σ bx ⟨q1, q10, q103, q104, b1, L, b100, hL, hcn⟩
      have hlt : ¬ (g.cats.length : Int) < (g.cats.length : Int) := by omega
      simp (maxSteps := 1000000) (disch := omega) only [go_sem, q1, q10, q103, q104, hlt]
theorem linear_all (xs : List D) (h : AllHave [shGram] xs) : CallsTo Tryd.prog 5 xs (.bool true) := by
  obtain ⟨a, _, rfl, h1, h⟩ := args_cons h
  obtain rfl := args_nil h
  obtain ⟨g, rfl, hg⟩ := has_gram h1
  exact (fnB_calls mixed (linear_d g hg) rfl (by kernel_rfl) rfl).to (fun _ _ h => h) (fun d' bx' h => ⟨.bool true, by rw [h]; rfl, .refl _⟩)
end Go.V.Ty
