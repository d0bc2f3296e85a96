/-
  Types: TypesMean.
-/
import Derived.Test.YtjeeajcllokafaaDoorTx
namespace Go.V.Ty
open Go.Proofs Go.RowKit Go.V.Lx Go.V.Gr
set_option linter.unusedSimpArgs false
set_option linter.unusedVariables false
set_option maxRecDepth 100000

theorem named_num {l : List Str} {s : Str} (h : l.contains s = true) : namedB l (num l s) s = true := by
  have hm : s ∈ l := List.contains_iff_mem.1 h
  have hlt := List.idxOf_lt_length_of_mem hm
  have hg : l[l.idxOf s]? = some s := by rw [List.getElem?_eq_getElem hlt, List.getElem_idxOf]
  simp only [namedB, num, h, if_true, decide_eq_true_eq, Int.toNat_natCast]
  exact ⟨by omega, by omega, hg⟩
theorem res_err {g : Gram} (h : (resolveL g).2 ≠ 0) : (resolveL g).1 = .zero ∧ ((resolveL g).2 = 2 ∨ (resolveL g).2 = 260 ∨ (resolveL g).2 = 261) := by
  unfold resolveL at h ⊢
  split
  · exact ⟨rfl, .inl rfl⟩
  · rename_i h1
    rw [if_neg h1] at h
    split
    · exact ⟨rfl, .inr (.inl rfl)⟩
    · rename_i h2
      rw [if_neg h2] at h
      split
      · exact ⟨rfl, .inr (.inr rfl)⟩
      · rename_i h3; rw [if_neg h3] at h; simp at h
theorem res_typed {g : Gram} (h : (resolveL g).2 = 0) : g.cats.Nodup ∧ typedB g.cats.contains g = true ∧ circB g = false := by
  unfold resolveL at h
  split at h
  · simp at h
  · split at h
    · simp at h
    · rename_i h2
      split at h
      · simp at h
      · rename_i h3
        simp only [not_or, Classical.not_not, Bool.not_eq_false] at h2
        exact ⟨h2.1, h2.2, by simpa using h3⟩
structure Typed (g : Gram) : Prop where
  start : g.cats.contains g.start = true
  ent : ∀ x ∈ g.entries, g.cats.contains x.cat = true
  rul : ∀ x ∈ g.rules, g.cats.contains x.cat = true
  part : ∀ x ∈ g.rules, ∀ q ∈ x.parts, q.text = [] → g.cats.contains q.cat = true
theorem typed_of {g : Gram} (h : typedB g.cats.contains g = true) : Typed g := by
  simp only [typedB, Bool.and_eq_true, List.all_eq_true] at h
  obtain ⟨h1, h2, h3, h4, h5, h6⟩ := h
  refine ⟨h4, fun x hx => ?_, fun x hx => ?_, fun x hx q hq ht => ?_⟩
  · have := h5 x hx
    simp only [entryB, Bool.and_eq_true] at this
    exact this.2.1
  · have := h6 x hx
    simp only [ruleB, Bool.and_eq_true] at this
    exact this.1
  · have := h6 x hx
    simp only [ruleB, Bool.and_eq_true, List.all_eq_true] at this
    have := this.2.2.2.2.1 q hq
    simpa [partB, ht] using this
set_option maxHeartbeats 8000000 in
theorem mean_d (g : Gram) (hg : SmG g) : fnB Tryd.prog (orac Tryd.prog) [(1000184, [])] Tryd.f4 0 [g.d] (fun _ => .none) (fun d _ => d = .bool true) (fun _ _ => False) := by
  refine fnB_intro _ [.tmp 2] 191 rfl rfl rfl (by kernel_rfl) ?_
  simp (maxSteps := 1000000) (disch := omega) only [go_sem, Gram.d, strs]
  refine call_pure sane_c rfl ?_
  simp (maxSteps := 1000000) (disch := omega) only [go_sem, Bool.not_true, Gram.d, strs]
  refine call_pure (few_c g hg.sz hg.name hg.start) (pg g) ?_
  cases hf : fewG g
  · simp (maxSteps := 1000000) (disch := omega) only [go_sem, hf, Bool.not_false]
  obtain ⟨l1, l2, l3, l4, l5⟩ := few_le hf
  simp (maxSteps := 1000000) (disch := omega) only [go_sem, hf, Bool.not_true, Gram.d, strs]
  refine call_pure (resolve_c g hg) (pg g) ?_
  by_cases h0 : (resolveL g).2 = 0
  rotate_left
  · obtain ⟨hz, he⟩ := res_err h0
    simp (maxSteps := 1000000) (disch := omega) only [go_sem, resD, Gram.d, strs, h0, hz, decide_false, Bool.not_false]
    have hs := sameG_c .zero .zero sm_zero.sz sm_zero.sz
    rw [decide_eq_true rfl] at hs
    refine call_pure (hs.weak2 (y := .agg [.str [], .nilsl, .str [], .int .i64 0, .nilsl, .nilsl]) (.refl _) (weak_agg6 (.refl _) (.nil _) (.refl _) (.refl _) (.nil _) (.nil _))) (by simp [go_sem, pure_gram, Gram.zero, Gram.d, strs]) ?_
    rcases he with he | he | he
    · simp (maxSteps := 1000000) (disch := omega) only [go_sem, he, decide_true]
    · simp (maxSteps := 1000000) (disch := omega) only [go_sem, he, decide_true, decide_false, Int.reduceEq]
    · simp (maxSteps := 1000000) (disch := omega) only [go_sem, he, decide_true, decide_false, Int.reduceEq]
  have hr := resolve_ok h0
  obtain ⟨hnd, hty, -⟩ := res_typed h0
  have T := typed_of hty
  have hel : (setG g).entries.length = g.entries.length := by simp [setG]
  have hrl : (setG g).rules.length = g.rules.length := by simp [setG]
  simp (maxSteps := 1000000) (disch := omega) only [go_sem, resD, Gram.d, strs, h0, hr, decide_true, Bool.not_true]
  refine call_pure (named_c g.cats (num g.cats g.start) g.start hg.clen) (by simp [go_sem, strs, pureL_strs]) ?_
  rw [named_num T.start]
  simp (maxSteps := 1000000) (disch := omega) only [go_sem, Bool.not_true, Gram.d, strs, hel, hrl, decide_true]
  have hge : ∀ (j : Nat) x, g.entries[j]? = some x → (setG g).entries[j]? = some (setE g.cats x) := fun j x h => by simp [setG, h]
  have hgr : ∀ (j : Nat) x, g.rules[j]? = some x → (setG g).rules[j]? = some (setR g.cats x) := fun j x h => by simp [setG, h]
  have hsd : (setG g).d = .agg [.str g.name, .sl 1 (g.cats.map D.str), .str g.start, .int .i64 (num g.cats g.start), .sl 5 ((setG g).entries.map Entry.d), .sl 5 ((setG g).rules.map Rule.d)] := rfl
  have hgd : g.d = .agg [.str g.name, .sl 1 (g.cats.map D.str), .str g.start, .int .i64 g.no, .sl 5 (g.entries.map Entry.d), .sl 5 (g.rules.map Rule.d)] := rfl
  refine cD_for g.entries.length (fun j σ bx => σ 1 = .loc 1 1 0 0 ∧ σ 3 = .loc 3 1 0 0 ∧ σ 5 = .loc 5 1 0 0 ∧ σ 74 = .sl 5 ((setG g).entries.map Entry.d) ∧ σ 75 = .int .i64 g.entries.length ∧ σ 76 = .int .i64 j ∧ bx 1 = ⟨1, 1, 6, 26, [g.d]⟩ ∧ bx 3 = ⟨1, 1, 6, 26, [(setG g).d]⟩ ∧
    ∃ x, bx 5 = ⟨1, 1, 6, 26, [.agg [.str g.name, .sl 1 (g.cats.map D.str), .str g.start, .int .i64 g.no, x, .nilsl]]⟩ ∧ OwnV bx [100] 36 5 x ((g.entries.take j).map Entry.d)) ?_ ?_ ?_
  · simp (maxSteps := 1000000) (disch := omega) only [go_sem, hel]
    exact ⟨rfl, rfl, .nilsl, rfl, by simpa using OwnV.nil _ _ _ _⟩
  · rintro j σ bx hj ⟨q1, q3, q5, q74, q75, q76, b1, b3, x', b5, ov⟩
    obtain ⟨x, hx⟩ := get_lt hj
    have hlt : (j : Int) < (g.entries.length : Int) := by omega
    have hj1 : IntKind.i64.wrap ((j : Int) + 1) = ((j + 1 : Nat) : Int) := wrap_succ (by omega)
    obtain ⟨v1, v2, v3⟩ := ov.facts
    have hsx := hge j x hx
    have hsxd : (setE g.cats x).d = .agg [.str x.text, .str x.cat, .int .i64 (num g.cats x.cat), .sl 1 (x.gives.map D.str), .int .i64 x.cost] := rfl
    have hxd : x.d = .agg [.str x.text, .str x.cat, .int .i64 x.no, .sl 1 (x.gives.map D.str), .int .i64 x.cost] := rfl
    simp (maxSteps := 1000000) (disch := omega) only [go_sem, q1, q3, q5, q74, q75, q76, b1, b3, b5, hlt, hsx, hsxd, hgd, hel]
    refine call_pure (named_c g.cats (num g.cats x.cat) x.cat hg.clen) (by simp [go_sem, strs, pureL_strs]) ?_
    rw [named_num (T.ent x (List.mem_of_getElem? hx))]
    simp (maxSteps := 1000000) (disch := omega) only [go_sem, q1, q3, q5, q74, q75, q76, b1, b3, b5, hlt, hx, hxd, hgd, hel, Bool.not_true, v1, v2, v3]
    refine append_all (ov.of (by simp [upd])) (by simp [go_sem]) (by simp; omega) (by omega) (by omega) (by omega) fun y bx' h1 h2 => ?_
    obtain ⟨v1, v2, v3⟩ := h1.facts
    have c1 := (h2 1 (by omega)).trans ((upd_ne (by omega)).trans ((upd_ne (by omega)).trans ((upd_ne (by omega)).trans b1)))
    have c3 := (h2 3 (by omega)).trans ((upd_ne (by omega)).trans ((upd_ne (by omega)).trans ((upd_ne (by omega)).trans b3)))
    have c5 := (h2 5 (by omega)).trans ((upd_ne (by omega)).trans ((upd_ne (by omega)).trans ((upd_ne (by omega)).trans b5)))
    simp (maxSteps := 1000000) (disch := omega) only [go_sem, q1, q3, q5, q74, q75, q76, c1, c3, c5, v1, v2, v3, hj1]
    rw [List.take_add_one, hx, List.map_append]
    exact ⟨y, rfl, h1.of (by simp [upd])⟩
  · rintro σ bx ⟨q1, q3, q5, q74, q75, q76, b1, b3, x', b5, ov⟩
    have hlt : ¬ (g.entries.length : Int) < (g.entries.length : Int) := by omega
    rw [List.take_length] at ov
    simp (maxSteps := 1000000) (disch := omega) only [go_sem, q1, q3, q5, q74, q75, q76, b1, b3, b5, hlt, hsd, hrl]
    clear hlt
    refine cD_forM g.rules.length (fun j σ bx => σ 1 = .loc 1 1 0 0 ∧ σ 5 = .loc 5 1 0 0 ∧ σ 104 = .sl 5 ((setG g).rules.map Rule.d) ∧ σ 105 = .int .i64 g.rules.length ∧ σ 106 = .int .i64 j ∧ bx 1 = ⟨1, 1, 6, 26, [g.d]⟩ ∧
      ∃ x y, bx 5 = ⟨1, 1, 6, 26, [.agg [.str g.name, .sl 1 (g.cats.map D.str), .str g.start, .int .i64 g.no, x, y]]⟩ ∧ OwnV bx [100] 36 5 x (g.entries.map Entry.d) ∧ Hoard 185 177 40 y ((g.rules.take j).map Rule.d) bx) ?_ ?_ ?_
    · simp (maxSteps := 1000000) (disch := omega) only [go_sem, q1, q5]
      exact ⟨b1, x', .nilsl, b5, ov, .inl ⟨rfl, by simp⟩⟩
    · rintro j σ bx hj ⟨q1, q5, q104, q105, q106, b1, x', y, b5, ov, hh⟩
      obtain ⟨x, hx⟩ := get_lt hj
      obtain ⟨bx0, hm, hk0, l, ol, hw, hpl⟩ := hh.melt (by decide)
      refine ⟨bx0, ?_, ?_⟩
      · rcases hm with rfl | ⟨l, h1, h2, h3⟩
        · exact .inl rfl
        · exact .inr ⟨rfl, 185, l, h1, h2, h3⟩
      clear hm hh
      replace b1 := (hk0 1 (by omega) (by omega)).trans b1
      replace b5 := (hk0 5 (by omega) (by omega)).trans b5
      replace ov := ov.of (bx' := bx0) fun q hq => hk0 q (by simp at hq; omega) (by simp at hq; omega)
      have hlt : (j : Int) < (g.rules.length : Int) := by omega
      have hj1 : IntKind.i64.wrap ((j : Int) + 1) = ((j + 1 : Nat) : Int) := wrap_succ (by omega)
      have hxm := List.mem_of_getElem? hx
      have hxp := (l5 x hxm).1
      have hsx := hgr j x hx
      have hpl2 : (setR g.cats x).parts.length = x.parts.length := by simp [setR]
      have hsp : ∀ (i : Nat) q, x.parts[i]? = some q → (setR g.cats x).parts[i]? = some (setP g.cats q) := fun i q h => by simp [setR, h]
      have hsxd : (setR g.cats x).d = .agg [.str x.cat, .int .i64 (num g.cats x.cat), .sl 3 ((setR g.cats x).parts.map Part.d), .sl 2 (x.gives.map Give.d), .int .i64 x.cost] := rfl
      have hxd : x.d = .agg [.str x.cat, .int .i64 x.no, .sl 3 (x.parts.map Part.d), .sl 2 (x.gives.map Give.d), .int .i64 x.cost] := rfl
      obtain ⟨v1, v2, v3⟩ := ol.facts
      simp (maxSteps := 1000000) (disch := omega) only [go_sem, q1, q5, q104, q105, q106, hlt, hsx, hx, hsxd, hxd, b1, hgd]
      refine call_pure (named_c g.cats (num g.cats x.cat) x.cat hg.clen) (by simp [go_sem, strs, pureL_strs]) ?_
      rw [named_num (T.rul x hxm)]
      simp (maxSteps := 1000000) (disch := omega) only [go_sem, q1, q5, q104, q105, q106, b1, hgd, Bool.not_true, hpl2, decide_true]
      obtain ⟨e9, he9⟩ : ∃ e9, (bx0 9).ep + 1 = e9 := ⟨_, rfl⟩
      obtain ⟨e10, he10⟩ : ∃ e10, (bx0 10).ep + 1 = e10 := ⟨_, rfl⟩
      rw [he9, he10]
      refine cD_for x.parts.length (fun i σ bx => σ 1 = .loc 1 1 0 0 ∧ σ 5 = .loc 5 1 0 0 ∧ σ 104 = .sl 5 ((setG g).rules.map Rule.d) ∧ σ 105 = .int .i64 g.rules.length ∧ σ 106 = .int .i64 j ∧ σ 9 = .loc 9 e9 0 0 ∧ σ 10 = .loc 10 e10 0 0 ∧ σ 137 = .sl 3 ((setR g.cats x).parts.map Part.d) ∧ σ 138 = .int .i64 x.parts.length ∧ σ 139 = .int .i64 i ∧
        bx 9 = ⟨e9, 1, 5, 40, [.agg [.str x.cat, .int .i64 x.no, .sl 3 ((setR g.cats x).parts.map Part.d), .sl 2 (x.gives.map Give.d), .int .i64 x.cost]]⟩ ∧ bx 10 = ⟨e10, 1, 5, 40, [x.d]⟩ ∧ (∀ q, q ≠ 9 → q ≠ 10 → q ≠ 13 → q ≠ 177 → bx q = bx0 q) ∧ OwnV bx [177] 42 3 (σ 11) ((x.parts.take i).map Part.d)) ?_ ?_ ?_
      · simp (maxSteps := 1000000) (disch := omega) only [go_sem, q1, q5, q104, q105, q106, he9, he10, hpl2, hxd]
        exact ⟨fun q h1 h2 h3 h4 => by simp [h1, h2], by simpa using OwnV.nil _ _ _ _⟩
      · rintro i σ bx hi ⟨q1, q5, q104, q105, q106, q9, q10, q137, q138, q139, b9, b10, hkb, op⟩
        obtain ⟨q, hq⟩ := get_lt hi
        have hlt : (i : Int) < (x.parts.length : Int) := by omega
        have hi1 : IntKind.i64.wrap ((i : Int) + 1) = ((i + 1 : Nat) : Int) := wrap_succ (by omega)
        generalize hp' : σ 11 = p' at op
        have c1 := (hkb 1 (by omega) (by omega) (by omega) (by omega)).trans b1
        have hsq := hsp i q hq
        have hqd : q.d = .agg [.str q.cat, .int .i64 q.no, .str q.text] := rfl
        by_cases ht : q.text = []
        · have hsqd : (setP g.cats q).d = .agg [.str q.cat, .int .i64 (num g.cats q.cat), .str q.text] := by simp [setP, Part.d, ht]
          simp (maxSteps := 1000000) (disch := omega) only [go_sem, q1, q5, q104, q105, q106, q9, q10, q137, q138, q139, hlt, hsq, hsqd, ht, decide_true, c1, hgd]
          refine call_pure (named_c g.cats (num g.cats q.cat) q.cat hg.clen) (by simp [go_sem, strs, pureL_strs]) ?_
          rw [named_num (T.part x hxm q (List.mem_of_getElem? hq) ht)]
          simp (maxSteps := 1000000) (disch := omega) only [go_sem, q1, q5, q104, q105, q106, q9, q10, q137, q138, q139, hlt, ht, decide_true, decide_false, Bool.not_false, Bool.not_true, b10, hxd, hq, hqd, hp']
          refine append_all (op.of (by simp [upd])) (by simp [go_sem]) (by simp; omega) (by omega) (by omega) (by omega) fun z bx' h1 h2 => ?_
          simp (maxSteps := 1000000) (disch := omega) only [go_sem, q1, q5, q104, q105, q106, q9, q10, q137, q138, q139, hi1]
          refine ⟨(h2 9 (by omega)).trans (by simp [upd, b9]), (h2 10 (by omega)).trans (by simp [upd, b10]), fun r g1 g2 g3 g4 => (h2 r g4).trans (by simp (disch := omega) only [upd_ne]; exact hkb r g1 g2 g3 g4), ?_⟩
          rw [List.take_add_one, hq, List.map_append]
          have he : List.map Part.d (some q).toList = [D.agg [.str q.cat, .int .i64 q.no, .str []]] := by show [q.d] = _; rw [hqd, ht]
          rw [he]
          exact h1
        · have hsqd : (setP g.cats q).d = .agg [.str q.cat, .int .i64 0, .str q.text] := by simp [setP, Part.d, ht]
          simp (maxSteps := 1000000) (disch := omega) only [go_sem, q1, q5, q104, q105, q106, q9, q10, q137, q138, q139, hlt, hsq, hsqd, ht, decide_true, decide_false, Bool.not_false, Bool.not_true, b10, hxd, hq, hqd, hp']
          refine append_all (op.of (by simp [upd])) (by simp [go_sem]) (by simp; omega) (by omega) (by omega) (by omega) fun z bx' h1 h2 => ?_
          simp (maxSteps := 1000000) (disch := omega) only [go_sem, q1, q5, q104, q105, q106, q9, q10, q137, q138, q139, hi1]
          refine ⟨(h2 9 (by omega)).trans (by simp [upd, b9]), (h2 10 (by omega)).trans (by simp [upd, b10]), fun r g1 g2 g3 g4 => (h2 r g4).trans (by simp (disch := omega) only [upd_ne]; exact hkb r g1 g2 g3 g4), ?_⟩
          rw [List.take_add_one, hq, List.map_append]
          exact h1
      · rintro σ bx ⟨q1, q5, q104, q105, q106, q9, q10, q137, q138, q139, b9, b10, hkb, op⟩
        have hlt : ¬ (x.parts.length : Int) < (x.parts.length : Int) := by omega
        rw [List.take_length] at op
        generalize hp' : σ 11 = p' at op
        have c5 := (hkb 5 (by omega) (by omega) (by omega) (by omega)).trans b5
        obtain ⟨w1, w2, w3⟩ := op.facts
        simp (maxSteps := 1000000) (disch := omega) only [go_sem, q1, q5, q104, q105, q106, q9, q10, q137, q138, q139, b9, hlt, hp', w1, w2, w3, c5, v1, v2, v3]
        rw [elems_one (upd_same _ _ _)]
        simp only [Option.bind_some]
        have hll := hw.len
        simp at hll
        refine append_own (ts := [185]) (xs := l) (ol.of fun q hq => by simp at hq; subst hq; exact (upd_ne (by omega)).trans ((upd_ne (by omega)).trans (hkb 185 (by omega) (by omega) (by omega) (by omega)))) (by simp) (by simp [go_sem]) (by simp; omega) (by omega) (by omega) (by simp) fun e' bx' h1 h2 => ?_
        have k5 := (h2 5 (by omega) (by simp)).trans ((upd_ne (by omega)).trans ((upd_ne (by omega)).trans c5))
        have k1 := (h2 1 (by omega) (by simp)).trans ((upd_ne (by omega)).trans ((upd_ne (by omega)).trans ((hkb 1 (by omega) (by omega) (by omega) (by omega)).trans b1)))
        have k100 := (h2 100 (by omega) (by simp)).trans ((upd_ne (by omega)).trans ((upd_ne (by omega)).trans (hkb 100 (by omega) (by omega) (by omega) (by omega))))
        have k177 := (h2 177 (by omega) (by simp)).trans ((upd_ne (by omega)).trans (upd_ne (by omega)))
        simp (maxSteps := 1000000) (disch := omega) only [go_sem, q1, q5, q104, q105, q106, k5, k1, hj1]
        generalize hB : upd bx' 5 _ = B
        have m177 : B 177 = bx 177 := by rw [← hB]; exact (upd_ne (by omega)).trans k177
        have m100 : B 100 = bx0 100 := by rw [← hB]; exact (upd_ne (by omega)).trans k100
        have m185 : B 185 = bx' 185 := by rw [← hB]; exact upd_ne (by omega)
        rw [h1] at m185
        clear hB
        refine ⟨x', _, rfl, ov.of fun q hq => by simp at hq; subst hq; exact m100, ?_⟩
        rw [List.take_add_one, hx, List.map_append]
        obtain ⟨r, hr1, hr2, hr3⟩ := out_weak (op.of (bx' := B) fun q hq => by simp at hq; subst hq; exact m177) (pure_part _) (.refl _)
        refine Hoard.add (dm := x.d) (d' := .agg [.str x.cat, .int .i64 x.no, r, .sl 2 (x.gives.map Give.d), .int .i64 x.cost]) hw hpl m185 ?_ (by simp [D.pure, D.pureL, hr3, pure_give]) rfl ?_ ?_
        · simp only [outD_agg, outL_cons, outL_nil, hr1]
          simp [go_sem]
        · intro k c c' hc hc'
          rw [hxd] at hc'
          match k with
          | 0 => simp [D.cells] at hc hc'; subst hc; subst hc'; exact .refl _
          | 1 => simp [D.cells] at hc hc'; subst hc; subst hc'; exact .refl _
          | 2 => simp [D.cells] at hc hc'; subst hc; subst hc'; exact hr2
          | 3 => simp [D.cells] at hc hc'; subst hc; subst hc'; exact .refl _
          | 4 => simp [D.cells] at hc hc'; subst hc; subst hc'; exact .refl _
          | k + 5 => simp [D.cells] at hc
        · intro q hq
          simp only [names, namesL, List.mem_append, List.not_mem_nil, false_or, or_false] at hq
          have := OwnV.names op q hq
          simpa using this
    · rintro σ bx ⟨q1, q5, q104, q105, q106, b1, x', y, b5, ov, hh⟩
      have hlt : ¬ (g.rules.length : Int) < (g.rules.length : Int) := by omega
      obtain ⟨bx0, hm, hk0, l, ol, hw, hpl⟩ := hh.melt (by decide)
      refine ⟨bx0, ?_, ?_⟩
      · rcases hm with rfl | ⟨l, h1, h2, h3⟩
        · exact .inl rfl
        · exact .inr ⟨rfl, 185, l, h1, h2, h3⟩
      clear hm hh
      replace b1 := (hk0 1 (by omega) (by omega)).trans b1
      replace b5 := (hk0 5 (by omega) (by omega)).trans b5
      replace ov := ov.of (bx' := bx0) fun q hq => hk0 q (by simp at hq; omega) (by simp at hq; omega)
      obtain ⟨v1, v2, v3⟩ := ol.facts
      obtain ⟨w1, w2, w3⟩ := ov.facts
      rw [List.take_length] at hw
      simp (maxSteps := 1000000) (disch := omega) only [go_sem, q1, q5, q104, q105, q106, hlt, b1, b5, v1, v2, v3, w1, w2, w3, hgd]
      obtain ⟨rE, hE1, hE2, -⟩ := out_weak ov (pure_ent _) (.refl _)
      obtain ⟨rR, hR1, hR2, -⟩ := out_weak ol hpl hw
      have hs := sameG_c g g hg.sz hg.sz
      rw [decide_eq_true rfl, hgd] at hs
      refine call_read (hs.weak2 (x := .agg [.str g.name, .sl 1 (g.cats.map D.str), .str g.start, .int .i64 g.no, rE, rR]) (weak_agg6 (.refl _) (.refl _) (.refl _) (.refl _) hE2 hR2) (.refl _)) ?_ rfl ?_
      · simp only [outD_agg, outL_cons, outL_nil, hE1, hR1]
        simp [go_sem]
      · simp (maxSteps := 1000000) (disch := omega) only [go_sem]
theorem mean_all (xs : List D) (h : AllHave [shGram] xs) : CallsTo Tryd.prog 4 xs (.bool true) := by
  obtain ⟨a, _, rfl, h1, h⟩ := args_cons h
  obtain rfl := args_nil h
  obtain ⟨g, rfl, hg⟩ := has_gram h1
  exact (fnB_calls mixed (mean_d g hg) rfl (by kernel_rfl) rfl).to (fun _ _ h => h) (fun d' bx' h => ⟨.bool true, by rw [h]; rfl, .refl _⟩)
end Go.V.Ty
